/- Texts of this claim, merged by a program: Are Ar2 Ar3. -/
import Derived.Test.YtldgbnlcnlfmeaaQcP
import Derived.Test.YtldgbnlcnlfmeaaQc9
import Derived.Test.YtldgbnlcnlfmeaaQc2
namespace Go.Proofs.Ytldgbnlcnlfmeaa
open Go.RowKit
set_option linter.unusedVariables false
set_option linter.unusedSimpArgs false
theorem Ty.rd_ones {w : World} : ∀ {t : Ty} {cs : List Value} {x : t.D}, t.rd w cs x → ∀ u ∈ cs, u.oneCell' = true
 | .int, _, _, h => by rw [h.1]; intro u hu; simp at hu; subst hu; rfl
 | .byte, _, _, h => by rw [show _ = _ from h]; intro u hu; simp at hu; subst hu; rfl
 | .bool, _, _, h => by rw [show _ = _ from h]; intro u hu; simp at hu; subst hu; rfl
 | .str, _, _, h => by rw [h.1]; intro u hu; simp at hu; subst hu; rfl
 | .sl _, _, _, ⟨_, _, h, _⟩ => by rw [h]; intro u hu; simp at hu; subst hu; rfl
 | .pr a b, _, _, ⟨c1, c2, h, h1, h2⟩ => by
  rw [h]; intro u hu
  rcases List.mem_append.1 hu with hu | hu
  ·exact Ty.rd_ones h1 u hu
  ·exact Ty.rd_ones h2 u hu
theorem Ty.rd_any {w W : World} : ∀ {t : Ty} {cs : List Value} {x : t.D}, t.flat = true → t.rd w cs x → t.rd W cs x
 | .int, _, _, _, h => h
 | .byte, _, _, _, h => h
 | .bool, _, _, _, h => h
 | .str, _, _, _, h => h
 | .sl _, _, _, hf, _ => by simp [Ty.flat] at hf
 | .pr a b, _, _, hf, ⟨c1, c2, h, h1, h2⟩ => by
  simp only [Ty.flat, Bool.and_eq_true] at hf
  exact ⟨c1, c2, h, Ty.rd_any hf.1 h1, Ty.rd_any hf.2 h2⟩
def RdI (t : Ty) (lo hi : Nat) (w : World) (cs : List Value) (x : t.D) : Prop := hi ≤ w.heap.size ∧ ∀ W : World, (∀ b, lo ≤ b → b < hi → W.heap[b]? = w.heap[b]?) → t.rd W cs x
section
variable {t : Ty} {lo hi : Nat} {w w' : World} {cs : List Value} {x : t.D}
theorem RdI.rd (h : RdI t lo hi w cs x) : t.rd w cs x := h.2 w (fun _ _ _ => rfl)
theorem RdI.mono {lo' hi' : Nat} (h : RdI t lo hi w cs x) (h1 : lo' ≤ lo) (h2 : hi ≤ hi') (h3 : hi' ≤ w.heap.size) : RdI t lo' hi' w cs x := ⟨h3, fun W hW => h.2 W (fun b hb hb' => hW b b_34 b_34)⟩
theorem RdI.keep (h : RdI t lo hi w cs x) (hs : w.heap.size ≤ w'.heap.size) (hk : ∀ b, lo ≤ b → b < hi → w'.heap[b]? = w.heap[b]?) : RdI t lo hi w' cs x := ⟨Nat.le_trans h.1 hs, fun W hW => h.2 W (fun b hb hb' => (hW b hb hb').trans (hk b hb hb'))⟩
theorem RdI.below (h : RdI t lo hi w cs x) (hb : Below w.heap.size w w') : RdI t lo hi w' cs x := h.keep hb.size (fun b _ h2 => hb.block b (by have := h.1; omega))
theorem RdI.alloc (h : RdI t lo hi w cs x) (o : Obj) : RdI t lo hi (w.alloc o) cs x := h.below (bel_alloc (Below.refl _ _) o)
theorem RdI.drew (h : RdI t lo hi w cs x) : RdI t lo hi w.drew cs x := h.below (bel_drew (Below.refl _ _))
theorem RdI.drewN (h : RdI t lo hi w cs x) (n : Nat) : RdI t lo hi (w.drewN n) cs x := h.below (bel_drewN (Below.refl _ _) n)
theorem RdI.dr {B : Nat} (h : RdI t lo hi w cs x) (hd : Dr B w w') (hB : B < lo) : RdI t lo hi w' cs x := h.keep hd.size (fun b h1 h2 => hd.block (by have := h.1; omega) b_34)
theorem RdI.set (h : RdI t lo hi w cs x) {p : Addr} (hp : p.block < lo ∨ hi ≤ p.block) (u : Value) : RdI t lo hi (w.setCell p u) cs x := h.keep b_22 (fun b h1 h2 => Below.heap_setCell _ _ _ _ b_34)
theorem RdI.grown {row : Option Nat} (h : RdI t lo hi w cs x) (hg : w.grownBy w' row) (hr : ∀ g, row = some g → g < lo ∨ hi ≤ g) : RdI t lo hi w' cs x := h.keep hg.size (fun b h1 h2 => hg.block b (by have := h.1; omega) (fun e => by have := hr b e.symm; omega))
theorem RdI.hide {B : Nat} (h : RdI t lo hi w cs x) (hB : B < lo) : t.rd (hide B w) cs x := h.2 _ (fun b h1 _ => hide_other b_34 w)
theorem RdI.of_ow {fp : List Nat} (h : t.ow w cs x fp) (hf : ∀ b ∈ fp, lo ≤ b ∧ b < hi) (hs : hi ≤ w.heap.size) : RdI t lo hi w cs x := ⟨hs, fun W hW => Ty.ow_rd (Ty.ow_keep (fun b hb => hW b (hf b hb).1 (hf b hb).2) h)⟩
theorem RdI.of_owF {fp : List Nat} (h : t.ow w cs x fp) (hf : FrI lo hi fp) (hs : hi ≤ w.heap.size) : RdI t lo hi w cs x := RdI.of_ow h hf.2 hs
theorem oz {t : Ty} {lo lo' hi : Nat} {w : World} {cs : List Value} {x : t.D} {fp : List Nat} (h : t.ow w cs x fp) (hf : FrI lo' hi fp) (hl : lo ≤ lo' := by (try simp only [szz]); omega) (hs : hi ≤ w.heap.size := by exact Nat.le_refl _) : RdI t lo hi w cs x := RdI.of_ow h (fun q hq => ⟨Nat.le_trans hl (hf.2 q hq).1, (hf.2 q hq).2⟩) hs
theorem RdI.flat (hf : t.flat = true) (h : t.rd w cs x) (hs : hi ≤ w.heap.size) : RdI t lo hi w cs x := ⟨hs, fun W _ => Ty.rd_any hf h⟩
end
theorem RdI.pr {a b : Ty} {lo hi : Nat} {w : World} {c1 c2 : List Value} {x : a.D} {y : b.D} (h1 : RdI a lo hi w c1 x) (h2 : RdI b lo hi w c2 y) : RdI (.pr a b) lo hi w (c1 ++ c2) (x, y) := ⟨h1.1, fun W hW => ⟨c1, c2, rfl, h1.2 W hW, h2.2 W hW⟩⟩
theorem RdI.fst {a b : Ty} {lo hi : Nat} {w : World} {cs : List Value} {x : a.D × b.D} (h : RdI (.pr a b) lo hi w cs x) : RdI a lo hi w (cs.take a.sz) x.1 := ⟨h.1, fun W hW => by
 obtain ⟨c1, c2, rfl, h1, h2⟩ := h.2 W hW
 rw [← Ty.rd_len h1, List.take_left' rfl]; exact h1⟩
theorem RdI.snd {a b : Ty} {lo hi : Nat} {w : World} {cs : List Value} {x : a.D × b.D} (h : RdI (.pr a b) lo hi w cs x) : RdI b lo hi w (cs.drop a.sz) x.2 := ⟨h.1, fun W hW => by
 obtain ⟨c1, c2, rfl, h1, h2⟩ := h.2 W hW
 rw [← Ty.rd_len h1, List.drop_left' rfl]; exact h2⟩
theorem RdI.int {lo hi : Nat} {w : World} {n : Int} (h : -9223372036854775808 ≤ n ∧ n ≤ 9223372036854775807) (hs : hi ≤ w.heap.size) : RdI .int lo hi w [.int .i64 n] n := ⟨hs, fun _ _ => ⟨rfl, h⟩⟩
theorem RdI.nil (e : Ty) {lo hi : Nat} {w : World} (A : Option Addr) (hs : hi ≤ w.heap.size) : RdI (.sl e) lo hi w [.slice A 0 0] [] := ⟨hs, fun _ _ => ⟨A, 0, rfl, Nat.le_refl _, ⟨Nat.zero_le _, fun _ => rfl⟩, by simp, fun h => absurd h (by simp)⟩⟩
def GRow (e : Ty) (lo : Nat) (ex : List Nat) (w : World) (te : TypeId) (v : Value) (x : List e.D) : Prop :=
 ∃ (P : Nat → Prop) (css : Nat → List Value), (∀ b, P b → lo ≤ b ∧ b < w.heap.size ∧ b ∉ ex) ∧ w.ownsRow lo te e.sz v x.length ((List.range x.length).flatMap css) ∧
  (∀ i (h : i < x.length), (css i).length = e.sz ∧ ∀ W : World, (∀ b, P b → W.heap[b]? = w.heap[b]?) → e.rd W (css i) x[i]) ∧
  (∀ g, v.ownBlock = some g → ¬ P g ∧ g ∉ ex)
section
variable {e : Ty} {lo : Nat} {ex : List Nat} {w w' : World} {te : TypeId} {v : Value} {x : List e.D}
theorem GRow.block (h : GRow e lo ex w te v x) : ∀ g, v.ownBlock = some g → lo ≤ g ∧ g < w.heap.size ∧ g ∉ ex := by
 obtain ⟨P, css, h0, h1, h2, h3⟩ := h
 exact fun g hg => ⟨(h1.lt g hg).1, (h1.lt g hg).2, (h3 g hg).2⟩
theorem GRow.keep (h : GRow e lo ex w te v x) (hs : w.heap.size ≤ w'.heap.size) (hk : ∀ b, lo ≤ b → b < w.heap.size → b ∉ ex → w'.heap[b]? = w.heap[b]?) : GRow e lo ex w' te v x := by
 have hbl := h.block
 obtain ⟨P, css, h0, h1, h2, h3⟩ := h
 refine ⟨P, css, fun b hb => ⟨(h0 b hb).1, Nat.lt_of_lt_of_le (h0 b hb).2.1 hs, (h0 b hb).2.2⟩, ⟨h1.1, ?_⟩, fun i hi => ⟨(h2 i hi).1, fun W hW => (h2 i hi).2 W (fun b hb => (hW b hb).trans (hk b (h0 b hb).1 (h0 b hb).2.1 (h0 b hb).2.2))⟩, h3⟩
 rcases h1.2 with hn | ⟨g, cap, cur, rfl, hbg, hgg, rest⟩
 ·exact .inl hn
 ·have := hbl g rfl
  exact .inr ⟨g, cap, cur, rfl, hbg, (hk g this.1 this.2.1 this.2.2).trans hgg, rest⟩
theorem GRow.below (h : GRow e lo ex w te v x) (hb : Below w.heap.size w w') : GRow e lo ex w' te v x := h.keep hb.size (fun b _ h2 _ => hb.block b h2)
theorem GRow.alloc (h : GRow e lo ex w te v x) (o : Obj) : GRow e lo ex (w.alloc o) te v x := h.below (bel_alloc (Below.refl _ _) o)
theorem GRow.drew (h : GRow e lo ex w te v x) : GRow e lo ex w.drew te v x := h.below (bel_drew (Below.refl _ _))
theorem GRow.drewN (h : GRow e lo ex w te v x) (n : Nat) : GRow e lo ex (w.drewN n) te v x := h.below (bel_drewN (Below.refl _ _) n)
theorem GRow.dr {B : Nat} (h : GRow e lo ex w te v x) (hd : Dr B w w') (hB : B < lo) : GRow e lo ex w' te v x := h.keep hd.size (fun b h1 h2 _ => hd.block h2 b_34)
theorem GRow.set (h : GRow e lo ex w te v x) {p : Addr} (hp : p.block < lo ∨ p.block ∈ ex) (u : Value) : GRow e lo ex (w.setCell p u) te v x := h.keep b_22 (fun b h1 h2 h3 => Below.heap_setCell _ _ _ _ (fun e => by rcases hp with hp | hp; omega; rw [e] at h3; exact h3 hp))
theorem GRow.grown {row : Option Nat} (h : GRow e lo ex w te v x) (hg : w.grownBy w' row) (hr : ∀ g, row = some g → g < lo ∨ g ∈ ex) : GRow e lo ex w' te v x := h.keep hg.size (fun b h1 h2 h3 => hg.block b h2 (fun e => by rcases hr b e.symm with h | h; omega; exact h3 h))
theorem GRow.addEx {g : Nat} (h : GRow e lo ex w te v x) (hg : w.heap.size ≤ g) : GRow e lo (g :: ex) w te v x := by
 have hbl := h.block
 obtain ⟨P, css, h0, h1, h2, h3⟩ := h
 refine ⟨P, css, fun b hb => ⟨(h0 b hb).1, (h0 b hb).2.1, ?_⟩, h1, h2, fun q hq => ⟨(h3 q hq).1, ?_⟩⟩
 ·have := h0 b hb; intro hm; rcases List.mem_cons.1 hm with rfl | hm
  ·omega
  ·exact this.2.2 hm
 ·have := hbl q hq; intro hm; rcases List.mem_cons.1 hm with rfl | hm
  ·omega
  ·exact this.2.2 hm
theorem GRow.unEx (h : GRow e lo ex w te v x) : GRow e lo [] w te v x := by
 obtain ⟨P, css, h0, h1, h2, h3⟩ := h
 exact ⟨P, css, fun b hb => ⟨(h0 b hb).1, (h0 b hb).2.1, by simp⟩, h1, h2, fun q hq => ⟨(h3 q hq).1, by simp⟩⟩
theorem GRow.mono {lo' : Nat} (h : GRow e lo ex w te v x) (hl : lo' ≤ lo) : GRow e lo' ex w te v x := by
 obtain ⟨P, css, h0, h1, h2, h3⟩ := h
 refine ⟨P, css, fun b hb => ⟨Nat.le_trans hl (h0 b hb).1, (h0 b hb).2⟩, ⟨h1.1, ?_⟩, h2, h3⟩
 rcases h1.2 with hn | ⟨g, cap, cur, rfl, hbg, rest⟩
 ·exact .inl hn
 ·exact .inr ⟨g, cap, cur, rfl, Nat.le_trans hl hbg, rest⟩
theorem GRow.le (h : GRow e lo ex w te v x) : x.length ≤ maxLen := by
 obtain ⟨P, css, _, h, _⟩ := h
 rcases h.2 with ⟨_, hn⟩ | ⟨g, cap, cur, _, _, _, h1, h2, _⟩
 ·rw [hn]; exact Nat.zero_le _
 ·exact Nat.le_trans h1 h2
theorem GRow.form (h : GRow e lo ex w te v x) : ∃ A c, v = .slice A x.length c := by
 obtain ⟨P, css, _, h, _⟩ := h
 rcases h.2 with ⟨rfl, hn⟩ | ⟨g, cap, cur, rfl, _⟩
 ·exact ⟨none, 0, by rw [hn]⟩
 ·exact ⟨_, _, rfl⟩
theorem GRow.rdI (h : GRow e lo ex w te v x) : RdI (.sl e) lo w.heap.size w [v] x := by
 refine ⟨Nat.le_refl _, fun W hW => ?_⟩
 have hl := h.le
 unfold maxLen at hl
 obtain ⟨P, css, h0, h1, h2, h3⟩ := h
 rcases h1.2 with ⟨rfl, hn⟩ | ⟨g, cap, cur, rfl, hbg, hg, hnc, hcm, hcs, htake⟩
 ·have hx : x = [] := List.eq_nil_of_length_eq_zero hn
  subst hx
  exact ⟨none, 0, rfl, by simp, ⟨by unfold maxLen; omega, fun _ => rfl⟩, by simp, fun h => absurd h (by simp)⟩
 ·have hlt : g < w.heap.size := Blk.lt (t := te) (cs := cur) hg
  refine ⟨_, _, rfl, hnc, ⟨hcm, fun h => by cases h⟩, by omega, fun h0' => ⟨g, 0, rfl, fun i hi => ?_⟩⟩
  refine ⟨css i, (h2 i hi).1, fun j hj => ?_, (h2 i hi).2 W (fun b hb => hW b (h0 b hb).1 (h0 b hb).2.1)⟩
  have h5 : (i + 1) * e.sz ≤ x.length * e.sz := Nat.mul_le_mul_right _ hi
  rw [Nat.succ_mul] at h5
  rw [World.cell?_of_block (w := w) (a := ⟨g, 0 + i * e.sz + j, none⟩) (hW g hbg hlt), Nat.zero_add, h1.cellAt (i * e.sz + j) b_34]
  exact fmr_get css e.sz x.length (fun i hi => (h2 i hi).1) i j hi hj
theorem GRow.rd (h : GRow e lo ex w te v x) : (Ty.sl e).rd w [v] x := h.rdI.rd
theorem GRow.ofDRow (h : DRow e w lo te v x) : GRow e lo [] w te v x := by
 obtain ⟨css, fs, h1, h2, h3, h4⟩ := h
 refine ⟨fun b => b ∈ (List.range x.length).flatMap fs, css, fun b hb => ⟨(h3.2 b hb).1, (h3.2 b hb).2, by simp⟩, h1, fun i hi => ⟨(h2 i hi).1, fun W hW => Ty.ow_rd (Ty.ow_keep (fun b hb => hW b (List.mem_flatMap.2 ⟨i, List.mem_range.2 hi, hb⟩)) (h2 i hi).2)⟩, fun g hg => ⟨h4 g hg, by simp⟩⟩
theorem GRow.ofRowEx {F : Flat e} (hf : e.flat = true) (h : Row F w lo te v x) (hex : ∀ q, v.ownBlock = some q → q ∉ ex) : GRow e lo ex w te v x := by
 refine ⟨fun _ => False, fun i => if hi : i < x.length then [F.enc x[i]] else [], fun b hb => hb.elim, ?_, fun i hi => ⟨?_, fun W _ => ?_⟩, fun g hg => ⟨fun h => h, hex g hg⟩⟩
 ·have : (List.range x.length).flatMap (fun i => if hi : i < x.length then [F.enc x[i]] else []) = x.map F.enc := by
   apply List.ext_getElem?
   intro i
   by_cases hi : i < x.length
   ·have := fmr_get (fun i => if hi : i < x.length then [F.enc x[i]] else []) 1 x.length (fun i hi => by simp only [dif_pos hi]; rfl) i 0 hi b_34
    simp only [Nat.mul_one, Nat.add_zero, dif_pos hi] at this
    rw [this]; simp [hi]
   ·rw [List.getElem?_eq_none (by rw [fmr_len _ 1 x.length (fun i hi => by simp only [dif_pos hi]; rfl)]; omega), List.getElem?_eq_none (by rw [List.length_map]; omega)]
  rw [this, F.sz]; exact h.1
 ·simp only [dif_pos hi, F.sz]; rfl
 ·simp only [dif_pos hi]; exact (F.rd _ _ _).2 ⟨rfl, h.2 _ (List.getElem_mem hi)⟩
theorem GRow.ofRow {F : Flat e} (hf : e.flat = true) (h : Row F w lo te v x) : GRow e lo [] w te v x := GRow.ofRowEx hf h (fun _ _ => by simp)
end
theorem GRow.nil (e : Ty) (lo : Nat) (ex : List Nat) (w : World) (te : TypeId) : GRow e lo ex w te (.slice none 0 0) [] :=
 ⟨fun _ => False, fun _ => [], fun b hb => hb.elim, World.ownsRow_nil w lo te e.sz, fun i h => absurd h (by simp), fun g hg => by simp [Value.ownBlock] at hg⟩
theorem ownsRow_blk {w : World} {g lo n sz : Nat} {te : TypeId} {xs : List Value} (hb : Blk w g te xs.toArray) (hl : lo ≤ g) (hn : xs.length = n * sz) (hm : n ≤ maxLen) : w.ownsRow lo te sz (.slice (some ⟨g, 0, none⟩) n n) n xs :=
 ⟨hn, .inr ⟨g, n, xs.toArray, rfl, hl, hb, Nat.le_refl _, hm, by simpa using hn, by rw [← hn]; simp⟩⟩
theorem GRow.lit1 {e : Ty} {lo l1 h1 g : Nat} {w : World} {te : TypeId} {ds : List Value} {d : e.D} (hb : Blk w g te ds.toArray) (h : RdI e l1 h1 w ds d) (hg : g < l1 ∨ h1 ≤ g) (hlo : lo ≤ g) (hl1 : lo ≤ l1) : GRow e lo [] w te (.slice (some ⟨g, 0, none⟩) 1 1) [d] :=
 ⟨fun b => l1 ≤ b ∧ b < h1, fun _ => ds, fun b hb' => ⟨by omega, by have := h.1; omega, by simp⟩, by simpa using ownsRow_blk (n := 1) (sz := e.sz) hb hlo (by rw [Nat.one_mul]; exact Ty.rd_len h.rd) (by unfold maxLen; omega),
  fun i hi => by
   obtain rfl : i = 0 := by simpa using hi
   exact ⟨Ty.rd_len h.rd, fun W hW => h.2 W (fun b h1 h2 => hW b ⟨h1, h2⟩)⟩,
  fun q hq => by
   have : g = q := by simpa [Value.ownBlock] using hq
   subst this
   exact ⟨fun h => by omega, by simp⟩⟩
def ASrc (e : Ty) (lo : Nat) (ex : List Nat) (w : World) (v u : Value) (y : List e.D) : Prop :=
 ∃ A c, ∃ Q : Nat → Prop, u = .slice A y.length c ∧ (∀ b, Q b → lo ≤ b ∧ b < w.heap.size ∧ b ∉ ex ∧ v.ownBlock ≠ some b) ∧
  (0 < y.length → ∃ b o, A = some ⟨b, o, none⟩ ∧ ∀ i (h : i < y.length), ∃ ds : List Value, ds.length = e.sz ∧ (∀ j, j < e.sz → w.cell? ⟨b, o + i * e.sz + j, none⟩ = ds[j]?) ∧ ∀ W : World, (∀ b, Q b → W.heap[b]? = w.heap[b]?) → e.rd W ds y[i])
theorem ASrc.flat {e : Ty} {lo : Nat} {ex : List Nat} {w : World} {v u : Value} {y : List e.D} (hf : e.flat = true) (h : (Ty.sl e).rd w [u] y) : ASrc e lo ex w v u y := by
 obtain ⟨A, c, hu, _, _, _, hc⟩ := h
 injection hu with hu _
 refine ⟨A, c, fun _ => False, hu, fun b hb => hb.elim, fun h0 => ?_⟩
 obtain ⟨b, o, hA, hel⟩ := hc h0
 exact ⟨b, o, hA, fun i hi => by obtain ⟨ds, h1, h2, h3⟩ := hel i hi; exact ⟨ds, h1, h2, fun W _ => Ty.rd_any hf h3⟩⟩
theorem ASrc.lit {e : Ty} {lo l1 h1 g c : Nat} {ex : List Nat} {w : World} {te : TypeId} {v : Value} {ds : List Value} {d : e.D} (hb : Blk w g te ds.toArray) (h : RdI e l1 h1 w ds d) (hlo : lo ≤ l1) (hex : ∀ q ∈ ex, q < l1 ∨ h1 ≤ q) (hv : ∀ q, v.ownBlock = some q → q < l1 ∨ h1 ≤ q) :
  ASrc e lo ex w v (.slice (some ⟨g, 0, none⟩) 1 c) [d] := by
 refine ⟨_, c, fun b => l1 ≤ b ∧ b < h1, rfl, fun b hb' => ⟨by omega, by have := h.1; omega, fun hm => by have := hex b hm; omega, fun hq => by have := hv b hq; omega⟩, fun _ => ⟨g, 0, rfl, fun i hi => ?_⟩⟩
 obtain rfl : i = 0 := by simpa using hi
 exact ⟨ds, Ty.rd_len h.rd, fun j hj => by rw [Nat.zero_mul, Nat.add_zero, Nat.zero_add]; exact (hb.cell j).trans (by simp), fun W hW => h.2 W (fun b h1 h2 => hW b ⟨h1, h2⟩)⟩
theorem run_append_grow {P : Program} {w : World} {e : Ty} (lo : Nat) (ex : List Nat) (t ty te : TypeId) {z : Value} {by_ : Nat} (hinfo : (P.info? te).map (fun i => (i.zero, i.size, i.bytes)) = some (some z, e.sz, by_)) (hz1 : z.cells.size = e.sz) (ht : P.underlying t = some (.slice te))
  (v u : Value) (x y : List e.D) (hown : GRow e lo ex w te v x) (hy : ASrc e lo ex w v u y) (hex : ∀ q ∈ ex, q < w.heap.size) (hbytes : (x.length + y.length) * by_ ≤ 140737488355328) (hlen : x.length + y.length ≤ maxLen) (hbase : lo ≤ w.heap.size) :
  ∃ v' w', (Builtin.append_ #[t, t] ty #[v, u]).run P w = .ok v' w' ∧ GRow e lo ex w' te v' (x ++ y) ∧ w.grownBy w' v.ownBlock := by
 obtain ⟨i, hi, hzz⟩ := Option.map_eq_some_iff.1 hinfo
 simp only [Prod.mk.injEq] at hzz
 obtain ⟨hz, hsz, hby⟩ := hzz
 obtain ⟨P1, css, h0, h1, h2, h3⟩ := hown
 obtain ⟨A, c, Q, rfl, hQ, hel⟩ := hy
 by_cases hy0 : y.length = 0
 ·have hy0 : y = [] := List.eq_nil_of_length_eq_zero hy0
  subst hy0
  refine ⟨v, w, run_append_zero lo t ty te i e.sz ht hi v _ _ h1 A c, ?_, World.grownBy.refl _ _⟩
  rw [List.append_nil]
  exact ⟨P1, css, h0, h1, h2, h3⟩
 ·obtain ⟨b, o, rfl, hel2⟩ := hel b_34
  have hpos := Ty.sz_pos e
  have hds : ∃ dss : Nat → List Value, ∀ i (h : i < y.length), (dss i).length = e.sz ∧ (∀ j, j < e.sz → w.cell? ⟨b, o + i * e.sz + j, none⟩ = (dss i)[j]?) ∧ ∀ W : World, (∀ b, Q b → W.heap[b]? = w.heap[b]?) → e.rd W (dss i) y[i] := by
   refine ⟨fun i => if h : i < y.length then (hel2 i h).choose else [], fun i h => ?_⟩
   simp only [dif_pos h]
   exact (hel2 i h).choose_spec
  obtain ⟨dss, hd⟩ := hds
  have hl : ((List.range y.length).flatMap dss).length = y.length * e.sz := fmr_len dss e.sz y.length (fun i hi => (hd i hi).1)
  have hcells : ∀ j u, ((List.range y.length).flatMap dss)[j]? = some u → w.cell? ((⟨b, o, none⟩ : Addr).add j) = some u := by
   intro j u hj
   have hjl : j < y.length * e.sz := by rw [← hl]; exact (List.getElem?_eq_some_iff.1 hj).1
   have hdiv : j / e.sz < y.length := (Nat.div_lt_iff_lt_mul hpos).2 hjl
   have hmod : j % e.sz < e.sz := Nat.mod_lt _ hpos
   have hjj : j / e.sz * e.sz + j % e.sz = j := by rw [Nat.mul_comm]; exact Nat.div_add_mod j e.sz
   have h5 := (hd _ hdiv).2.1 _ hmod
   have h6 := fmr_get dss e.sz y.length (fun i hi => (hd i hi).1) _ _ hdiv hmod
   rw [hjj, hj] at h6
   rw [Addr.add_lit, show o + j = o + j / e.sz * e.sz + j % e.sz from by omega, h5, ← h6]
  have hones : ∀ u ∈ (List.range y.length).flatMap dss, u.oneCell' = true := by
   intro u hu
   obtain ⟨k, hk, hu⟩ := List.mem_flatMap.1 hu
   exact Ty.rd_ones ((hd k (List.mem_range.1 hk)).2.2 w (fun _ _ => rfl)) u hu
  obtain ⟨v', w', hr, g1, g2, _, g3⟩ := run_append_own_at (P := P) w lo t ty te i z e.sz by_ ht hi hz hsz hby hz1 hpos v x.length _ h1 ⟨b, o, none⟩ y.length c ((List.range y.length).flatMap dss) hl hcells hones hlen hbytes hbase
  refine ⟨v', w', hr, ⟨fun b => P1 b ∨ Q b, glue x.length css dss, ?_, ?_, ?_, ?_⟩, g2⟩
  ·intro b hb
   have hs := g2.size
   rcases hb with hb | hb
   ·have := h0 b hb; exact ⟨this.1, by omega, this.2.2⟩
   ·have := hQ b hb; exact ⟨this.1, by omega, this.2.2.1⟩
  ·rw [List.length_append, fmr_glue]; exact g1
  ·intro k hk
   by_cases hkx : k < x.length
   ·rw [glue_lt hkx, List.getElem_append_left hkx]
    refine ⟨(h2 k hkx).1, fun W hW => (h2 k hkx).2 W (fun b' hb' => (hW b' (.inl hb')).trans (g2.block b' (h0 b' hb').2.1 (fun e' => (h3 b' e'.symm).1 hb')))⟩
   ·obtain ⟨m, rfl⟩ : ∃ m, k = x.length + m := ⟨k - x.length, by omega⟩
    have hm : m < y.length := by rw [List.length_append] at hk; omega
    rw [glue_ge, List.getElem_append_right b_34]
    simp only [Nat.add_sub_cancel_left]
    refine ⟨(hd m hm).1, fun W hW => (hd m hm).2.2 W (fun b' hb' => (hW b' (.inr hb')).trans (g2.block b' (hQ b' hb').2.1 (fun e' => (hQ b' hb').2.2.2 e'.symm)))⟩
  ·intro g hg
   rcases g3 with g3 | g3
   ·rw [g3] at hg
    exact ⟨fun hp => by
     rcases hp with hp | hp
     ·exact (h3 g hg).1 hp
     ·exact (hQ g hp).2.2.2 hg, (h3 g hg).2⟩
   ·rw [g3] at hg
    have hg' : w.heap.size = g := by simpa using hg
    exact ⟨fun hp => by
     rcases hp with hp | hp
     ·have := (h0 g hp).2.1; omega
     ·have := (hQ g hp).2.1; omega, fun hm => by have := hex g hm; omega⟩
theorem wpList_append_grow {P : Program} {w : World} {ops : Array Oper} {rest : List Oper} {o : Oper} {a : Act} {Q : Exit → Act → World → Prop} (hgd : o.guard = none) (s xo : Operand) (t : TypeId)
  (ho : o.op = .call { callee := .builtin .append, args := #[s, xo], argTypes := #[t, t] }) {e : Ty} (lo : Nat) (ex : List Nat) (te : TypeId) {z : Value} {by_ : Nat}
  (hinfo : (P.info? te).map (fun i => (i.zero, i.size, i.bytes)) = some (some z, e.sz, by_)) (hz1 : z.cells.size = e.sz) (ht : P.underlying t = some (.slice te))
  (v u : Value) (x y : List e.D) (hs : a.eval s = v) (hx : a.eval xo = u) (hown : GRow e lo ex w te v x) (hy : ASrc e lo ex w v u y) (hex : ∀ q ∈ ex, q < w.heap.size) (hbytes : (x.length + y.length) * by_ ≤ 140737488355328) (hlen : x.length + y.length ≤ maxLen) (hbase : lo ≤ w.heap.size)
  (h : ∀ v' w', GRow e lo ex w' te v' (x ++ y) → w.grownBy w' v.ownBlock → wpList P ops Q rest (a.put o.dst v') w') : wpList P ops Q (o :: rest) a w := by
 obtain ⟨v', w', hr, h2, h3⟩ := run_append_grow (P := P) lo ex t o.type te hinfo hz1 ht v u x y hown hy hex hbytes hlen hbase
 refine wpList_plain hgd fun K hK => ?_
 unfold Oper.wp execOp
 simp only [ho, resolve, invoke, builtin, Sem.run_bind, Sem.run_pure, Result.andThen_ok, List.map_toArray, List.map_cons, List.map_nil, hs, hx, hr]
 exact hK _ _ (h v' w' h2 h3)
theorem step_append_grow {P : Program} {w : World} {ops : Array Oper} {o : Oper} {a : Act} {K : Act → World → Prop} {Q : Exit → Act → World → Prop} {E : Prop} (hgd : o.guard = none) (s xo : Operand) (t : TypeId)
  (ho : o.op = .call { callee := .builtin .append, args := #[s, xo], argTypes := #[t, t] }) {e : Ty} (lo : Nat) (ex : List Nat) (te : TypeId) {z : Value} {by_ : Nat}
  (hinfo : (P.info? te).map (fun i => (i.zero, i.size, i.bytes)) = some (some z, e.sz, by_)) (hz1 : z.cells.size = e.sz) (ht : P.underlying t = some (.slice te))
  (v u : Value) (x y : List e.D) (hs : a.eval s = v) (hx : a.eval xo = u) (hown : GRow e lo ex w te v x) (hy : ASrc e lo ex w v u y) (hex : ∀ q ∈ ex, q < w.heap.size) (hbytes : (x.length + y.length) * by_ ≤ 140737488355328) (hlen : x.length + y.length ≤ maxLen) (hbase : lo ≤ w.heap.size)
  (h : ∀ v' w', GRow e lo ex w' te v' (x ++ y) → w.grownBy w' v.ownBlock → K (a.put o.dst v') w') :
  if Region.wanted o (yielded ops a.tmps) = true then Oper.wp P o a w K Q else E := by
 have hw : Region.wanted o (yielded ops a.tmps) = true := by simp [Region.wanted, hgd]
 rw [if_pos hw]
 obtain ⟨v', w', hr, h2, h3⟩ := run_append_grow (P := P) lo ex t o.type te hinfo hz1 ht v u x y hown hy hex hbytes hlen hbase
 unfold Oper.wp execOp
 simp only [ho, resolve, invoke, builtin, Sem.run_bind, Sem.run_pure, Result.andThen_ok, List.map_toArray, List.map_cons, List.map_nil, hs, hx, hr]
 exact h v' w' h2 h3
def DrR (t : Ty) (w : World) (ok : t.D → Prop) (e : Ending) (w' : World) : Prop := ∃ cs x, e = .returned (.agg cs.toArray) ∧ RdI t w.heap.size w'.heap.size w' cs x ∧ ok x
theorem DrA.r {t : Ty} {w : World} {ok : t.D → Prop} {e : Ending} {w' : World} (h : DrA t w ok e w') : DrR t w ok e w' := by
 obtain ⟨cs, x, fp, h1, h2, h3, h4⟩ := h
 exact ⟨cs, x, h1, RdI.of_owF h2 h3 (Nat.le_refl _), h4⟩
theorem abs_world {K : Act → World → Prop} {a : Act} {W : World} (h : ∀ W', W' = W → K a W') : K a W := h W rfl
theorem new_dr (B : Nat) (w : World) (o : Obj) : Dr B w (w.alloc o) := (Dr.refl B w).alloc o
theorem nz {t : TypeId} {B : Nat} {w w' V : World} {o : Obj} (hw : w' = V) (hc : Cur t w B) (k : V = w.alloc o ∨ V = (w.alloc o).drew := by first | exact .inl rfl | exact .inr rfl) : Dr B w w' ∧ Cur t w' B ∧ w.heap.size < w'.heap.size := by
 rcases k with k | k <;> subst k <;> subst hw
 ·exact ⟨new_dr B w _, hc.alloc _, by rw [World.size_alloc]; omega⟩
 ·exact ⟨(new_dr B w _).drew, (hc.alloc _).drew, by rw [World.size_drew, World.size_alloc]; omega⟩
theorem RdI.lits {w : World} {te : TypeId} {l : List (List UInt8)} {arr : Array Value} {g n c : Nat} (ha : arr = (l.map flatS.enc).toArray) (hl : (l.all fun s => decide (s.length ≤ 256)) = true) (hg : g = w.heap.size) (hn : n = l.length) (hc : c = n) (h256 : l.length ≤ 256) :
  RdI (.sl .str) g (g + 1) (w.alloc (.cells arr te)) [.slice (some ⟨g, 0, none⟩) n c] l := by
 have h := (GRow.ofRow rfl (Row.litA (w := w) (te := te) (base := w.heap.size) ha hl hg hn hc h256 (Nat.le_refl _))).rdI
 rw [World.size_alloc] at h
 rw [hg] at h ⊢
 exact h
theorem bulk_thing {x : Ty.D tData} {a b c : Nat} (h1 : Ty.bulk (.sl .str) x.1 ≤ a) (h2 : List.length x.2.1 ≤ b) (h3 : Ty.bulk (.sl .str) x.2.2.1 ≤ c) : Ty.bulk tData x ≤ a + b + c := by
 have h4 : Ty.bulk (.sl .byte) x.2.1 = List.length x.2.1 := Ty.bulk_flat (fun _ => rfl) _
 show Ty.bulk (.sl .str) x.1 + (Ty.bulk (.sl .byte) x.2.1 + (Ty.bulk (.sl .str) x.2.2.1 + (0 + 0))) ≤ _
 omega
theorem RdI.data {lo hi : Nat} {w : World} {v0 v1 v2 : Value} {x : Ty.D tData} (h0 : RdI (.sl .str) lo hi w [v0] x.1) (h1 : RdI (.sl .byte) lo hi w [v1] x.2.1) (h2 : RdI (.sl .str) lo hi w [v2] x.2.2.1) (h3 : -9223372036854775808 ≤ x.2.2.2.1 ∧ x.2.2.2.1 ≤ 9223372036854775807) (h4 : -9223372036854775808 ≤ x.2.2.2.2 ∧ x.2.2.2.2 ≤ 9223372036854775807) :
  RdI tData lo hi w [v0, v1, v2, .int .i64 x.2.2.2.1, .int .i64 x.2.2.2.2] x :=
 RdI.pr h0 (RdI.pr h1 (RdI.pr h2 (RdI.pr (RdI.int h3 h0.1) (RdI.int h4 h0.1))))
theorem RdI.dataP {lo hi : Nat} {w : World} {v0 v1 v2 v3 v4 : Value} {x : Ty.D tData} (h : RdI tData lo hi w [v0, v1, v2, v3, v4] x) : RdI (.sl .str) lo hi w [v0] x.1 ∧ RdI (.sl .byte) lo hi w [v1] x.2.1 ∧ RdI (.sl .str) lo hi w [v2] x.2.2.1 :=
 ⟨h.fst, h.snd.fst, h.snd.snd.fst⟩
theorem GRow.at {e : Ty} {lo : Nat} {ex : List Nat} {w : World} {te : TypeId} {A : Option Addr} {n c : Nat} {x : List e.D} (h : GRow e lo ex w te (.slice A n c) x) {k : Nat} (hk : k < x.length) :
  ∃ g ds, A = some ⟨g, 0, none⟩ ∧ ds.length = e.sz ∧ (∀ j, j < e.sz → w.cell? ⟨g, k * e.sz + j, none⟩ = ds[j]?) ∧ (∀ i, w.frozen? ⟨g, i, none⟩ = false) ∧ (lo ≤ g ∧ g < w.heap.size ∧ g ∉ ex) ∧ e.rd w ds x[k] ∧
   (∀ (W : World) (te' : TypeId) (g' c' : Nat), Below w.heap.size w W → Blk W g' te' ds.toArray → ASrc e lo ex W (.slice A n c) (.slice (some ⟨g', 0, none⟩) 1 c') [x[k]]) := by
 have hbl := h.block
 obtain ⟨P, css, h0, h1, h2, h3⟩ := h
 have h1' := h1
 rcases h1.2 with ⟨hv, hn⟩ | ⟨g, cap, cur, hv, hbg, hg, hnc, hcm, hcs, htake⟩
 ·omega
 ·simp only [Value.slice.injEq] at hv
  obtain ⟨rfl, rfl, rfl⟩ := hv
  refine ⟨g, css k, rfl, (h2 k hk).1, fun j hj => ?_, fun i => Blk.frozen (t := te) (cs := cur) hg _, hbl g rfl, (h2 k hk).2 w (fun _ _ => rfl), fun W te' g' c' hb hB => ?_⟩
  ·have h5 : (k + 1) * e.sz ≤ x.length * e.sz := Nat.mul_le_mul_right _ hk
   rw [Nat.succ_mul] at h5
   rw [h1'.cellAt (k * e.sz + j) b_34]
   exact fmr_get css e.sz x.length (fun i hi => (h2 i hi).1) k j hk hj
  ·refine ⟨_, c', P, rfl, fun b hb' => ⟨(h0 b hb').1, Nat.lt_of_lt_of_le (h0 b hb').2.1 hb.size, (h0 b hb').2.2, fun e => (h3 b e).1 hb'⟩, fun _ => ⟨g', 0, rfl, fun i hi => ?_⟩⟩
   obtain rfl : i = 0 := by simpa using hi
   exact ⟨css k, (h2 k hk).1, fun j hj => by rw [Nat.zero_mul, Nat.add_zero, Nat.zero_add]; exact (hB.cell j).trans (by simp), fun W' hW' => (h2 k hk).2 W' (fun b hb' => (hW' b hb').trans (hb.block b (h0 b hb').2.1))⟩
theorem GRow.setAt {e : Ty} {lo : Nat} {ex : List Nat} {w : World} {te : TypeId} {g n c : Nat} {x : List e.D} (h : GRow e lo ex w te (.slice (some ⟨g, 0, none⟩) n c) x) {k j : Nat} (hk : k < x.length) (hj : j < e.sz) (u : Value) (d : e.D)
  (hnew : ∀ (W : World) (ds : List Value), e.rd W ds x[k] → e.rd W (ds.set j u) d) : GRow e lo ex (w.setCell ⟨g, k * e.sz + j, none⟩ u) te (.slice (some ⟨g, 0, none⟩) n c) (x.set k d) := by
 obtain ⟨P, css, h0, h1, h2, h3⟩ := h
 rcases h1.2 with ⟨hv, hn⟩ | ⟨g', cap, cur, hv, hbg, hg, hnc, hcm, hcs, htake⟩
 ·omega
 ·simp only [Value.slice.injEq, Option.some.injEq, Addr.mk.injEq, and_true] at hv
  obtain ⟨⟨rfl, _⟩, rfl, rfl⟩ := hv
  have hlt : k * e.sz + j < x.length * e.sz := by
   have h5 : (k + 1) * e.sz ≤ x.length * e.sz := Nat.mul_le_mul_right _ hk
   rw [Nat.succ_mul] at h5; omega
  have hcap : x.length * e.sz ≤ c * e.sz := Nat.mul_le_mul_right _ hnc
  have hfl : ((List.range x.length).flatMap css).length = x.length * e.sz := fmr_len css e.sz x.length (fun i hi => (h2 i hi).1)
  have hcss : (List.range x.length).flatMap (fun i => if i = k then (css k).set j u else css i) = ((List.range x.length).flatMap css).set (k * e.sz + j) u := by
   have hl' : ∀ i, i < x.length → ((fun i => if i = k then (css k).set j u else css i) i).length = e.sz := by
    intro i hi
    by_cases hik : i = k
    ·simp only [hik, if_true, List.length_set]; exact (h2 k hk).1
    ·simp only [if_neg hik]; exact (h2 i hi).1
   have hfl' := fmr_len (fun i => if i = k then (css k).set j u else css i) e.sz x.length hl'
   apply List.ext_getElem?
   intro m
   by_cases hm : m < x.length * e.sz
   ·have hpos := Ty.sz_pos e
    have hdiv : m / e.sz < x.length := (Nat.div_lt_iff_lt_mul hpos).2 hm
    have hmod : m % e.sz < e.sz := Nat.mod_lt _ hpos
    have hmm : m / e.sz * e.sz + m % e.sz = m := by rw [Nat.mul_comm]; exact Nat.div_add_mod m e.sz
    have g1 := fmr_get (fun i => if i = k then (css k).set j u else css i) e.sz x.length hl' _ _ hdiv hmod
    have g2 := fmr_get css e.sz x.length (fun i hi => (h2 i hi).1) _ _ hdiv hmod
    rw [hmm] at g1 g2
    rw [g1, List.getElem?_set]
    by_cases hik : m / e.sz = k
    ·simp only [hik, if_true]
     rw [List.getElem?_set]
     by_cases hmj : j = m % e.sz
     ·have e1 : k * e.sz + j = m := by rw [← hik, hmj]; exact hmm
      rw [if_pos hmj, if_pos e1, if_pos (by rw [(h2 k hk).1]; exact hj), if_pos (by rw [hfl]; exact hlt)]
     ·have e1 : ¬ k * e.sz + j = m := fun e' => hmj (by rw [← hik] at e'; omega)
      rw [if_neg hmj, if_neg e1, g2, hik]
    ·have e1 : ¬ k * e.sz + j = m := by
      intro e'
      apply hik
      rw [← e', Nat.mul_comm, Nat.mul_add_div hpos, Nat.div_eq_of_lt hj, Nat.add_zero]
     simp only [if_neg hik]
     rw [if_neg e1, g2]
   ·rw [List.getElem?_eq_none (by rw [hfl']; omega), List.getElem?_eq_none (by rw [List.length_set, hfl]; omega)]
  refine ⟨P, fun i => if i = k then (css k).set j u else css i, fun b hb => ⟨(h0 b hb).1, by rw [World.size_setCell]; exact (h0 b hb).2.1, (h0 b hb).2.2⟩, ?_, fun i hi => ?_, h3⟩
  ·rw [List.length_set, hcss]
   refine ⟨by rw [List.length_set]; exact h1.1, .inr ⟨g, c, cur.setIfInBounds (k * e.sz + j) u, rfl, hbg, ?_, hnc, hcm, by simpa using hcs, ?_⟩⟩
   ·exact Blk.set_ (t := te) hg (k * e.sz + j) u
   ·rw [Array.toList_setIfInBounds, List.take_set, htake]
  ·have hi' : i < x.length := by rwa [List.length_set] at hi
   by_cases hik : i = k
   ·subst hik
    simp only [if_true, List.length_set]
    refine ⟨(h2 i hi').1, fun W hW => ?_⟩
    rw [List.getElem_set_self]
    refine hnew W _ ((h2 i hi').2 W (fun b hb => (hW b hb).trans (Below.heap_setCell _ _ _ _ (fun e' => (h3 g rfl).1 (by rw [← show b = g from e']; exact hb)))))
   ·simp only [if_neg hik]
    refine ⟨(h2 i hi').1, fun W hW => ?_⟩
    rw [List.getElem_set_ne (Ne.symm hik)]
    exact (h2 i hi').2 W (fun b hb => (hW b hb).trans (Below.heap_setCell _ _ _ _ (fun e' => (h3 g rfl).1 (by rw [← show b = g from e']; exact hb))))
end Go.Proofs.Ytldgbnlcnlfmeaa
