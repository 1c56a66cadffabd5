/- Texts of this claim, merged by a program: Drf Are Any Ar2. -/
import Derived.Test.YtidnahocnhcoiaaGreatDoorQrP
import Derived.Test.YtidnahocnhcoiaaGreatDoorQr1
import Derived.Test.YtidnahocnhcoiaaGreatDoorQr2
import Derived.Deep.RegionHeld3
namespace Go.Proofs.YtidnahocnhcoiaaGreatDoor
open Go.RowKit
set_option linter.unusedVariables false
set_option linter.unusedSimpArgs false
def SrcF (e : Ty) (w : World) (u : Value) (y : List e.D) (fp : List Nat) : Prop :=
 ∃ A c fs, u = .slice A y.length c ∧ fp = (List.range y.length).flatMap fs ∧
  (0 < y.length → ∃ b o, A = some ⟨b, o, none⟩ ∧ ∀ i (h : i < y.length), ∃ ds : List Value, ds.length = e.sz ∧ (∀ j, j < e.sz → w.cell? ⟨b, o + i * e.sz + j, none⟩ = ds[j]?) ∧ e.ow w ds y[i] (fs i))
theorem SrcF.lit {e : Ty} {w : World} {c g : Nat} (te : TypeId) {ds : List Value} {d : e.D} {f : List Nat} (how : e.ow w ds d f) (hg : g = w.heap.size) :
  SrcF e (w.alloc (.cells ds.toArray te)) (.slice (some ⟨g, 0, none⟩) 1 c) [d] f := by
 subst hg
 refine ⟨_, c, fun _ => f, rfl, by simp, fun _ => ⟨_, _, rfl, fun i hi => ?_⟩⟩
 obtain rfl : i = 0 := by simpa using hi
 exact ⟨ds, Ty.ow_len how, fun j hj => by rw [Nat.zero_mul, Nat.add_zero, Nat.zero_add]; exact (cell_new w te ds.toArray j rfl).trans b_23, Ty.ow_bel ((Below.refl _ _).alloc (Nat.le_refl _) _) how⟩
def DRowF (e : Ty) (w : World) (base : Nat) (te : TypeId) (v : Value) (x : List e.D) (fp : List Nat) : Prop :=
 ∃ (css : Nat → List Value) (fs : Nat → List Nat), w.ownsRow base te e.sz v x.length ((List.range x.length).flatMap css) ∧
  (∀ i (h : i < x.length), (css i).length = e.sz ∧ e.ow w (css i) x[i] (fs i)) ∧
  fp = (List.range x.length).flatMap fs ∧ (∀ g, v.ownBlock = some g → g ∉ fp)
theorem DRowF.lit0 (e : Ty) (w : World) (te : TypeId) {base : Nat} (hb : base ≤ w.heap.size) : DRowF e (w.alloc (.cells #[] te)) base te (.slice (some ⟨w.heap.size, 0, none⟩) 0 0) [] [] :=
 ⟨fun _ => [], fun _ => [], World.ownsRow_lit w #[] 0 hb (by unfold maxLen; omega) b_23, fun i h => absurd h b_23, rfl, fun g h => by simp⟩
section
variable {e : Ty} {w w' : World} {base : Nat} {te : TypeId} {v : Value} {x : List e.D} {fp : List Nat}
theorem DRowF.block (h : DRowF e w base te v x fp) : ∀ g, v.ownBlock = some g → base ≤ g ∧ g < w.heap.size := by
 obtain ⟨css, fs, h, _⟩ := h
 exact h.lt
theorem DRowF.keep (h : DRowF e w base te v x fp) (hsz : w.heap.size ≤ w'.heap.size) (hk : ∀ b, b ∈ fp → w'.heap[b]? = w.heap[b]?) (ho : ∀ g, v.ownBlock = some g → w'.heap[g]? = w.heap[g]?) : DRowF e w' base te v x fp := by
 obtain ⟨css, fs, h1, h2, h3, h4⟩ := h
 refine ⟨css, fs, ⟨h1.1, ?_⟩, fun i hi => ⟨(h2 i hi).1, Ty.ow_keep (fun b hb' => hk b ?_) (h2 i hi).2⟩, h3, h4⟩
 ·rcases h1.2 with hn | ⟨g, cap, cur, rfl, hbg, hgg, rest⟩
  ·exact .inl hn
  ·exact .inr ⟨g, cap, cur, rfl, hbg, (ho g rfl).trans hgg, rest⟩
 ·rw [h3]; exact List.mem_flatMap.2 ⟨i, List.mem_range.2 hi, hb'⟩
theorem DRowF.mem_lt (h : DRowF e w base te v x fp) : ∀ b ∈ fp, b < w.heap.size := by
 obtain ⟨css, fs, h1, h2, h3, h4⟩ := h
 intro b hb
 rw [h3] at hb
 obtain ⟨i, hi, hb⟩ := List.mem_flatMap.1 hb
 exact Ty.ow_lt (h2 i (List.mem_range.1 hi)).2 b hb
theorem DRowF.below (h : DRowF e w base te v x fp) (hb : Below w.heap.size w w') : DRowF e w' base te v x fp :=
 h.keep hb.size (fun b hm => hb.block b (h.mem_lt b hm)) (fun g hg => hb.block g (h.block g hg).2)
end
theorem Ty.rd_ones {w : World} : ∀ {t : Ty} {cs : List Value} {x : t.D}, t.rd w cs x → ∀ u ∈ cs, u.oneCell' = true
 | .int, _, _, h => by rw [h.1]; intro u hu; simp at hu; subst hu; rfl
 | .byte, _, _, h => by rw [show _ = _ from h]; intro u hu; simp at hu; subst hu; rfl
 | .bool, _, _, h => by rw [show _ = _ from h]; intro u hu; simp at hu; subst hu; rfl
 | .str, _, _, h => by rw [h.1]; intro u hu; simp at hu; subst hu; rfl
 | .sl _, _, _, ⟨_, _, h, _⟩ => by rw [h]; intro u hu; simp at hu; subst hu; rfl
 | .pr a b, _, _, ⟨c1, c2, h, h1, h2⟩ => by
  rw [h]; intro u hu
  rcases List.mem_append.1 hu with hu | hu
  ·exact Ty.rd_ones h1 u hu
  ·exact Ty.rd_ones h2 u hu
theorem Ty.rd_any {w W : World} : ∀ {t : Ty} {cs : List Value} {x : t.D}, t.flat = true → t.rd w cs x → t.rd W cs x
 | .int, _, _, _, h => h
 | .byte, _, _, _, h => h
 | .bool, _, _, _, h => h
 | .str, _, _, _, h => h
 | .sl _, _, _, hf, _ => by simp [Ty.flat] at hf
 | .pr a b, _, _, hf, ⟨c1, c2, h, h1, h2⟩ => by
  simp only [Ty.flat, Bool.and_eq_true] at hf
  exact ⟨c1, c2, h, Ty.rd_any hf.1 h1, Ty.rd_any hf.2 h2⟩
def RdI (t : Ty) (lo hi : Nat) (w : World) (cs : List Value) (x : t.D) : Prop := hi ≤ w.heap.size ∧ ∀ W : World, (∀ b, lo ≤ b → b < hi → W.heap[b]? = w.heap[b]?) → t.rd W cs x
section
variable {t : Ty} {lo hi : Nat} {w w' : World} {cs : List Value} {x : t.D}
theorem RdI.rd (h : RdI t lo hi w cs x) : t.rd w cs x := h.2 w (fun _ _ _ => rfl)
theorem RdI.mono {lo' hi' : Nat} (h : RdI t lo hi w cs x) (h1 : lo' ≤ lo) (h2 : hi ≤ hi') (h3 : hi' ≤ w.heap.size) : RdI t lo' hi' w cs x := ⟨h3, fun W hW => h.2 W (fun b hb hb' => hW b b_22 b_22)⟩
theorem RdI.keep (h : RdI t lo hi w cs x) (hs : w.heap.size ≤ w'.heap.size) (hk : ∀ b, lo ≤ b → b < hi → w'.heap[b]? = w.heap[b]?) : RdI t lo hi w' cs x := ⟨Nat.le_trans h.1 hs, fun W hW => h.2 W (fun b hb hb' => (hW b hb hb').trans (hk b hb hb'))⟩
theorem RdI.below (h : RdI t lo hi w cs x) (hb : Below w.heap.size w w') : RdI t lo hi w' cs x := h.keep hb.size (fun b _ h2 => hb.block b (by have := h.1; omega))
theorem RdI.alloc (h : RdI t lo hi w cs x) (o : Obj) : RdI t lo hi (w.alloc o) cs x := h.below (bel_alloc (Below.refl _ _) o)
theorem RdI.drew (h : RdI t lo hi w cs x) : RdI t lo hi w.drew cs x := h.below (bel_drew (Below.refl _ _))
theorem RdI.drewN (h : RdI t lo hi w cs x) (n : Nat) : RdI t lo hi (w.drewN n) cs x := h.below (bel_drewN (Below.refl _ _) n)
theorem RdI.dr {B : Nat} (h : RdI t lo hi w cs x) (hd : Dr B w w') (hB : B < lo) : RdI t lo hi w' cs x := h.keep hd.size (fun b h1 h2 => hd.block (by have := h.1; omega) b_22)
theorem RdI.set (h : RdI t lo hi w cs x) {p : Addr} (hp : p.block < lo ∨ hi ≤ p.block) (u : Value) : RdI t lo hi (w.setCell p u) cs x := h.keep (by rw [World.size_setCell]; exact Nat.le_refl _) (fun b h1 h2 => Below.heap_setCell _ _ _ _ b_22)
theorem RdI.grown {row : Option Nat} (h : RdI t lo hi w cs x) (hg : w.grownBy w' row) (hr : ∀ g, row = some g → g < lo ∨ hi ≤ g) : RdI t lo hi w' cs x := h.keep hg.size (fun b h1 h2 => hg.block b (by have := h.1; omega) (fun e => by have := hr b e.symm; omega))
theorem RdI.hide {B : Nat} (h : RdI t lo hi w cs x) (hB : B < lo) : t.rd (hide B w) cs x := h.2 _ (fun b h1 _ => hide_other b_22 w)
theorem RdI.of_ow {fp : List Nat} (h : t.ow w cs x fp) (hf : ∀ b ∈ fp, lo ≤ b ∧ b < hi) (hs : hi ≤ w.heap.size) : RdI t lo hi w cs x := ⟨hs, fun W hW => Ty.ow_rd (Ty.ow_keep (fun b hb => hW b (hf b hb).1 (hf b hb).2) h)⟩
theorem RdI.of_owF {fp : List Nat} (h : t.ow w cs x fp) (hf : FrI lo hi fp) (hs : hi ≤ w.heap.size) : RdI t lo hi w cs x := RdI.of_ow h hf.2 hs
theorem oz {t : Ty} {lo lo' hi : Nat} {w : World} {cs : List Value} {x : t.D} {fp : List Nat} (h : t.ow w cs x fp) (hf : FrI lo' hi fp) (hl : lo ≤ lo' := by (try simp only [szz]); omega) (hs : hi ≤ w.heap.size := by exact Nat.le_refl _) : RdI t lo hi w cs x := RdI.of_ow h (fun q hq => ⟨Nat.le_trans hl (hf.2 q hq).1, (hf.2 q hq).2⟩) hs
theorem RdI.flat (hf : t.flat = true) (h : t.rd w cs x) (hs : hi ≤ w.heap.size) : RdI t lo hi w cs x := ⟨hs, fun W _ => Ty.rd_any hf h⟩
end
theorem RdI.pr {a b : Ty} {lo hi : Nat} {w : World} {c1 c2 : List Value} {x : a.D} {y : b.D} (h1 : RdI a lo hi w c1 x) (h2 : RdI b lo hi w c2 y) : RdI (.pr a b) lo hi w (c1 ++ c2) (x, y) := ⟨h1.1, fun W hW => ⟨c1, c2, rfl, h1.2 W hW, h2.2 W hW⟩⟩
theorem RdI.fst {a b : Ty} {lo hi : Nat} {w : World} {cs : List Value} {x : a.D × b.D} (h : RdI (.pr a b) lo hi w cs x) : RdI a lo hi w (cs.take a.sz) x.1 := ⟨h.1, fun W hW => by
 obtain ⟨c1, c2, rfl, h1, h2⟩ := h.2 W hW
 rw [← Ty.rd_len h1, List.take_left' rfl]; exact h1⟩
theorem RdI.int {lo hi : Nat} {w : World} {n : Int} (h : -9223372036854775808 ≤ n ∧ n ≤ 9223372036854775807) (hs : hi ≤ w.heap.size) : RdI .int lo hi w [.int .i64 n] n := ⟨hs, fun _ _ => ⟨rfl, h⟩⟩
theorem RdI.nil (e : Ty) {lo hi : Nat} {w : World} (A : Option Addr) (hs : hi ≤ w.heap.size) : RdI (.sl e) lo hi w [.slice A 0 0] [] := ⟨hs, fun _ _ => ⟨A, 0, rfl, Nat.le_refl _, ⟨Nat.zero_le _, fun _ => rfl⟩, by simp, fun h => absurd h b_23⟩⟩
def GRow (e : Ty) (lo : Nat) (ex : List Nat) (w : World) (te : TypeId) (v : Value) (x : List e.D) : Prop :=
 ∃ (P : Nat → Prop) (css : Nat → List Value), (∀ b, P b → lo ≤ b ∧ b < w.heap.size ∧ b ∉ ex) ∧ w.ownsRow lo te e.sz v x.length ((List.range x.length).flatMap css) ∧
  (∀ i (h : i < x.length), (css i).length = e.sz ∧ ∀ W : World, (∀ b, P b → W.heap[b]? = w.heap[b]?) → e.rd W (css i) x[i]) ∧
  (∀ g, v.ownBlock = some g → ¬ P g ∧ g ∉ ex)
section
variable {e : Ty} {lo : Nat} {ex : List Nat} {w w' : World} {te : TypeId} {v : Value} {x : List e.D}
theorem GRow.block (h : GRow e lo ex w te v x) : ∀ g, v.ownBlock = some g → lo ≤ g ∧ g < w.heap.size ∧ g ∉ ex := by
 obtain ⟨P, css, h0, h1, h2, h3⟩ := h
 exact fun g hg => ⟨(h1.lt g hg).1, (h1.lt g hg).2, (h3 g hg).2⟩
theorem GRow.keep (h : GRow e lo ex w te v x) (hs : w.heap.size ≤ w'.heap.size) (hk : ∀ b, lo ≤ b → b < w.heap.size → b ∉ ex → w'.heap[b]? = w.heap[b]?) : GRow e lo ex w' te v x := by
 have hbl := h.block
 obtain ⟨P, css, h0, h1, h2, h3⟩ := h
 refine ⟨P, css, fun b hb => ⟨(h0 b hb).1, Nat.lt_of_lt_of_le (h0 b hb).2.1 hs, (h0 b hb).2.2⟩, ⟨h1.1, ?_⟩, fun i hi => ⟨(h2 i hi).1, fun W hW => (h2 i hi).2 W (fun b hb => (hW b hb).trans (hk b (h0 b hb).1 (h0 b hb).2.1 (h0 b hb).2.2))⟩, h3⟩
 rcases h1.2 with hn | ⟨g, cap, cur, rfl, hbg, hgg, rest⟩
 ·exact .inl hn
 ·have := hbl g rfl
  exact .inr ⟨g, cap, cur, rfl, hbg, (hk g this.1 this.2.1 this.2.2).trans hgg, rest⟩
theorem GRow.below (h : GRow e lo ex w te v x) (hb : Below w.heap.size w w') : GRow e lo ex w' te v x := h.keep hb.size (fun b _ h2 _ => hb.block b h2)
theorem GRow.alloc (h : GRow e lo ex w te v x) (o : Obj) : GRow e lo ex (w.alloc o) te v x := h.below (bel_alloc (Below.refl _ _) o)
theorem GRow.drew (h : GRow e lo ex w te v x) : GRow e lo ex w.drew te v x := h.below (bel_drew (Below.refl _ _))
theorem GRow.drewN (h : GRow e lo ex w te v x) (n : Nat) : GRow e lo ex (w.drewN n) te v x := h.below (bel_drewN (Below.refl _ _) n)
theorem GRow.dr {B : Nat} (h : GRow e lo ex w te v x) (hd : Dr B w w') (hB : B < lo) : GRow e lo ex w' te v x := h.keep hd.size (fun b h1 h2 _ => hd.block h2 b_22)
theorem GRow.set (h : GRow e lo ex w te v x) {p : Addr} (hp : p.block < lo ∨ p.block ∈ ex) (u : Value) : GRow e lo ex (w.setCell p u) te v x := h.keep (by rw [World.size_setCell]; exact Nat.le_refl _) (fun b h1 h2 h3 => Below.heap_setCell _ _ _ _ (fun e => by rcases hp with hp | hp; omega; rw [e] at h3; exact h3 hp))
theorem GRow.grown {row : Option Nat} (h : GRow e lo ex w te v x) (hg : w.grownBy w' row) (hr : ∀ g, row = some g → g < lo ∨ g ∈ ex) : GRow e lo ex w' te v x := h.keep hg.size (fun b h1 h2 h3 => hg.block b h2 (fun e => by rcases hr b e.symm with h | h; omega; exact h3 h))
theorem GRow.addEx {g : Nat} (h : GRow e lo ex w te v x) (hg : w.heap.size ≤ g) : GRow e lo (g :: ex) w te v x := by
 have hbl := h.block
 obtain ⟨P, css, h0, h1, h2, h3⟩ := h
 refine ⟨P, css, fun b hb => ⟨(h0 b hb).1, (h0 b hb).2.1, ?_⟩, h1, h2, fun q hq => ⟨(h3 q hq).1, ?_⟩⟩
 ·have := h0 b hb; intro hm; rcases List.mem_cons.1 hm with rfl | hm
  ·omega
  ·exact this.2.2 hm
 ·have := hbl q hq; intro hm; rcases List.mem_cons.1 hm with rfl | hm
  ·omega
  ·exact this.2.2 hm
theorem GRow.mono {lo' : Nat} (h : GRow e lo ex w te v x) (hl : lo' ≤ lo) : GRow e lo' ex w te v x := by
 obtain ⟨P, css, h0, h1, h2, h3⟩ := h
 refine ⟨P, css, fun b hb => ⟨Nat.le_trans hl (h0 b hb).1, (h0 b hb).2⟩, ⟨h1.1, ?_⟩, h2, h3⟩
 rcases h1.2 with hn | ⟨g, cap, cur, rfl, hbg, rest⟩
 ·exact .inl hn
 ·exact .inr ⟨g, cap, cur, rfl, Nat.le_trans hl hbg, rest⟩
theorem GRow.le (h : GRow e lo ex w te v x) : x.length ≤ maxLen := by
 obtain ⟨P, css, _, h, _⟩ := h
 rcases h.2 with ⟨_, hn⟩ | ⟨g, cap, cur, _, _, _, h1, h2, _⟩
 ·rw [hn]; exact Nat.zero_le _
 ·exact Nat.le_trans h1 h2
theorem GRow.form (h : GRow e lo ex w te v x) : ∃ A c, v = .slice A x.length c := by
 obtain ⟨P, css, _, h, _⟩ := h
 rcases h.2 with ⟨rfl, hn⟩ | ⟨g, cap, cur, rfl, _⟩
 ·exact ⟨none, 0, by rw [hn]⟩
 ·exact ⟨_, _, rfl⟩
theorem GRow.rdI (h : GRow e lo ex w te v x) : RdI (.sl e) lo w.heap.size w [v] x := by
 refine ⟨Nat.le_refl _, fun W hW => ?_⟩
 have hl := h.le
 unfold maxLen at hl
 obtain ⟨P, css, h0, h1, h2, h3⟩ := h
 rcases h1.2 with ⟨rfl, hn⟩ | ⟨g, cap, cur, rfl, hbg, hg, hnc, hcm, hcs, htake⟩
 ·have hx : x = [] := List.eq_nil_of_length_eq_zero hn
  subst hx
  exact ⟨none, 0, rfl, by simp, ⟨by unfold maxLen; omega, fun _ => rfl⟩, by simp, fun h => absurd h b_23⟩
 ·have hlt : g < w.heap.size := Blk.lt (t := te) (cs := cur) hg
  refine ⟨_, _, rfl, hnc, ⟨hcm, fun h => by cases h⟩, by omega, fun h0' => ⟨g, 0, rfl, fun i hi => ?_⟩⟩
  refine ⟨css i, (h2 i hi).1, fun j hj => ?_, (h2 i hi).2 W (fun b hb => hW b (h0 b hb).1 (h0 b hb).2.1)⟩
  have h5 : (i + 1) * e.sz ≤ x.length * e.sz := Nat.mul_le_mul_right _ hi
  rw [Nat.succ_mul] at h5
  rw [World.cell?_of_block (w := w) (a := ⟨g, 0 + i * e.sz + j, none⟩) (hW g hbg hlt), Nat.zero_add, h1.cellAt (i * e.sz + j) b_22]
  exact fmr_get css e.sz x.length (fun i hi => (h2 i hi).1) i j hi hj
theorem GRow.rd (h : GRow e lo ex w te v x) : (Ty.sl e).rd w [v] x := h.rdI.rd
theorem GRow.ofDRow (h : DRow e w lo te v x) : GRow e lo [] w te v x := by
 obtain ⟨css, fs, h1, h2, h3, h4⟩ := h
 refine ⟨fun b => b ∈ (List.range x.length).flatMap fs, css, fun b hb => ⟨(h3.2 b hb).1, (h3.2 b hb).2, by simp⟩, h1, fun i hi => ⟨(h2 i hi).1, fun W hW => Ty.ow_rd (Ty.ow_keep (fun b hb => hW b (List.mem_flatMap.2 ⟨i, List.mem_range.2 hi, hb⟩)) (h2 i hi).2)⟩, fun g hg => ⟨h4 g hg, by simp⟩⟩
theorem GRow.ofRowEx {F : Flat e} (hf : e.flat = true) (h : Row F w lo te v x) (hex : ∀ q, v.ownBlock = some q → q ∉ ex) : GRow e lo ex w te v x := by
 refine ⟨fun _ => False, fun i => if hi : i < x.length then [F.enc x[i]] else [], fun b hb => hb.elim, ?_, fun i hi => ⟨?_, fun W _ => ?_⟩, fun g hg => ⟨fun h => h, hex g hg⟩⟩
 ·have : (List.range x.length).flatMap (fun i => if hi : i < x.length then [F.enc x[i]] else []) = x.map F.enc := by
   apply List.ext_getElem?
   intro i
   by_cases hi : i < x.length
   ·have := fmr_get (fun i => if hi : i < x.length then [F.enc x[i]] else []) 1 x.length (fun i hi => by simp only [dif_pos hi]; rfl) i 0 hi b_22
    simp only [Nat.mul_one, Nat.add_zero, dif_pos hi] at this
    rw [this]; simp [hi]
   ·rw [List.getElem?_eq_none (by rw [fmr_len _ 1 x.length (fun i hi => by simp only [dif_pos hi]; rfl)]; omega), List.getElem?_eq_none (by rw [List.length_map]; omega)]
  rw [this, F.sz]; exact h.1
 ·simp only [dif_pos hi, F.sz]; rfl
 ·simp only [dif_pos hi]; exact (F.rd _ _ _).2 ⟨rfl, h.2 _ (List.getElem_mem hi)⟩
theorem GRow.ofRow {F : Flat e} (hf : e.flat = true) (h : Row F w lo te v x) : GRow e lo [] w te v x := GRow.ofRowEx hf h (fun _ _ => by simp)
end
theorem GRow.nil (e : Ty) (lo : Nat) (ex : List Nat) (w : World) (te : TypeId) : GRow e lo ex w te (.slice none 0 0) [] :=
 ⟨fun _ => False, fun _ => [], fun b hb => hb.elim, World.ownsRow_nil w lo te e.sz, fun i h => absurd h b_23, fun g hg => by simp [Value.ownBlock] at hg⟩
theorem ownsRow_blk {w : World} {g lo n sz : Nat} {te : TypeId} {xs : List Value} (hb : Blk w g te xs.toArray) (hl : lo ≤ g) (hn : xs.length = n * sz) (hm : n ≤ maxLen) : w.ownsRow lo te sz (.slice (some ⟨g, 0, none⟩) n n) n xs :=
 ⟨hn, .inr ⟨g, n, xs.toArray, rfl, hl, hb, Nat.le_refl _, hm, by simpa using hn, by rw [← hn]; simp⟩⟩
theorem GRow.lit1 {e : Ty} {lo l1 h1 g : Nat} {w : World} {te : TypeId} {ds : List Value} {d : e.D} (hb : Blk w g te ds.toArray) (h : RdI e l1 h1 w ds d) (hg : g < l1 ∨ h1 ≤ g) (hlo : lo ≤ g) (hl1 : lo ≤ l1) : GRow e lo [] w te (.slice (some ⟨g, 0, none⟩) 1 1) [d] :=
 ⟨fun b => l1 ≤ b ∧ b < h1, fun _ => ds, fun b hb' => ⟨by omega, by have := h.1; omega, by simp⟩, by simpa using ownsRow_blk (n := 1) (sz := e.sz) hb hlo (by rw [Nat.one_mul]; exact Ty.rd_len h.rd) (by unfold maxLen; omega),
  fun i hi => by
   obtain rfl : i = 0 := by simpa using hi
   exact ⟨Ty.rd_len h.rd, fun W hW => h.2 W (fun b h1 h2 => hW b ⟨h1, h2⟩)⟩,
  fun q hq => by
   have : g = q := by simpa [Value.ownBlock] using hq
   subst this
   exact ⟨fun h => by omega, by simp⟩⟩
def ASrc (e : Ty) (lo : Nat) (ex : List Nat) (w : World) (v u : Value) (y : List e.D) : Prop :=
 ∃ A c, ∃ Q : Nat → Prop, u = .slice A y.length c ∧ (∀ b, Q b → lo ≤ b ∧ b < w.heap.size ∧ b ∉ ex ∧ v.ownBlock ≠ some b) ∧
  (0 < y.length → ∃ b o, A = some ⟨b, o, none⟩ ∧ ∀ i (h : i < y.length), ∃ ds : List Value, ds.length = e.sz ∧ (∀ j, j < e.sz → w.cell? ⟨b, o + i * e.sz + j, none⟩ = ds[j]?) ∧ ∀ W : World, (∀ b, Q b → W.heap[b]? = w.heap[b]?) → e.rd W ds y[i])
theorem ASrc.flat {e : Ty} {lo : Nat} {ex : List Nat} {w : World} {v u : Value} {y : List e.D} (hf : e.flat = true) (h : (Ty.sl e).rd w [u] y) : ASrc e lo ex w v u y := by
 obtain ⟨A, c, hu, _, _, _, hc⟩ := h
 injection hu with hu _
 refine ⟨A, c, fun _ => False, hu, fun b hb => hb.elim, fun h0 => ?_⟩
 obtain ⟨b, o, hA, hel⟩ := hc h0
 exact ⟨b, o, hA, fun i hi => by obtain ⟨ds, h1, h2, h3⟩ := hel i hi; exact ⟨ds, h1, h2, fun W _ => Ty.rd_any hf h3⟩⟩
theorem ASrc.lit {e : Ty} {lo l1 h1 g c : Nat} {ex : List Nat} {w : World} {te : TypeId} {v : Value} {ds : List Value} {d : e.D} (hb : Blk w g te ds.toArray) (h : RdI e l1 h1 w ds d) (hlo : lo ≤ l1) (hex : ∀ q ∈ ex, q < l1 ∨ h1 ≤ q) (hv : ∀ q, v.ownBlock = some q → q < l1 ∨ h1 ≤ q) :
  ASrc e lo ex w v (.slice (some ⟨g, 0, none⟩) 1 c) [d] := by
 refine ⟨_, c, fun b => l1 ≤ b ∧ b < h1, rfl, fun b hb' => ⟨by omega, by have := h.1; omega, fun hm => by have := hex b hm; omega, fun hq => by have := hv b hq; omega⟩, fun _ => ⟨g, 0, rfl, fun i hi => ?_⟩⟩
 obtain rfl : i = 0 := by simpa using hi
 exact ⟨ds, Ty.rd_len h.rd, fun j hj => by rw [Nat.zero_mul, Nat.add_zero, Nat.zero_add]; exact (hb.cell j).trans b_23, fun W hW => h.2 W (fun b h1 h2 => hW b ⟨h1, h2⟩)⟩
theorem run_append_grow {P : Program} {w : World} {e : Ty} (lo : Nat) (ex : List Nat) (t ty te : TypeId) {z : Value} {by_ : Nat} (hinfo : (P.info? te).map (fun i => (i.zero, i.size, i.bytes)) = some (some z, e.sz, by_)) (hz1 : z.cells.size = e.sz) (ht : P.underlying t = some (.slice te))
  (v u : Value) (x y : List e.D) (hown : GRow e lo ex w te v x) (hy : ASrc e lo ex w v u y) (hex : ∀ q ∈ ex, q < w.heap.size) (hbytes : (x.length + y.length) * by_ ≤ 140737488355328) (hlen : x.length + y.length ≤ maxLen) (hbase : lo ≤ w.heap.size) :
  ∃ v' w', (Builtin.append_ #[t, t] ty #[v, u]).run P w = .ok v' w' ∧ GRow e lo ex w' te v' (x ++ y) ∧ w.grownBy w' v.ownBlock := by
 obtain ⟨i, hi, hzz⟩ := Option.map_eq_some_iff.1 hinfo
 simp only [Prod.mk.injEq] at hzz
 obtain ⟨hz, hsz, hby⟩ := hzz
 obtain ⟨P1, css, h0, h1, h2, h3⟩ := hown
 obtain ⟨A, c, Q, rfl, hQ, hel⟩ := hy
 by_cases hy0 : y.length = 0
 ·have hy0 : y = [] := List.eq_nil_of_length_eq_zero hy0
  subst hy0
  refine ⟨v, w, run_append_zero lo t ty te i e.sz ht hi v _ _ h1 A c, ?_, World.grownBy.refl _ _⟩
  rw [List.append_nil]
  exact ⟨P1, css, h0, h1, h2, h3⟩
 ·obtain ⟨b, o, rfl, hel2⟩ := hel b_22
  have hpos := Ty.sz_pos e
  have hds : ∃ dss : Nat → List Value, ∀ i (h : i < y.length), (dss i).length = e.sz ∧ (∀ j, j < e.sz → w.cell? ⟨b, o + i * e.sz + j, none⟩ = (dss i)[j]?) ∧ ∀ W : World, (∀ b, Q b → W.heap[b]? = w.heap[b]?) → e.rd W (dss i) y[i] := by
   refine ⟨fun i => if h : i < y.length then (hel2 i h).choose else [], fun i h => ?_⟩
   simp only [dif_pos h]
   exact (hel2 i h).choose_spec
  obtain ⟨dss, hd⟩ := hds
  have hl : ((List.range y.length).flatMap dss).length = y.length * e.sz := fmr_len dss e.sz y.length (fun i hi => (hd i hi).1)
  have hcells : ∀ j u, ((List.range y.length).flatMap dss)[j]? = some u → w.cell? ((⟨b, o, none⟩ : Addr).add j) = some u := by
   intro j u hj
   have hjl : j < y.length * e.sz := by rw [← hl]; exact (List.getElem?_eq_some_iff.1 hj).1
   have hdiv : j / e.sz < y.length := (Nat.div_lt_iff_lt_mul hpos).2 hjl
   have hmod : j % e.sz < e.sz := Nat.mod_lt _ hpos
   have hjj : j / e.sz * e.sz + j % e.sz = j := by rw [Nat.mul_comm]; exact Nat.div_add_mod j e.sz
   have h5 := (hd _ hdiv).2.1 _ hmod
   have h6 := fmr_get dss e.sz y.length (fun i hi => (hd i hi).1) _ _ hdiv hmod
   rw [hjj, hj] at h6
   rw [Addr.add_lit, show o + j = o + j / e.sz * e.sz + j % e.sz from by omega, h5, ← h6]
  have hones : ∀ u ∈ (List.range y.length).flatMap dss, u.oneCell' = true := by
   intro u hu
   obtain ⟨k, hk, hu⟩ := List.mem_flatMap.1 hu
   exact Ty.rd_ones ((hd k (List.mem_range.1 hk)).2.2 w (fun _ _ => rfl)) u hu
  obtain ⟨v', w', hr, g1, g2, _, g3⟩ := run_append_own_at (P := P) w lo t ty te i z e.sz by_ ht hi hz hsz hby hz1 hpos v x.length _ h1 ⟨b, o, none⟩ y.length c ((List.range y.length).flatMap dss) hl hcells hones hlen hbytes hbase
  refine ⟨v', w', hr, ⟨fun b => P1 b ∨ Q b, glue x.length css dss, ?_, ?_, ?_, ?_⟩, g2⟩
  ·intro b hb
   have hs := g2.size
   rcases hb with hb | hb
   ·have := h0 b hb; exact ⟨this.1, by omega, this.2.2⟩
   ·have := hQ b hb; exact ⟨this.1, by omega, this.2.2.1⟩
  ·rw [List.length_append, fmr_glue]; exact g1
  ·intro k hk
   by_cases hkx : k < x.length
   ·rw [glue_lt hkx, List.getElem_append_left hkx]
    refine ⟨(h2 k hkx).1, fun W hW => (h2 k hkx).2 W (fun b' hb' => (hW b' (.inl hb')).trans (g2.block b' (h0 b' hb').2.1 (fun e' => (h3 b' e'.symm).1 hb')))⟩
   ·obtain ⟨m, rfl⟩ : ∃ m, k = x.length + m := ⟨k - x.length, by omega⟩
    have hm : m < y.length := by rw [List.length_append] at hk; omega
    rw [glue_ge, List.getElem_append_right b_22]
    simp only [Nat.add_sub_cancel_left]
    refine ⟨(hd m hm).1, fun W hW => (hd m hm).2.2 W (fun b' hb' => (hW b' (.inr hb')).trans (g2.block b' (hQ b' hb').2.1 (fun e' => (hQ b' hb').2.2.2 e'.symm)))⟩
  ·intro g hg
   rcases g3 with g3 | g3
   ·rw [g3] at hg
    exact ⟨fun hp => by
     rcases hp with hp | hp
     ·exact (h3 g hg).1 hp
     ·exact (hQ g hp).2.2.2 hg, (h3 g hg).2⟩
   ·rw [g3] at hg
    have hg' : w.heap.size = g := by simpa using hg
    exact ⟨fun hp => by
     rcases hp with hp | hp
     ·have := (h0 g hp).2.1; omega
     ·have := (hQ g hp).2.1; omega, fun hm => by have := hex g hm; omega⟩
theorem wpList_append_grow {P : Program} {w : World} {ops : Array Oper} {rest : List Oper} {o : Oper} {a : Act} {Q : Exit → Act → World → Prop} (hgd : o.guard = none) (s xo : Operand) (t : TypeId)
  (ho : o.op = .call { callee := .builtin .append, args := #[s, xo], argTypes := #[t, t] }) {e : Ty} (lo : Nat) (ex : List Nat) (te : TypeId) {z : Value} {by_ : Nat}
  (hinfo : (P.info? te).map (fun i => (i.zero, i.size, i.bytes)) = some (some z, e.sz, by_)) (hz1 : z.cells.size = e.sz) (ht : P.underlying t = some (.slice te))
  (v u : Value) (x y : List e.D) (hs : a.eval s = v) (hx : a.eval xo = u) (hown : GRow e lo ex w te v x) (hy : ASrc e lo ex w v u y) (hex : ∀ q ∈ ex, q < w.heap.size) (hbytes : (x.length + y.length) * by_ ≤ 140737488355328) (hlen : x.length + y.length ≤ maxLen) (hbase : lo ≤ w.heap.size)
  (h : ∀ v' w', GRow e lo ex w' te v' (x ++ y) → w.grownBy w' v.ownBlock → wpList P ops Q rest (a.put o.dst v') w') : wpList P ops Q (o :: rest) a w := by
 obtain ⟨v', w', hr, h2, h3⟩ := run_append_grow (P := P) lo ex t o.type te hinfo hz1 ht v u x y hown hy hex hbytes hlen hbase
 refine wpList_plain hgd fun K hK => ?_
 unfold Oper.wp execOp
 simp only [ho, resolve, invoke, builtin, Sem.run_bind, Sem.run_pure, Result.andThen_ok, List.map_toArray, List.map_cons, List.map_nil, hs, hx, hr]
 exact hK _ _ (h v' w' h2 h3)
theorem step_append_grow {P : Program} {w : World} {ops : Array Oper} {o : Oper} {a : Act} {K : Act → World → Prop} {Q : Exit → Act → World → Prop} {E : Prop} (hgd : o.guard = none) (s xo : Operand) (t : TypeId)
  (ho : o.op = .call { callee := .builtin .append, args := #[s, xo], argTypes := #[t, t] }) {e : Ty} (lo : Nat) (ex : List Nat) (te : TypeId) {z : Value} {by_ : Nat}
  (hinfo : (P.info? te).map (fun i => (i.zero, i.size, i.bytes)) = some (some z, e.sz, by_)) (hz1 : z.cells.size = e.sz) (ht : P.underlying t = some (.slice te))
  (v u : Value) (x y : List e.D) (hs : a.eval s = v) (hx : a.eval xo = u) (hown : GRow e lo ex w te v x) (hy : ASrc e lo ex w v u y) (hex : ∀ q ∈ ex, q < w.heap.size) (hbytes : (x.length + y.length) * by_ ≤ 140737488355328) (hlen : x.length + y.length ≤ maxLen) (hbase : lo ≤ w.heap.size)
  (h : ∀ v' w', GRow e lo ex w' te v' (x ++ y) → w.grownBy w' v.ownBlock → K (a.put o.dst v') w') :
  if Region.wanted o (yielded ops a.tmps) = true then Oper.wp P o a w K Q else E := by
 have hw : Region.wanted o (yielded ops a.tmps) = true := by simp [Region.wanted, hgd]
 rw [if_pos hw]
 obtain ⟨v', w', hr, h2, h3⟩ := run_append_grow (P := P) lo ex t o.type te hinfo hz1 ht v u x y hown hy hex hbytes hlen hbase
 unfold Oper.wp execOp
 simp only [ho, resolve, invoke, builtin, Sem.run_bind, Sem.run_pure, Result.andThen_ok, List.map_toArray, List.map_cons, List.map_nil, hs, hx, hr]
 exact h v' w' h2 h3
def DrR (t : Ty) (w : World) (ok : t.D → Prop) (e : Ending) (w' : World) : Prop := ∃ cs x, e = .returned (.agg cs.toArray) ∧ RdI t w.heap.size w'.heap.size w' cs x ∧ ok x
def DrV (t : Ty) (w : World) (ok : List t.D → Prop) (e : Ending) (w' : World) : Prop := ∃ A x c, e = .returned (.slice A (List.length x) c) ∧ RdI (.sl t) w.heap.size w'.heap.size w' [.slice A (List.length x) c] x ∧ ok x
def DrG (t : Ty) (te : TypeId) (w : World) (ok : List t.D → Prop) (e : Ending) (w' : World) : Prop := ∃ A x c, e = .returned (.slice A (List.length x) c) ∧ GRow t w.heap.size [] w' te (.slice A (List.length x) c) x ∧ ok x
theorem DrA.r {t : Ty} {w : World} {ok : t.D → Prop} {e : Ending} {w' : World} (h : DrA t w ok e w') : DrR t w ok e w' := by
 obtain ⟨cs, x, fp, h1, h2, h3, h4⟩ := h
 exact ⟨cs, x, h1, RdI.of_owF h2 h3 (Nat.le_refl _), h4⟩
def okAny (n : List (List UInt8)) : Prop := n.length ≤ 7 ∧ ∀ p ∈ n, p.length ≤ 9
theorem okAny.of (n : List (List UInt8)) (h : validName n = true) : okAny n := by
 refine ⟨by have := validName_len h; omega, fun p hp => ?_⟩
 unfold validName at h
 simp only [Bool.and_eq_true] at h
 have := List.all_eq_true.1 h.1 p hp
 unfold validPart at this
 simp only [Bool.and_eq_true, decide_eq_true_eq] at this
 omega
theorem okAny.app {n : List (List UInt8)} (h : okAny n) (hl : n.length ≤ 6) {s : List UInt8} (hs : s.length ≤ 9) : okAny (n ++ [s]) := by
 refine ⟨by simp; omega, fun p hp => ?_⟩
 rcases List.mem_append.1 hp with hp | hp
 ·exact h.2 p hp
 ·simp at hp; subst hp; exact hs
theorem any_bulk {n : List (List UInt8)} (h : okAny n) : Ty.bulk (.sl .str) n ≤ 70 := by
 have : ∀ (n : List (List UInt8)), (∀ p ∈ n, p.length ≤ 9) → Ty.bulk (.sl .str) n ≤ 10 * n.length := by
  intro n
  induction n with
  | nil => intro _; exact Nat.zero_le _
  | cons a l ih =>
   intro h
   have h1 := ih (fun p hp => h p (List.mem_cons_of_mem _ hp))
   have h2 := h a (List.mem_cons_self ..)
   have h3 := bulk_app (e := .str) [a] l
   have h4 := bulk_one (e := .str) a
   have h5 : Ty.bulk .str a = List.length a := rfl
   simp only [List.cons_append, List.nil_append] at h3
   rw [List.length_cons]
   omega
 have := this n h.2
 have := h.1
 omega
theorem rd_drewP {w : World} {t : Ty} {cs : List Value} {x : t.D} (h : t.rd w cs x) : t.rd w.drew cs x := Ty.rd_below (bel_drew (Below.refl _ _)) h
theorem rd_lit1A {w : World} {te : TypeId} {s : List UInt8} {arr : Array Value} {g : Nat} (ha : arr = #[vS s]) (hs : s.length ≤ 9223372036854775807) (hg : g = w.heap.size) : (Ty.sl .str).rd (w.alloc (.cells arr te)) [.slice (some ⟨g, 0, none⟩) 1 1] [s] := by
 subst ha hg
 exact (Row.lit1 flatS w te s hs (Nat.le_refl _)).rd b_15
def cellLen (g : Nat) (W : World) : Nat := lenVd ((W.cell? ⟨g, 0, none⟩).getD (.bool false))
theorem cellLen_blk {w : World} {g n c : Nat} {t : TypeId} {A : Option Addr} (h : Blk w g t #[.slice A n c]) : cellLen g w = n := by
 unfold cellLen; rw [h.c1]; rfl
theorem any6 {s : List UInt8} (h : s ∈ [[], [65], [116, 111, 111, 108, 111, 110, 103, 120, 120], [97, 47, 98], [32], [101, 105, 103, 104, 116, 56, 56, 56]]) : s.length ≤ 9 := by
 simp at h; rcases h with rfl | rfl | rfl | rfl | rfl | rfl <;> decide
set_option maxRecDepth 100000 in
set_option maxHeartbeats 2000000 in
theorem C_spec_l4Any (w : World) (B : Nat) (hc : CurT w B) :
  Calls Tryz.prog 56 #[pB B] w (RetDT B w (DrR (.sl .str) w okAny)) := by
 have hB := hc.lt
 go_enter Tryz.func56, Tryz.ntmps56
 go_wp2_with fail
 refine (C_spec_l4Name _ B b_4).mono ?_
 rintro e w1 ⟨hd1, hc1, v, n, rfl, hR, hV⟩
 have z1 := hd1.size
 simp only [World.size_alloc] at z1
 have D1 : Dr B w w1 := b_1
 have hO1 : Blk w1 w.heap.size 29 #[.slice none 0 0] := Dr.blk hd1 (Blk.new w _ _) b_22
 rw [World.size_alloc] at hR
 have HG := Lib.hid ((GRow.ofRow rfl hR).addEx (g := w1.heap.size) (Nat.le_refl _))
 have hA := Lib.hid (okAny.of n hV)
 have hnl := validName_len hV
 obtain ⟨A, c, rfl⟩ := hR.form
 clear hR
 go_wp2_with fail
 refine (C_spec_l1Below _ B 8 b_4 b_21 b_21).mono ?_
 rintro e w2 ⟨hd2, hc2, x, rfl, hx0, hx1⟩
 have z2 := hd2.size
 simp only [World.size_alloc] at z2
 have E2 : Dr B w1 w2 := b_1
 have D2 := D1.trans E2
 have hO2 := Dr.blk E2 hO1 b_22
 have hN2 : Blk w2 w1.heap.size 29 #[.slice A n.length c] := Dr.blk hd2 (Blk.new w1 _ _) b_22
 have HG2 := Lib.hid (HG.out.dr E2 b_22)
 clear HG hd1 hd2 hO1 E2 D1 hc1
 have zN2 := hN2.lt
 have kN : w2.cell? ⟨w1.heap.size, 0, none⟩ = some (.slice A n.length c) := hN2.c1
 have fN : w2.frozen? ⟨w1.heap.size, 0, none⟩ = false := hN2.f1
 rcases (show x = 0 ∨ x = 1 ∨ (x ≠ 0 ∧ x ≠ 1) by omega) with rfl | rfl | hx
 ·go_wp2_with fail
  refine wp_region_noPanic ?_
  refine wp_region_held_drew (S := (fun _ => True)) b_20 ?_ (fun hHeld => ?_)
  ·trivial
  refine tkz2 0 2 ?_
  try simp only [layz]
  refine rz2 1 3 (fun K hK => ?_) (fun K hK => ?_)
  ·go_simp
   refine hK.out _ _ ?_ (fun hHeld => ?_)
   ·(try dsimp only)
    try trivial
   clear hK K
   try simp only [layz]
   refine rz1 3 (fun K hK => ?_)
   go_simp
   refine hK.out _ _ ?_ (fun hHeld => ?_)
   ·(try dsimp only)
    try trivial
   clear hK K
   try simp only [layz]
   refine rz1 4 (fun K hK => ?_)
   go_simp
   go_at_call 31
   refine (C_spec_l1Str _ B _ [[], [65], [116, 111, 111, 108, 111, 110, 103, 120, 120], [97, 47, 98], [32], [101, 105, 103, 104, 116, 56, 56, 56]] b_4 b_3 b_21 b_21).mono ?_
   rintro e w3 ⟨hd3, hc3, s, hs, rfl⟩
   have z3 := hd3.size
   (try simp only [World.size_alloc, World.size_drew, size_drewN] at z3)
   have hs9 := any6 hs
   have hsl : s.length ≤ 9223372036854775807 := by omega
   have E3 : Dr B w2 w3 := b_1
   have HG3 := Lib.hid (HG2.out.dr E3 b_22)
   have hO3 := Dr.blk E3 hO2 b_22
   have hN3 := Dr.blk E3 hN2 b_22
   have kN3 := hN3.c1
   have zN3 := hN3.lt
   have D3 : Dr B w w3 := D2.trans E3
   clear hs hd3
   refine hK.out _ _ ?_ (fun hHeld => ?_)
   ·(try dsimp only)
    try trivial
   clear hK K
   try simp only [layz]
   refine rz1 5 (fun K hK => ?_)
   go_simp
   refine hK.out _ _ ?_ (fun hHeld => ?_)
   ·(try dsimp only)
    try trivial
   clear hK K
   try simp only [layz]
   refine rz1 6 (fun K hK => ?_)
   refine step_append_grow (e := .str) b_24 _ _ 24 b_24 (w.heap.size + 1) [w1.heap.size] 9 info_str rfl Tryz.underlying24 (.slice A n.length c) _ n [s] b_24 b_24 b_7 (ASrc.flat rfl b_6) ?_ ?_ ?_ ?_ ?_
   ·intro q hq; simp at hq; subst hq; exact b_16
   ·simp only [List.length_singleton]; omega
   ·simp only [List.length_singleton]; unfold maxLen; omega
   ·exact b_16
   intro v' w' hr' hg'
   have hbl := HG3.out.block
   have hrow : ∀ q, (Value.slice A n.length c).ownBlock = some q → w.heap.size + 1 ≤ q ∧ q ≠ w1.heap.size := fun q hq => ⟨(hbl q hq).1, fun e => (hbl q hq).2.2 (by rw [e]; simp)⟩
   have zg := hg'.size
   (try simp only [World.size_alloc, size_drewN, World.size_drew] at zg)
   have hO4 : Blk w' w.heap.size 29 #[.slice none 0 0] := Blk.grown b_8 hg' (fun e => by have := hrow _ e.symm; omega)
   have hN4 : Blk w' w1.heap.size 29 #[.slice A n.length c] := Blk.grown b_8 hg' (fun e => (hrow _ e.symm).2 rfl)
   have D4 : Dr B w w' := Dr.grown b_1 hg' (fun q hq => by have := hrow q hq; omega)
   have C4 : CurT w' B := Cur.grown b_4 hg' (fun q hq => by have := hrow q hq; omega)
   have hA' := Lib.hid (okAny.app hA.out b_22 hs9)
   obtain ⟨n', hn'⟩ : ∃ n', n' = n ++ [s] := ⟨_, rfl⟩
   rw [← hn'] at hr' hA'
   have hl' := Lib.hid (show n'.length = n.length + 1 by rw [hn', List.length_append, List.length_singleton])
   clear hn'
   obtain ⟨A', c', rfl⟩ := hr'.form
   have HR' := Lib.hid hr'
   clear hr' hg' hbl hrow
   have fN4 : w'.frozen? ⟨w1.heap.size, 0, none⟩ = false := hN4.f1
   have kN4 : w'.cell? ⟨w1.heap.size, 0, none⟩ = some (.slice A n.length c) := hN4.c1
   refine hK.out _ _ ?_ (fun hHeld => ?_)
   ·(try dsimp only)
    try trivial
   clear hK K
   try simp only [layz]
   refine tkz 7 ?_
   try simp only [layz]
   refine rz1 8 (fun K hK => ?_)
   go_simp
   obtain ⟨w5, hw5⟩ : ∃ w5, w5 = w'.setCell ⟨w1.heap.size, 0, none⟩ (.slice A' (List.length n') c') := ⟨_, rfl⟩
   rw [← hw5]
   have hN5 : Blk w5 w1.heap.size 29 #[.slice A' (List.length n') c'] := by rw [hw5]; exact hN4.set_ 0 _
   have hO5 : Blk w5 w.heap.size 29 #[.slice none 0 0] := by rw [hw5]; exact hO4.far b_18 _
   have D5 : Dr B w w5 := by rw [hw5]; exact Dr.set D4 (.inr b_18) _
   have C5 : CurT w5 B := by rw [hw5]; exact Cur.far C4 b_18 _
   have HG5 : Hid (GRow .str (w.heap.size + 1) [w1.heap.size] w5 9 (.slice A' (List.length n') c') n') := by rw [hw5]; exact Lib.hid (GRow.set HR'.out (.inr b_23) _)
   clear hw5 hN4 hO4 D4 C4 HR' fN4 kN4
   have zn5 := hN5.lt
   refine hK.out _ _ ?_ (fun hHeld => ?_)
   ·(try dsimp only)
    try trivial
   clear hK K
   try simp only [layz]
   refine wpAnyH_done b_20 ?_ _
   refine NoPanic.normal ?_
   have kN9 : w5.cell? ⟨w1.heap.size, 0, none⟩ = some (.slice A' (List.length n') c') := hN5.c1
   have kO9 : w5.cell? ⟨w.heap.size, 0, none⟩ = some (.slice none 0 0) := hO5.c1
   have fO9 : w5.frozen? ⟨w.heap.size, 0, none⟩ = false := hO5.f1
   have zO9 := hO5.lt
   have C9 : CurT (w5.setCell ⟨w.heap.size, 0, none⟩ (.slice A' (List.length n') c')) B := Cur.far C5 b_18 _
   have D9 := Dr.set D5 (p := ⟨w.heap.size, 0, none⟩) (.inr (Nat.le_refl _)) (.slice A' (List.length n') c')
   have k9 := (Blk.set_ hO5 0 (.slice A' (List.length n') c')).c1
   have Q9 := (GRow.set HG5.out (p := ⟨w.heap.size, 0, none⟩) (.inl b_18) (.slice A' (List.length n') c')).rdI
   go_wp2_with fail
   refine bodyPost_ret (v := .agg #[.slice A' (List.length n') c']) (by simp [results, Tryz.results56, go_sem, kO9, fO9, zO9]) rfl ?_
   exact ⟨D9, C9, _, n', rfl, Q9.mono b_22 (Nat.le_refl _) (Nat.le_refl _), hA'.out⟩
  ·go_simp
   refine hK.out _ _ ?_ (fun hHeld => ?_)
   ·(try dsimp only)
    try trivial
   clear hK K
   try simp only [layz]
   refine rz2 1 4 (fun K hK => ?_) (fun K hK => ?_)
   ·go_simp
    refine hK.out _ _ ?_ (fun hHeld => ?_)
    ·(try dsimp only)
     try trivial
    clear hK K
    try simp only [layz]
    refine rz1 4 (fun K hK => ?_)
    go_simp
    go_at_call 31
    refine (C_spec_l1Str _ B _ [[], [65], [116, 111, 111, 108, 111, 110, 103, 120, 120], [97, 47, 98], [32], [101, 105, 103, 104, 116, 56, 56, 56]] b_4 b_3 b_21 b_21).mono ?_
    rintro e w3 ⟨hd3, hc3, s, hs, rfl⟩
    have z3 := hd3.size
    (try simp only [World.size_alloc, World.size_drew, size_drewN] at z3)
    have hs9 := any6 hs
    have hsl : s.length ≤ 9223372036854775807 := by omega
    have E3 : Dr B w2 w3 := b_1
    have HG3 := Lib.hid (HG2.out.dr E3 b_22)
    have hO3 := Dr.blk E3 hO2 b_22
    have hN3 := Dr.blk E3 hN2 b_22
    have kN3 := hN3.c1
    have zN3 := hN3.lt
    have D3 : Dr B w w3 := D2.trans E3
    clear hs hd3
    refine hK.out _ _ ?_ (fun hHeld => ?_)
    ·(try dsimp only)
     try trivial
    clear hK K
    try simp only [layz]
    refine rz1 5 (fun K hK => ?_)
    go_simp
    refine hK.out _ _ ?_ (fun hHeld => ?_)
    ·(try dsimp only)
     try trivial
    clear hK K
    try simp only [layz]
    refine rz1 6 (fun K hK => ?_)
    refine step_append_grow (e := .str) b_24 _ _ 24 b_24 (w.heap.size + 1) [w1.heap.size] 9 info_str rfl Tryz.underlying24 (.slice A n.length c) _ n [s] b_24 b_24 b_7 (ASrc.flat rfl b_6) ?_ ?_ ?_ ?_ ?_
    ·intro q hq; simp at hq; subst hq; exact b_16
    ·simp only [List.length_singleton]; omega
    ·simp only [List.length_singleton]; unfold maxLen; omega
    ·exact b_16
    intro v' w' hr' hg'
    have hbl := HG3.out.block
    have hrow : ∀ q, (Value.slice A n.length c).ownBlock = some q → w.heap.size + 1 ≤ q ∧ q ≠ w1.heap.size := fun q hq => ⟨(hbl q hq).1, fun e => (hbl q hq).2.2 (by rw [e]; simp)⟩
    have zg := hg'.size
    (try simp only [World.size_alloc, size_drewN, World.size_drew] at zg)
    have hO4 : Blk w' w.heap.size 29 #[.slice none 0 0] := Blk.grown b_8 hg' (fun e => by have := hrow _ e.symm; omega)
    have hN4 : Blk w' w1.heap.size 29 #[.slice A n.length c] := Blk.grown b_8 hg' (fun e => (hrow _ e.symm).2 rfl)
    have D4 : Dr B w w' := Dr.grown b_1 hg' (fun q hq => by have := hrow q hq; omega)
    have C4 : CurT w' B := Cur.grown b_4 hg' (fun q hq => by have := hrow q hq; omega)
    have hA' := Lib.hid (okAny.app hA.out b_22 hs9)
    obtain ⟨n', hn'⟩ : ∃ n', n' = n ++ [s] := ⟨_, rfl⟩
    rw [← hn'] at hr' hA'
    have hl' := Lib.hid (show n'.length = n.length + 1 by rw [hn', List.length_append, List.length_singleton])
    clear hn'
    obtain ⟨A', c', rfl⟩ := hr'.form
    have HR' := Lib.hid hr'
    clear hr' hg' hbl hrow
    have fN4 : w'.frozen? ⟨w1.heap.size, 0, none⟩ = false := hN4.f1
    have kN4 : w'.cell? ⟨w1.heap.size, 0, none⟩ = some (.slice A n.length c) := hN4.c1
    refine hK.out _ _ ?_ (fun hHeld => ?_)
    ·(try dsimp only)
     try trivial
    clear hK K
    try simp only [layz]
    refine tkz 7 ?_
    try simp only [layz]
    refine rz1 8 (fun K hK => ?_)
    go_simp
    obtain ⟨w5, hw5⟩ : ∃ w5, w5 = w'.setCell ⟨w1.heap.size, 0, none⟩ (.slice A' (List.length n') c') := ⟨_, rfl⟩
    rw [← hw5]
    have hN5 : Blk w5 w1.heap.size 29 #[.slice A' (List.length n') c'] := by rw [hw5]; exact hN4.set_ 0 _
    have hO5 : Blk w5 w.heap.size 29 #[.slice none 0 0] := by rw [hw5]; exact hO4.far b_18 _
    have D5 : Dr B w w5 := by rw [hw5]; exact Dr.set D4 (.inr b_18) _
    have C5 : CurT w5 B := by rw [hw5]; exact Cur.far C4 b_18 _
    have HG5 : Hid (GRow .str (w.heap.size + 1) [w1.heap.size] w5 9 (.slice A' (List.length n') c') n') := by rw [hw5]; exact Lib.hid (GRow.set HR'.out (.inr b_23) _)
    clear hw5 hN4 hO4 D4 C4 HR' fN4 kN4
    have zn5 := hN5.lt
    refine hK.out _ _ ?_ (fun hHeld => ?_)
    ·(try dsimp only)
     try trivial
    clear hK K
    try simp only [layz]
    refine wpAnyH_done b_20 ?_ _
    refine NoPanic.normal ?_
    have kN9 : w5.cell? ⟨w1.heap.size, 0, none⟩ = some (.slice A' (List.length n') c') := hN5.c1
    have kO9 : w5.cell? ⟨w.heap.size, 0, none⟩ = some (.slice none 0 0) := hO5.c1
    have fO9 : w5.frozen? ⟨w.heap.size, 0, none⟩ = false := hO5.f1
    have zO9 := hO5.lt
    have C9 : CurT (w5.setCell ⟨w.heap.size, 0, none⟩ (.slice A' (List.length n') c')) B := Cur.far C5 b_18 _
    have D9 := Dr.set D5 (p := ⟨w.heap.size, 0, none⟩) (.inr (Nat.le_refl _)) (.slice A' (List.length n') c')
    have k9 := (Blk.set_ hO5 0 (.slice A' (List.length n') c')).c1
    have Q9 := (GRow.set HG5.out (p := ⟨w.heap.size, 0, none⟩) (.inl b_18) (.slice A' (List.length n') c')).rdI
    go_wp2_with fail
    refine bodyPost_ret (v := .agg #[.slice A' (List.length n') c']) (by simp [results, Tryz.results56, go_sem, kO9, fO9, zO9]) rfl ?_
    exact ⟨D9, C9, _, n', rfl, Q9.mono b_22 (Nat.le_refl _) (Nat.le_refl _), hA'.out⟩
   ·go_simp
    go_at_call 31
    refine (C_spec_l1Str _ B _ [[], [65], [116, 111, 111, 108, 111, 110, 103, 120, 120], [97, 47, 98], [32], [101, 105, 103, 104, 116, 56, 56, 56]] b_4 b_3 b_21 b_21).mono ?_
    rintro e w3 ⟨hd3, hc3, s, hs, rfl⟩
    have z3 := hd3.size
    (try simp only [World.size_alloc, World.size_drew, size_drewN] at z3)
    have hs9 := any6 hs
    have hsl : s.length ≤ 9223372036854775807 := by omega
    have E3 : Dr B w2 w3 := b_1
    have HG3 := Lib.hid (HG2.out.dr E3 b_22)
    have hO3 := Dr.blk E3 hO2 b_22
    have hN3 := Dr.blk E3 hN2 b_22
    have kN3 := hN3.c1
    have zN3 := hN3.lt
    have D3 : Dr B w w3 := D2.trans E3
    clear hs hd3
    refine hK.out _ _ ?_ (fun hHeld => ?_)
    ·(try dsimp only)
     try trivial
    clear hK K
    try simp only [layz]
    refine rz2 1 5 (fun K hK => ?_) (fun K hK => ?_)
    ·go_simp
     refine hK.out _ _ ?_ (fun hHeld => ?_)
     ·(try dsimp only)
      try trivial
     clear hK K
     try simp only [layz]
     refine rz1 5 (fun K hK => ?_)
     go_simp
     refine hK.out _ _ ?_ (fun hHeld => ?_)
     ·(try dsimp only)
      try trivial
     clear hK K
     try simp only [layz]
     refine rz1 6 (fun K hK => ?_)
     refine step_append_grow (e := .str) b_24 _ _ 24 b_24 (w.heap.size + 1) [w1.heap.size] 9 info_str rfl Tryz.underlying24 (.slice A n.length c) _ n [s] b_24 b_24 b_7 (ASrc.flat rfl b_6) ?_ ?_ ?_ ?_ ?_
     ·intro q hq; simp at hq; subst hq; exact b_16
     ·simp only [List.length_singleton]; omega
     ·simp only [List.length_singleton]; unfold maxLen; omega
     ·exact b_16
     intro v' w' hr' hg'
     have hbl := HG3.out.block
     have hrow : ∀ q, (Value.slice A n.length c).ownBlock = some q → w.heap.size + 1 ≤ q ∧ q ≠ w1.heap.size := fun q hq => ⟨(hbl q hq).1, fun e => (hbl q hq).2.2 (by rw [e]; simp)⟩
     have zg := hg'.size
     (try simp only [World.size_alloc, size_drewN, World.size_drew] at zg)
     have hO4 : Blk w' w.heap.size 29 #[.slice none 0 0] := Blk.grown b_8 hg' (fun e => by have := hrow _ e.symm; omega)
     have hN4 : Blk w' w1.heap.size 29 #[.slice A n.length c] := Blk.grown b_8 hg' (fun e => (hrow _ e.symm).2 rfl)
     have D4 : Dr B w w' := Dr.grown b_1 hg' (fun q hq => by have := hrow q hq; omega)
     have C4 : CurT w' B := Cur.grown b_4 hg' (fun q hq => by have := hrow q hq; omega)
     have hA' := Lib.hid (okAny.app hA.out b_22 hs9)
     obtain ⟨n', hn'⟩ : ∃ n', n' = n ++ [s] := ⟨_, rfl⟩
     rw [← hn'] at hr' hA'
     have hl' := Lib.hid (show n'.length = n.length + 1 by rw [hn', List.length_append, List.length_singleton])
     clear hn'
     obtain ⟨A', c', rfl⟩ := hr'.form
     have HR' := Lib.hid hr'
     clear hr' hg' hbl hrow
     have fN4 : w'.frozen? ⟨w1.heap.size, 0, none⟩ = false := hN4.f1
     have kN4 : w'.cell? ⟨w1.heap.size, 0, none⟩ = some (.slice A n.length c) := hN4.c1
     refine hK.out _ _ ?_ (fun hHeld => ?_)
     ·(try dsimp only)
      try trivial
     clear hK K
     try simp only [layz]
     refine tkz 7 ?_
     try simp only [layz]
     refine rz1 8 (fun K hK => ?_)
     go_simp
     obtain ⟨w5, hw5⟩ : ∃ w5, w5 = w'.setCell ⟨w1.heap.size, 0, none⟩ (.slice A' (List.length n') c') := ⟨_, rfl⟩
     rw [← hw5]
     have hN5 : Blk w5 w1.heap.size 29 #[.slice A' (List.length n') c'] := by rw [hw5]; exact hN4.set_ 0 _
     have hO5 : Blk w5 w.heap.size 29 #[.slice none 0 0] := by rw [hw5]; exact hO4.far b_18 _
     have D5 : Dr B w w5 := by rw [hw5]; exact Dr.set D4 (.inr b_18) _
     have C5 : CurT w5 B := by rw [hw5]; exact Cur.far C4 b_18 _
     have HG5 : Hid (GRow .str (w.heap.size + 1) [w1.heap.size] w5 9 (.slice A' (List.length n') c') n') := by rw [hw5]; exact Lib.hid (GRow.set HR'.out (.inr b_23) _)
     clear hw5 hN4 hO4 D4 C4 HR' fN4 kN4
     have zn5 := hN5.lt
     refine hK.out _ _ ?_ (fun hHeld => ?_)
     ·(try dsimp only)
      try trivial
     clear hK K
     try simp only [layz]
     refine wpAnyH_done b_20 ?_ _
     refine NoPanic.normal ?_
     have kN9 : w5.cell? ⟨w1.heap.size, 0, none⟩ = some (.slice A' (List.length n') c') := hN5.c1
     have kO9 : w5.cell? ⟨w.heap.size, 0, none⟩ = some (.slice none 0 0) := hO5.c1
     have fO9 : w5.frozen? ⟨w.heap.size, 0, none⟩ = false := hO5.f1
     have zO9 := hO5.lt
     have C9 : CurT (w5.setCell ⟨w.heap.size, 0, none⟩ (.slice A' (List.length n') c')) B := Cur.far C5 b_18 _
     have D9 := Dr.set D5 (p := ⟨w.heap.size, 0, none⟩) (.inr (Nat.le_refl _)) (.slice A' (List.length n') c')
     have k9 := (Blk.set_ hO5 0 (.slice A' (List.length n') c')).c1
     have Q9 := (GRow.set HG5.out (p := ⟨w.heap.size, 0, none⟩) (.inl b_18) (.slice A' (List.length n') c')).rdI
     go_wp2_with fail
     refine bodyPost_ret (v := .agg #[.slice A' (List.length n') c']) (by simp [results, Tryz.results56, go_sem, kO9, fO9, zO9]) rfl ?_
     exact ⟨D9, C9, _, n', rfl, Q9.mono b_22 (Nat.le_refl _) (Nat.le_refl _), hA'.out⟩
    ·go_simp
     refine hK.out _ _ ?_ (fun hHeld => ?_)
     ·(try dsimp only)
      try trivial
     clear hK K
     try simp only [layz]
     refine rz1 1 (fun K hK => ?_)
     go_simp
     refine hK.out _ _ ?_ (fun hHeld => ?_)
     ·(try dsimp only)
      try trivial
     clear hK K
     try simp only [layz]
     refine rz1 6 (fun K hK => ?_)
     refine step_append_grow (e := .str) b_24 _ _ 24 b_24 (w.heap.size + 1) [w1.heap.size] 9 info_str rfl Tryz.underlying24 (.slice A n.length c) _ n [s] b_24 b_24 b_7 (ASrc.flat rfl b_6) ?_ ?_ ?_ ?_ ?_
     ·intro q hq; simp at hq; subst hq; exact b_16
     ·simp only [List.length_singleton]; omega
     ·simp only [List.length_singleton]; unfold maxLen; omega
     ·exact b_16
     intro v' w' hr' hg'
     have hbl := HG3.out.block
     have hrow : ∀ q, (Value.slice A n.length c).ownBlock = some q → w.heap.size + 1 ≤ q ∧ q ≠ w1.heap.size := fun q hq => ⟨(hbl q hq).1, fun e => (hbl q hq).2.2 (by rw [e]; simp)⟩
     have zg := hg'.size
     (try simp only [World.size_alloc, size_drewN, World.size_drew] at zg)
     have hO4 : Blk w' w.heap.size 29 #[.slice none 0 0] := Blk.grown b_8 hg' (fun e => by have := hrow _ e.symm; omega)
     have hN4 : Blk w' w1.heap.size 29 #[.slice A n.length c] := Blk.grown b_8 hg' (fun e => (hrow _ e.symm).2 rfl)
     have D4 : Dr B w w' := Dr.grown b_1 hg' (fun q hq => by have := hrow q hq; omega)
     have C4 : CurT w' B := Cur.grown b_4 hg' (fun q hq => by have := hrow q hq; omega)
     have hA' := Lib.hid (okAny.app hA.out b_22 hs9)
     obtain ⟨n', hn'⟩ : ∃ n', n' = n ++ [s] := ⟨_, rfl⟩
     rw [← hn'] at hr' hA'
     have hl' := Lib.hid (show n'.length = n.length + 1 by rw [hn', List.length_append, List.length_singleton])
     clear hn'
     obtain ⟨A', c', rfl⟩ := hr'.form
     have HR' := Lib.hid hr'
     clear hr' hg' hbl hrow
     have fN4 : w'.frozen? ⟨w1.heap.size, 0, none⟩ = false := hN4.f1
     have kN4 : w'.cell? ⟨w1.heap.size, 0, none⟩ = some (.slice A n.length c) := hN4.c1
     refine hK.out _ _ ?_ (fun hHeld => ?_)
     ·(try dsimp only)
      try trivial
     clear hK K
     try simp only [layz]
     refine tkz 7 ?_
     try simp only [layz]
     refine rz1 8 (fun K hK => ?_)
     go_simp
     obtain ⟨w5, hw5⟩ : ∃ w5, w5 = w'.setCell ⟨w1.heap.size, 0, none⟩ (.slice A' (List.length n') c') := ⟨_, rfl⟩
     rw [← hw5]
     have hN5 : Blk w5 w1.heap.size 29 #[.slice A' (List.length n') c'] := by rw [hw5]; exact hN4.set_ 0 _
     have hO5 : Blk w5 w.heap.size 29 #[.slice none 0 0] := by rw [hw5]; exact hO4.far b_18 _
     have D5 : Dr B w w5 := by rw [hw5]; exact Dr.set D4 (.inr b_18) _
     have C5 : CurT w5 B := by rw [hw5]; exact Cur.far C4 b_18 _
     have HG5 : Hid (GRow .str (w.heap.size + 1) [w1.heap.size] w5 9 (.slice A' (List.length n') c') n') := by rw [hw5]; exact Lib.hid (GRow.set HR'.out (.inr b_23) _)
     clear hw5 hN4 hO4 D4 C4 HR' fN4 kN4
     have zn5 := hN5.lt
     refine hK.out _ _ ?_ (fun hHeld => ?_)
     ·(try dsimp only)
      try trivial
     clear hK K
     try simp only [layz]
     refine wpAnyH_done b_20 ?_ _
     refine NoPanic.normal ?_
     have kN9 : w5.cell? ⟨w1.heap.size, 0, none⟩ = some (.slice A' (List.length n') c') := hN5.c1
     have kO9 : w5.cell? ⟨w.heap.size, 0, none⟩ = some (.slice none 0 0) := hO5.c1
     have fO9 : w5.frozen? ⟨w.heap.size, 0, none⟩ = false := hO5.f1
     have zO9 := hO5.lt
     have C9 : CurT (w5.setCell ⟨w.heap.size, 0, none⟩ (.slice A' (List.length n') c')) B := Cur.far C5 b_18 _
     have D9 := Dr.set D5 (p := ⟨w.heap.size, 0, none⟩) (.inr (Nat.le_refl _)) (.slice A' (List.length n') c')
     have k9 := (Blk.set_ hO5 0 (.slice A' (List.length n') c')).c1
     have Q9 := (GRow.set HG5.out (p := ⟨w.heap.size, 0, none⟩) (.inl b_18) (.slice A' (List.length n') c')).rdI
     go_wp2_with fail
     refine bodyPost_ret (v := .agg #[.slice A' (List.length n') c']) (by simp [results, Tryz.results56, go_sem, kO9, fO9, zO9]) rfl ?_
     exact ⟨D9, C9, _, n', rfl, Q9.mono b_22 (Nat.le_refl _) (Nat.le_refl _), hA'.out⟩
 ·go_wp2
  go_loopw [] (fun wr => ∃ (A : Option Addr) (c : Nat) (n : List (List UInt8)), CurT wr B ∧ Dr B w wr ∧ Blk wr w.heap.size 29 #[.slice none 0 0] ∧ Blk wr w1.heap.size 29 #[.slice A n.length c] ∧ GRow .str (w.heap.size + 1) [w1.heap.size] wr 9 (.slice A n.length c) n ∧ okAny n) (fun wr => 7 - cellLen w1.heap.size wr)
  case atStart => exact ⟨A, c, n, hc2, D2, hO2, hN2, HG2.out, hA.out⟩
  case round =>
   obtain ⟨A, c, n, hcr, hdr, hOr, hNr, hGr, hAr⟩ := hrel
   have HGr := Lib.hid hGr
   have hA := Lib.hid hAr
   clear hGr hAr HG2 hO2 hN2 kN fN hc2
   have zr := hdr.size
   have znr := hNr.lt
   have kN : wr.cell? ⟨w1.heap.size, 0, none⟩ = some (.slice A n.length c) := hNr.c1
   have HC : Hid (∀ V, Dr B wr V → V.cell? ⟨w1.heap.size, 0, none⟩ = some (.slice A n.length c)) := fun V hV => (Dr.blk hV hNr b_22).c1
   go_wp2_with fail
   refine wp_region_noPanic ?_
   refine wp_region_held_drew (S := (fun W => W.cell? ⟨w1.heap.size, 0, none⟩ = some (.slice A n.length c))) b_20 ?_ (fun hHeld => ?_)
   ·exact HC.out _ b_1
   refine tkz4 0 3 1 2 ?_
   try simp only [layz]
   refine rz1 4 (fun K hK => ?_)
   go_simp
   go_at_call 58
   refine (C_spec_l1Below _ B 3 b_4 b_21 b_21).mono ?_
   rintro e w3 ⟨hd3, hc3, y, rfl, hy0, hy1⟩
   have hvy : IntKind.i64.wrap (5 + y) = 5 + y := IntWalk.i64_in _ b_22
   have z3 := hd3.size
   (try simp only [World.size_drew, size_drewN] at z3)
   have E3 : Dr B wr w3 := b_1
   have HG3 := Lib.hid (HGr.out.dr E3 b_22)
   have hO3 := Dr.blk E3 hOr b_22
   have hN3 := Dr.blk E3 hNr b_22
   have kN3 := hN3.c1
   have zN3 := hN3.lt
   have D3 : Dr B w w3 := hdr.trans E3
   clear hd3
   refine hK.out _ _ (HC.out _ b_1) (fun hHeld => ?_)
   clear hK K
   try simp only [layz]
   refine tkz2 5 6 ?_
   try simp only [layz]
   refine wpAnyH_done b_20 ?_ _
   refine NoPanic.normal ?_
   by_cases hlt : (n.length : Int) < 5 + y
   ·set_option maxRecDepth 100000 in go_wp2_with (at_builtin; go_loud (refine wpList_append_grow (e := .str) rfl _ _ 24 rfl (w.heap.size + 1) [w1.heap.size] 9 info_str rfl Tryz.underlying24 (.slice A n.length c) _ n [[109]] rfl rfl b_7 (ASrc.flat rfl b_5) ?_ ?_ ?_ ?_ ?_))
    case refine_1 => intro q hq; simp at hq; subst hq; exact b_16
    case refine_2 => simp only [List.length_singleton]; omega
    case refine_3 => simp only [List.length_singleton]; unfold maxLen; omega
    case refine_4 => exact b_16
    intro v' w' hr' hg'
    have hbl := HG3.out.block
    have hrow : ∀ q, (Value.slice A n.length c).ownBlock = some q → w.heap.size + 1 ≤ q ∧ q ≠ w1.heap.size := fun q hq => ⟨(hbl q hq).1, fun e => (hbl q hq).2.2 (by rw [e]; simp)⟩
    have zg := hg'.size
    (try simp only [World.size_alloc, size_drewN, World.size_drew] at zg)
    have hO4 : Blk w' w.heap.size 29 #[.slice none 0 0] := Blk.grown b_8 hg' (fun e => by have := hrow _ e.symm; omega)
    have hN4 : Blk w' w1.heap.size 29 #[.slice A n.length c] := Blk.grown b_8 hg' (fun e => (hrow _ e.symm).2 rfl)
    have D4 : Dr B w w' := Dr.grown b_1 hg' (fun q hq => by have := hrow q hq; omega)
    have C4 : CurT w' B := Cur.grown b_4 hg' (fun q hq => by have := hrow q hq; omega)
    have hA' := Lib.hid (okAny.app hA.out b_22 (show List.length ([109] : List UInt8) ≤ 9 by decide))
    obtain ⟨n', hn'⟩ : ∃ n', n' = n ++ [[109]] := ⟨_, rfl⟩
    rw [← hn'] at hr' hA'
    have hl' := Lib.hid (show n'.length = n.length + 1 by rw [hn', List.length_append, List.length_singleton])
    clear hn'
    obtain ⟨A', c', rfl⟩ := hr'.form
    have HR' := Lib.hid hr'
    clear hr' hg' hbl hrow
    have fN4 : w'.frozen? ⟨w1.heap.size, 0, none⟩ = false := hN4.f1
    have kN4 : w'.cell? ⟨w1.heap.size, 0, none⟩ = some (.slice A n.length c) := hN4.c1
    have hN5 : Blk (w'.setCell ⟨w1.heap.size, 0, none⟩ (.slice A' (List.length n') c')) w1.heap.size 29 #[.slice A' (List.length n') c'] := hN4.set_ 0 _
    have hO5 : Blk (w'.setCell ⟨w1.heap.size, 0, none⟩ (.slice A' (List.length n') c')) w.heap.size 29 #[.slice none 0 0] := hO4.far b_18 _
    have D5 : Dr B w (w'.setCell ⟨w1.heap.size, 0, none⟩ (.slice A' (List.length n') c')) := Dr.set D4 (.inr b_18) _
    have C5 : CurT (w'.setCell ⟨w1.heap.size, 0, none⟩ (.slice A' (List.length n') c')) B := Cur.far C4 b_18 _
    have HG5 : Hid (GRow .str (w.heap.size + 1) [w1.heap.size] (w'.setCell ⟨w1.heap.size, 0, none⟩ (.slice A' (List.length n') c')) 9 (.slice A' (List.length n') c') n') := Lib.hid (GRow.set HR'.out (.inr b_23) _)
    have hm9 := cellLen_blk hN5
    have hm8 := cellLen_blk hNr
    have zN4 := hN4.lt
    clear hN4 hO4 D4 C4 kN kN3
    go_wp2
    go_roundw
    case rel => exact ⟨A', c', n', C5, D5, hO5, hN5, HG5.out, hA'.out⟩
    case measure => rw [hm9, hm8, hl'.out]; omega
   ·have kN9 : w3.cell? ⟨w1.heap.size, 0, none⟩ = some (.slice A (List.length n) c) := hN3.c1
    have kO9 : w3.cell? ⟨w.heap.size, 0, none⟩ = some (.slice none 0 0) := hO3.c1
    have fO9 : w3.frozen? ⟨w.heap.size, 0, none⟩ = false := hO3.f1
    have zO9 := hO3.lt
    have C9 : CurT (w3.setCell ⟨w.heap.size, 0, none⟩ (.slice A (List.length n) c)) B := Cur.far hc3 b_18 _
    have D9 := Dr.set D3 (p := ⟨w.heap.size, 0, none⟩) (.inr (Nat.le_refl _)) (.slice A (List.length n) c)
    have k9 := (Blk.set_ hO3 0 (.slice A (List.length n) c)).c1
    have Q9 := (GRow.set HG3.out (p := ⟨w.heap.size, 0, none⟩) (.inl b_18) (.slice A (List.length n) c)).rdI
    go_wp2
    refine bodyPost_ret (v := .agg #[.slice A (List.length n) c]) (by simp [results, Tryz.results56, go_sem, kO9, fO9, zO9]) rfl ?_
    exact ⟨D9, C9, _, n, rfl, Q9.mono b_22 (Nat.le_refl _) (Nat.le_refl _), hA.out⟩
 ·have q0 : (x == 0) = false := by rw [beq_eq_false_iff_ne]; exact hx.1
  have q1 : (x == 1) = false := by rw [beq_eq_false_iff_ne]; exact hx.2
  have kN9 : w2.cell? ⟨w1.heap.size, 0, none⟩ = some (.slice A (List.length n) c) := hN2.c1
  have kO9 : w2.cell? ⟨w.heap.size, 0, none⟩ = some (.slice none 0 0) := hO2.c1
  have fO9 : w2.frozen? ⟨w.heap.size, 0, none⟩ = false := hO2.f1
  have zO9 := hO2.lt
  have C9 : CurT (w2.setCell ⟨w.heap.size, 0, none⟩ (.slice A (List.length n) c)) B := Cur.far hc2 b_18 _
  have D9 := Dr.set D2 (p := ⟨w.heap.size, 0, none⟩) (.inr (Nat.le_refl _)) (.slice A (List.length n) c)
  have k9 := (Blk.set_ hO2 0 (.slice A (List.length n) c)).c1
  have Q9 := (GRow.set HG2.out (p := ⟨w.heap.size, 0, none⟩) (.inl b_18) (.slice A (List.length n) c)).rdI
  go_wp2
  refine bodyPost_ret (v := .agg #[.slice A (List.length n) c]) (by simp [results, Tryz.results56, go_sem, kO9, fO9, zO9]) rfl ?_
  exact ⟨D9, C9, _, n, rfl, Q9.mono b_22 (Nat.le_refl _) (Nat.le_refl _), hA.out⟩
theorem abs_world {K : Act → World → Prop} {a : Act} {W : World} (h : ∀ W', W' = W → K a W') : K a W := h W rfl
theorem new_dr (B : Nat) (w : World) (o : Obj) : Dr B w (w.alloc o) := (Dr.refl B w).alloc o
theorem nz {t : TypeId} {B : Nat} {w w' V : World} {o : Obj} (hw : w' = V) (hc : Cur t w B) (k : V = w.alloc o ∨ V = (w.alloc o).drew := by first | exact .inl rfl | exact .inr rfl) : Dr B w w' ∧ Cur t w' B ∧ w.heap.size < w'.heap.size := by
 rcases k with k | k <;> subst k <;> subst hw
 ·exact ⟨new_dr B w _, hc.alloc _, by rw [World.size_alloc]; omega⟩
 ·exact ⟨(new_dr B w _).drew, (hc.alloc _).drew, by rw [World.size_drew, World.size_alloc]; omega⟩
theorem RdI.data {lo hi : Nat} {w : World} {v0 v1 v2 : Value} {x : Ty.D tData} (h0 : RdI (.sl .str) lo hi w [v0] x.1) (h1 : RdI (.sl .byte) lo hi w [v1] x.2.1) (h2 : RdI (.sl .str) lo hi w [v2] x.2.2.1) (h3 : -9223372036854775808 ≤ x.2.2.2.1 ∧ x.2.2.2.1 ≤ 9223372036854775807) (h4 : -9223372036854775808 ≤ x.2.2.2.2 ∧ x.2.2.2.2 ≤ 9223372036854775807) :
  RdI tData lo hi w [v0, v1, v2, .int .i64 x.2.2.2.1, .int .i64 x.2.2.2.2] x :=
 RdI.pr h0 (RdI.pr h1 (RdI.pr h2 (RdI.pr (RdI.int h3 h0.1) (RdI.int h4 h0.1))))
end Go.Proofs.YtidnahocnhcoiaaGreatDoor
