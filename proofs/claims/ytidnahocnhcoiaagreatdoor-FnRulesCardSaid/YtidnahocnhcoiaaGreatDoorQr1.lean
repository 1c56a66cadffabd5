/- Texts of this claim, merged by a program: Mkb Drw Cur Str Cuw Pure Hlp Nb Sp0 Psp. -/
import Derived.Test.YtidnahocnhcoiaaGreatDoorQrP
import Derived.Test.YtidnahocnhcoiaaGreatDoorQr0
import Derived.Maps.AppendAt
import Derived.Test.YtidnahocnhcoiaaGreatDoorRows
import Derived.Laws.BitsLemmas
import Derived.BigQuiet
import Derived.StillTailTactics
import Derived.WalkSpells
namespace Go.Proofs.YtidnahocnhcoiaaGreatDoor
open Go.RowKit
set_option linter.unusedVariables false
set_option linter.unusedSimpArgs false
structure Kept (fp : List Nat) (w w' : World) : Prop where
 os : w'.os = w.os
 tape : w'.tape = w.tape
 output : w'.output = w.output
 size : w.heap.size ≤ w'.heap.size
 block : ∀ k, k < w.heap.size → k ∉ fp → w'.heap[k]? = w.heap[k]?
theorem Kept.refl (fp : List Nat) (w : World) : Kept fp w w := ⟨rfl, rfl, rfl, Nat.le_refl _, fun _ _ _ => rfl⟩
theorem Kept.trans {fp : List Nat} {a b c : World} (h : Kept fp a b) (k : Kept fp b c) : Kept fp a c :=
 ⟨k.os.trans h.os, k.tape.trans h.tape, k.output.trans h.output, Nat.le_trans h.size k.size, fun i hi hn => (k.block i (Nat.lt_of_lt_of_le hi h.size) hn).trans (h.block i hi hn)⟩
theorem Kept.mono {fp gp : List Nat} {a b : World} (h : Kept fp a b) (hs : ∀ x ∈ fp, x ∈ gp) : Kept gp a b :=
 ⟨h.os, h.tape, h.output, h.size, fun i hi hn => h.block i hi (fun hm => hn (hs i hm))⟩
theorem Kept.of_below {fp : List Nat} {a b : World} (h : Below a.heap.size a b) : Kept fp a b := ⟨h.os, h.tape, h.output, h.size, fun i hi _ => h.block i hi⟩
theorem Kept.below {fp : List Nat} {a b : World} {B : Nat} (h : Kept fp a b) (hB : B ≤ a.heap.size) (hf : ∀ x ∈ fp, B ≤ x) : Below B a b :=
 ⟨h.os, h.tape, h.output, h.size, fun i hi => h.block i b_22 (fun hm => by have := hf i hm; omega)⟩
theorem Kept.set {fp : List Nat} {a b : World} (h : Kept fp a b) {p : Addr} (hp : p.block ∈ fp) (u : Value) : Kept fp a (b.setCell p u) :=
 ⟨h.os, h.tape, h.output, by simpa [World.setCell] using h.size, fun i hi hn => (Below.heap_setCell _ _ _ _ (fun e => hn (by rw [e]; exact hp))).trans (h.block i hi hn)⟩
theorem Kept.drewN {fp : List Nat} {a b : World} (h : Kept fp a b) (n : Nat) : Kept fp a (b.drewN n) := ⟨h.os, h.tape, h.output, h.size, h.block⟩
theorem Kept.drew {fp : List Nat} {a b : World} (h : Kept fp a b) : Kept fp a b.drew := ⟨h.os, h.tape, h.output, h.size, h.block⟩
theorem Kept.step {fp : List Nat} {a b c : World} (h : Kept fp a b) (k : Below b.heap.size b c) : Kept fp a c := h.trans (Kept.of_below k)
def digLoop : Nat → Int → List UInt8 → List UInt8
 | 0, _, out => out
 | f + 1, k, out => if k ≤ 0 then out else digLoop f (k / 10) (UInt8.ofNat (48 + k % 10).toNat :: out)
def mkText (k : Int) : List UInt8 := if k ≤ 0 then [109, 48] else 109 :: digLoop 20 k []
def DigInv (f : Nat) (kk : Int) (out : List UInt8) (k : Int) : Prop := digLoop 20 k [] = digLoop f kk out ∧ kk < 10 ^ f
theorem DigInv.done {f : Nat} {kk : Int} {out : List UInt8} {k : Int} (h : DigInv f kk out k) (hk : kk ≤ 0) : digLoop 20 k [] = out := by
 rw [h.1]
 cases f with
 | zero => rfl
 | succ f => rw [digLoop, if_pos hk]
theorem DigInv.step {f : Nat} {kk : Int} {out : List UInt8} {k : Int} (h : DigInv f kk out k) (hk : 0 < kk) : ∃ g, f = g + 1 ∧ DigInv g (kk / 10) (UInt8.ofNat (48 + kk % 10).toNat :: out) k := by
 cases f with
 | zero => have := h.2; simp at this; omega
 | succ g =>
  refine ⟨g, rfl, by rw [h.1, digLoop, if_neg b_22], ?_⟩
  have := h.2
  rw [Int.pow_succ] at this
  omega
def Ty.cnt : (t : Ty) → t.D → Nat
 | .int, _ => 1
 | .byte, _ => 1
 | .bool, _ => 0
 | .str, _ => 1
 | .sl e, x => (List.map (fun d => e.cnt d) x).sum
 | .pr a b, x => a.cnt x.1 + b.cnt x.2
def mkSl {α : Type} (f : α → Int → α) (c : α → Nat) : List α → Int → List α
 | [], _ => []
 | a :: l, k => f a k :: mkSl f c l (k + c a)
def Ty.mk : (t : Ty) → t.D → Int → t.D
 | .int, _, k => k
 | .byte, _, k => UInt8.ofNat (k % 256).toNat
 | .bool, b, _ => b
 | .str, _, k => mkText k
 | .sl e, x, k => mkSl (fun d k => e.mk d k) (fun d => e.cnt d) x k
 | .pr a b, x, k => (a.mk x.1 k, b.mk x.2 (k + a.cnt x.1))
def Ty.k0 : Ty → Nat
 | .int => 1 | .byte => 1 | .bool => 0 | .str => 1
 | .sl _ => 0
 | .pr a b => a.k0 + b.k0
theorem length_mkSl {α : Type} (f : α → Int → α) (c : α → Nat) : ∀ (l : List α) (k : Int), (mkSl f c l k).length = l.length
 | [], _ => rfl
 | a :: l, k => by rw [mkSl, List.length_cons, length_mkSl f c l, List.length_cons]
def mkTo {α : Type} (f : α → Int → α) (c : α → Nat) (l : List α) (k : Int) (j : Nat) : List α := (mkSl f c l k).take j ++ l.drop j
theorem mkTo_zero {α : Type} (f : α → Int → α) (c : α → Nat) (l : List α) (k : Int) : mkTo f c l k 0 = l := by simp [mkTo]
theorem mkTo_all {α : Type} (f : α → Int → α) (c : α → Nat) (l : List α) (k : Int) : mkTo f c l k l.length = mkSl f c l k := by
 rw [mkTo, List.drop_length, List.append_nil, List.take_of_length_le (by rw [length_mkSl]; exact Nat.le_refl _)]
theorem Ty.sz_pos : ∀ t : Ty, 0 < t.sz
 | .int => Nat.one_pos
 | .byte => Nat.one_pos
 | .bool => Nat.one_pos
 | .str => Nat.one_pos
 | .sl _ => Nat.one_pos
 | .pr a b => Nat.lt_of_lt_of_le (Ty.sz_pos a) (Nat.le_add_right _ _)
theorem Ty.ow_lt {w : World} : ∀ {t : Ty} {cs : List Value} {x : t.D} {fp : List Nat}, t.ow w cs x fp → ∀ b ∈ fp, b < w.heap.size
 | .int, _, _, _, h, b, hb => by rw [h.2] at hb; cases hb
 | .byte, _, _, _, h, b, hb => by rw [h.2] at hb; cases hb
 | .bool, _, _, _, h, b, hb => by rw [h.2] at hb; cases hb
 | .str, _, _, _, h, b, hb => by rw [h.2] at hb; cases hb
 | .sl e, _, x, _, ⟨A, c, h1, h2, h3, h4, h5⟩, b, hb => by
  rcases h5 with h5 | ⟨h0, g, o, fs, hA, hfp, hc⟩
  ·rw [h5.2] at hb; cases hb
  ·rw [hfp] at hb
   rcases List.mem_cons.1 hb with rfl | hb
   ·obtain ⟨ds, hl, hcell, _⟩ := hc 0 h0
    have hz := Ty.sz_pos e
    have hv : w.cell? ⟨b, o + 0 * e.sz + 0, none⟩ = some (ds[0]'(by omega)) := by rw [(hcell 0 hz).1]; exact List.getElem?_eq_getElem b_22
    exact World.block_lt_of_cell? w _ hv
   ·obtain ⟨i, hi, hb⟩ := List.mem_flatMap.1 hb
    obtain ⟨ds, hl, hcell, hr⟩ := hc i (List.mem_range.1 hi)
    exact Ty.ow_lt hr b hb
 | .pr _ _, _, _, _, ⟨c1, c2, f1, f2, h, hf, h1, h2⟩, b, hb => by
  rw [hf] at hb
  rcases List.mem_append.1 hb with hb | hb
  ·exact Ty.ow_lt h1 b hb
  ·exact Ty.ow_lt h2 b hb
theorem Ty.ow_bel {w w' : World} (hb : Below w.heap.size w w') {t : Ty} {cs : List Value} {x : t.D} {fp : List Nat} (h : t.ow w cs x fp) : t.ow w' cs x fp :=
 Ty.ow_keep (fun b hb' => hb.block b (Ty.ow_lt h b hb')) h
def RetMk (w : World) (t : Ty) (cs : List Value) (x : t.D) (fp : List Nat) (k : Int) (e : Ending) (w' : World) : Prop := e = .returned (.int .i64 k) ∧ t.ow w' cs x fp ∧ Kept fp w w'
def MkInv (e : Ty) (A : Option Addr) (c : Nat) (x : List e.D) (fp : List Nat) (k : Int) (w : World) (j : Nat) (wr : World) : Prop :=
 (Ty.sl e).ow wr [.slice A x.length c] (mkTo (fun d k => e.mk d k) (fun d => e.cnt d) x k j) fp ∧ Kept fp w wr
theorem MkInv.zero {e : Ty} {A : Option Addr} {c : Nat} {x : List e.D} {fp : List Nat} {k : Int} {w : World} (h : (Ty.sl e).ow w [.slice A x.length c] x fp) : MkInv e A c x fp k w 0 w := by
 refine ⟨?_, Kept.refl _ _⟩
 rw [mkTo_zero]
 exact h
theorem MkInv.done {e : Ty} {A : Option Addr} {c : Nat} {x : List e.D} {fp : List Nat} {k kk : Int} {w wr : World} (h : MkInv e A c x fp k w x.length wr) :
  RetMk w (.sl e) [.slice A x.length c] (Ty.mk (.sl e) x k) fp kk (.returned (.int .i64 kk)) wr := by
 refine ⟨rfl, ?_, h.2⟩
 have := h.1
 rw [mkTo_all] at this
 exact this
theorem Ty.ow_ones {w : World} : ∀ {t : Ty} {cs : List Value} {x : t.D} {fp : List Nat}, t.ow w cs x fp → ∀ u ∈ cs, u.oneCell' = true
 | .int, _, _, _, h => by rw [h.1.1]; intro u hu; simp at hu; subst hu; rfl
 | .byte, _, _, _, h => by rw [show _ = _ from h.1]; intro u hu; simp at hu; subst hu; rfl
 | .bool, _, _, _, h => by rw [show _ = _ from h.1]; intro u hu; simp at hu; subst hu; rfl
 | .str, _, _, _, h => by rw [h.1.1]; intro u hu; simp at hu; subst hu; rfl
 | .sl _, _, _, _, ⟨_, _, h, _⟩ => by rw [h]; intro u hu; simp at hu; subst hu; rfl
 | .pr a b, _, _, _, ⟨c1, c2, _, _, h, _, h1, h2⟩ => by
  rw [h]; intro u hu
  rcases List.mem_append.1 hu with hu | hu
  ·exact Ty.ow_ones h1 u hu
  ·exact Ty.ow_ones h2 u hu
def Ty.flat : Ty → Bool
 | .sl _ => false
 | .pr a b => a.flat && b.flat
 | _ => true
theorem Ty.rd_ow_flat {w : World} : ∀ {t : Ty} {cs : List Value} {x : t.D}, t.flat = true → t.rd w cs x → t.ow w cs x []
 | .int, _, _, _, h => ⟨h, rfl⟩
 | .byte, _, _, _, h => ⟨h, rfl⟩
 | .bool, _, _, _, h => ⟨h, rfl⟩
 | .str, _, _, _, h => ⟨h, rfl⟩
 | .sl _, _, _, hf, _ => by simp [Ty.flat] at hf
 | .pr a b, _, _, hf, ⟨c1, c2, h, h1, h2⟩ => by
  simp only [Ty.flat, Bool.and_eq_true] at hf
  exact ⟨c1, c2, [], [], h, rfl, Ty.rd_ow_flat hf.1 h1, Ty.rd_ow_flat hf.2 h2⟩
theorem fmr_congr {α : Type} {f g : Nat → List α} : ∀ {n : Nat}, (∀ i, i < n → f i = g i) → (List.range n).flatMap f = (List.range n).flatMap g
 | 0, _ => rfl
 | n + 1, h => by
  rw [List.range_succ, List.flatMap_append, List.flatMap_append, fmr_congr (n := n) (fun i hi => h i b_22)]
  simp [h n b_22]
theorem fmr_len {α : Type} (css : Nat → List α) (sz : Nat) : ∀ n, (∀ i, i < n → (css i).length = sz) → ((List.range n).flatMap css).length = n * sz
 | 0, _ => by simp
 | n + 1, h => by
  rw [List.range_succ, List.flatMap_append, List.length_append, fmr_len css sz n (fun i hi => h i b_22), Nat.succ_mul]
  simp [h n b_22]
theorem fmr_get {α : Type} (css : Nat → List α) (sz : Nat) : ∀ n, (∀ i, i < n → (css i).length = sz) → ∀ i j, i < n → j < sz → ((List.range n).flatMap css)[i * sz + j]? = (css i)[j]?
 | 0, _, _, _, h, _ => by omega
 | n + 1, h, i, j, hi, hj => by
  have hl := fmr_len css sz n (fun i hi => h i b_22)
  rw [List.range_succ, List.flatMap_append]
  by_cases hin : i < n
  ·have h2 : (i + 1) * sz ≤ n * sz := Nat.mul_le_mul_right _ b_22
   rw [Nat.succ_mul] at h2
   rw [List.getElem?_append_left (by rw [hl]; omega)]
   exact fmr_get css sz n (fun i hi => h i b_22) i j hin hj
  ·obtain rfl : i = n := by omega
   rw [List.getElem?_append_right (by rw [hl]; omega), hl, Nat.add_sub_cancel_left]
   simp
def glue {α : Type} (n : Nat) (f g : Nat → α) : Nat → α := fun i => if i < n then f i else g (i - n)
theorem glue_lt {α : Type} {n : Nat} {f g : Nat → α} {i : Nat} (h : i < n) : glue n f g i = f i := if_pos h
theorem glue_ge {α : Type} {n : Nat} {f g : Nat → α} (i : Nat) : glue n f g (n + i) = g i := by
 unfold glue; rw [if_neg b_22, Nat.add_sub_cancel_left]
theorem fmr_glue {α : Type} (n : Nat) (f g : Nat → List α) : ∀ m, (List.range (n + m)).flatMap (glue n f g) = (List.range n).flatMap f ++ (List.range m).flatMap g
 | 0 => by
  rw [Nat.add_zero, fmr_congr (fun i hi => glue_lt hi)]; simp
 | m + 1 => by
  rw [← Nat.add_assoc, List.range_succ, List.flatMap_append, fmr_glue n f g m, List.range_succ (n := m), List.flatMap_append, List.append_assoc]
  simp [glue_ge]
def Src (e : Ty) (w : World) (lo : Nat) (u : Value) (y : List e.D) : Prop :=
 ∃ A c fs, u = .slice A y.length c ∧ FrI lo w.heap.size ((List.range y.length).flatMap fs) ∧
  (0 < y.length → ∃ b o, A = some ⟨b, o, none⟩ ∧ ∀ i (h : i < y.length), ∃ ds : List Value, ds.length = e.sz ∧ (∀ j, j < e.sz → w.cell? ⟨b, o + i * e.sz + j, none⟩ = ds[j]?) ∧ e.ow w ds y[i] (fs i))
theorem Src.flat {e : Ty} {w : World} {u : Value} {y : List e.D} (hf : e.flat = true) (h : (Ty.sl e).rd w [u] y) (lo : Nat) : Src e w lo u y := by
 obtain ⟨A, c, hu, _, _, _, hc⟩ := h
 injection hu with hu _
 refine ⟨A, c, fun _ => [], hu, ?_, fun h0 => ?_⟩
 ·rw [List.flatMap_eq_nil_iff.2 (fun _ _ => rfl)]; exact FrI.nil _ _
 ·obtain ⟨b, o, hA, hel⟩ := hc h0
  exact ⟨b, o, hA, fun i hi => by obtain ⟨ds, h1, h2, h3⟩ := hel i hi; exact ⟨ds, h1, h2, Ty.rd_ow_flat hf h3⟩⟩
theorem Src.one {e : Ty} {w : World} {lo b o c : Nat} {ds : List Value} {d : e.D} {f : List Nat} (hc : ∀ j, j < e.sz → w.cell? ⟨b, o + j, none⟩ = ds[j]?) (how : e.ow w ds d f) (hf : FrI lo w.heap.size f) :
  Src e w lo (.slice (some ⟨b, o, none⟩) 1 c) [d] := by
 refine ⟨_, c, fun _ => f, rfl, ?_, fun _ => ⟨b, o, rfl, fun i hi => ?_⟩⟩
 ·simpa using hf
 ·have h0 : i = 0 := by simpa using hi
  subst h0
  exact ⟨ds, Ty.ow_len how, fun j hj => by rw [Nat.zero_mul, Nat.add_zero]; exact hc j hj, how⟩
theorem Src.lit {e : Ty} {w : World} {lo c : Nat} (te : TypeId) {ds : List Value} {d : e.D} {f : List Nat} (how : e.ow w ds d f) (hf : FrI lo w.heap.size f) :
  Src e (w.alloc (.cells ds.toArray te)) lo (.slice (some ⟨w.heap.size, 0, none⟩) 1 c) [d] :=
 Src.one (fun j hj => by rw [Nat.zero_add]; exact (cell_new w te ds.toArray j rfl).trans b_23) (Ty.ow_bel ((Below.refl _ _).alloc (Nat.le_refl _) _) how) (hf.mono (Nat.le_refl _) b_15)
theorem Src.drew {e : Ty} {w : World} {lo : Nat} {u : Value} {y : List e.D} (h : Src e w lo u y) : Src e w.drew lo u y := by
 obtain ⟨A, c, fs, h1, h2, h3⟩ := h
 refine ⟨A, c, fs, h1, h2, fun h0 => ?_⟩
 obtain ⟨b, o, h4, h5⟩ := h3 h0
 exact ⟨b, o, h4, fun i hi => by obtain ⟨ds, g1, g2, g3⟩ := h5 i hi; exact ⟨ds, g1, g2, Ty.ow_bel (bel_drew (Below.refl _ _)) g3⟩⟩
def DRow (e : Ty) (w : World) (base : Nat) (te : TypeId) (v : Value) (x : List e.D) : Prop :=
 ∃ (css : Nat → List Value) (fs : Nat → List Nat), w.ownsRow base te e.sz v x.length ((List.range x.length).flatMap css) ∧
  (∀ i (h : i < x.length), (css i).length = e.sz ∧ e.ow w (css i) x[i] (fs i)) ∧
  FrI base w.heap.size ((List.range x.length).flatMap fs) ∧ (∀ g, v.ownBlock = some g → g ∉ (List.range x.length).flatMap fs)
theorem DRow.nil (e : Ty) (w : World) (base : Nat) (te : TypeId) : DRow e w base te (.slice none 0 0) [] :=
 ⟨fun _ => [], fun _ => [], World.ownsRow_nil w base te e.sz, fun i h => absurd h b_23, FrI.nil _ _, fun g h => by cases h⟩
theorem DRow.lit0 (e : Ty) (w : World) (te : TypeId) {base : Nat} (hb : base ≤ w.heap.size) : DRow e (w.alloc (.cells #[] te)) base te (.slice (some ⟨w.heap.size, 0, none⟩) 0 0) [] :=
 ⟨fun _ => [], fun _ => [], World.ownsRow_lit w #[] 0 hb (by unfold maxLen; omega) b_23, fun i h => absurd h b_23, FrI.nil _ _, fun g h => by simp⟩
section
variable {e : Ty} {w w' : World} {base : Nat} {te : TypeId} {v : Value} {x : List e.D}
theorem DRow.block (h : DRow e w base te v x) : ∀ g, v.ownBlock = some g → base ≤ g ∧ g < w.heap.size := by
 obtain ⟨css, fs, h, _⟩ := h
 exact h.lt
theorem DRow.below (h : DRow e w base te v x) (hb : Below w.heap.size w w') : DRow e w' base te v x := by
 obtain ⟨css, fs, h1, h2, h3, h4⟩ := h
 refine ⟨css, fs, ⟨h1.1, ?_⟩, fun i hi => ⟨(h2 i hi).1, Ty.ow_bel hb (h2 i hi).2⟩, h3.mono (Nat.le_refl _) hb.size, h4⟩
 rcases h1.2 with hn | ⟨g, cap, cur, rfl, hbg, hgg, rest⟩
 ·exact .inl hn
 ·exact .inr ⟨g, cap, cur, rfl, hbg, (hb.block g (Blk.lt (t := te) (cs := cur) hgg)).trans hgg, rest⟩
theorem DRow.mono {base' : Nat} (h : DRow e w base te v x) (hb : base' ≤ base) : DRow e w base' te v x := by
 obtain ⟨css, fs, h1, h2, h3, h4⟩ := h
 refine ⟨css, fs, ⟨h1.1, ?_⟩, h2, h3.mono hb (Nat.le_refl _), h4⟩
 rcases h1.2 with hn | ⟨g, cap, cur, rfl, hbg, hgg, rest⟩
 ·exact .inl hn
 ·exact .inr ⟨g, cap, cur, rfl, Nat.le_trans hb hbg, hgg, rest⟩
theorem DRow.le (h : DRow e w base te v x) : x.length ≤ maxLen := by
 obtain ⟨css, fs, h, _⟩ := h
 rcases h.2 with ⟨_, hn⟩ | ⟨g, cap, cur, _, _, _, h1, h2, _⟩
 ·rw [hn]; exact Nat.zero_le _
 ·exact Nat.le_trans h1 h2
theorem DRow.own (h : DRow e w base te v x) : ∃ A c fp, v = .slice A x.length c ∧ (Ty.sl e).ow w [v] x fp ∧ FrI base w.heap.size fp := by
 have hl := h.le
 unfold maxLen at hl
 obtain ⟨css, fs, h1, h2, h3, h4⟩ := h
 rcases h1.2 with ⟨rfl, hn⟩ | ⟨g, cap, cur, rfl, hbg, hg, hnc, hcm, hcs, htake⟩
 ·have hx : x = [] := List.eq_nil_of_length_eq_zero hn
  subst hx
  exact ⟨none, 0, [], rfl, ⟨none, 0, rfl, by simp, ⟨by unfold maxLen; omega, fun _ => rfl⟩, by simp, .inl ⟨rfl, rfl⟩⟩, FrI.nil _ _⟩
 ·have hlt : g < w.heap.size := Blk.lt (t := te) (cs := cur) hg
  by_cases h0 : x.length = 0
  ·exact ⟨_, _, [], rfl, ⟨_, _, rfl, hnc, ⟨hcm, fun h => by cases h⟩, by omega, .inl ⟨h0, rfl⟩⟩, FrI.nil _ _⟩
  ·have hg4 := h4 g rfl
   refine ⟨_, _, g :: (List.range x.length).flatMap fs, rfl, ⟨_, _, rfl, hnc, ⟨hcm, fun h => by cases h⟩, by omega, .inr ⟨by show 0 < x.length; omega, g, 0, fs, rfl, rfl, fun i hi => ?_⟩⟩, ?_⟩
   ·refine ⟨css i, (h2 i hi).1, fun j hj => ⟨?_, ?_⟩, (h2 i hi).2⟩
    ·have h5 : (i + 1) * e.sz ≤ x.length * e.sz := Nat.mul_le_mul_right _ hi
     rw [Nat.succ_mul] at h5
     rw [Nat.zero_add, h1.cellAt (i * e.sz + j) b_22]
     exact fmr_get css e.sz x.length (fun i hi => (h2 i hi).1) i j hi hj
    ·exact Blk.frozen (t := te) (cs := cur) hg _
   ·refine ⟨List.nodup_cons.2 ⟨hg4, h3.1⟩, fun b hb' => ?_⟩
    rcases List.mem_cons.1 hb' with rfl | hb'
    ·exact ⟨hbg, hlt⟩
    ·exact h3.2 b hb'
theorem DRow.rd (h : DRow e w base te v x) : (Ty.sl e).rd w [v] x := by
 obtain ⟨A, c, fp, _, how, _⟩ := h.own
 exact Ty.ow_rd how
theorem DRow.form (h : DRow e w base te v x) : ∃ A c, v = .slice A x.length c := by
 obtain ⟨A, c, fp, hv, _⟩ := h.own
 exact ⟨A, c, hv⟩
end
theorem ownsRow_below {w w' : World} {base : Nat} {te : TypeId} {sz : Nat} {v : Value} {n : Nat} {xs : List Value} (h1 : w.ownsRow base te sz v n xs) (hb : Below w.heap.size w w') : w'.ownsRow base te sz v n xs := by
 refine ⟨h1.1, ?_⟩
 rcases h1.2 with hn | ⟨g, cap, cur, rfl, hbg, hgg, rest⟩
 ·exact .inl hn
 ·exact .inr ⟨g, cap, cur, rfl, hbg, (hb.block g (Blk.lt (t := te) (cs := cur) hgg)).trans hgg, rest⟩
theorem run_append_drow {P : Program} {w0 w : World} {e : Ty} (base : Nat) (t ty te : TypeId) {z : Value} {by_ : Nat} (hinfo : (P.info? te).map (fun i => (i.zero, i.size, i.bytes)) = some (some z, e.sz, by_)) (hz1 : z.cells.size = e.sz) (ht : P.underlying t = some (.slice te))
  (v u : Value) (x y : List e.D) (hown : DRow e w0 base te v x) (hbel : Below w0.heap.size w0 w) (hy : Src e w w0.heap.size u y) (hbytes : (x.length + y.length) * by_ ≤ 140737488355328) (hlen : x.length + y.length ≤ maxLen) (hbase : base ≤ w0.heap.size) :
  ∃ v' w', (Builtin.append_ #[t, t] ty #[v, u]).run P w = .ok v' w' ∧ DRow e w' base te v' (x ++ y) ∧ w.grownBy w' v.ownBlock := by
 obtain ⟨i, hi, hzz⟩ := Option.map_eq_some_iff.1 hinfo
 simp only [Prod.mk.injEq] at hzz
 obtain ⟨hz, hsz, hby⟩ := hzz
 have hlt0 := hown.block
 obtain ⟨css, fs, h1, h2, h3, h4⟩ := hown
 have h1' := ownsRow_below h1 hbel
 obtain ⟨A, c, fs', rfl, hfr', hel⟩ := hy
 by_cases h0 : y.length = 0
 ·have hy0 : y = [] := List.eq_nil_of_length_eq_zero h0
  subst hy0
  refine ⟨v, w, run_append_zero base t ty te i e.sz ht hi v _ _ h1' A c, ?_, World.grownBy.refl _ _⟩
  rw [List.append_nil]
  exact DRow.below ⟨css, fs, h1, h2, h3, h4⟩ hbel
 ·obtain ⟨b, o, rfl, hel2⟩ := hel b_22
  have hpos := Ty.sz_pos e
  have hds : ∃ dss : Nat → List Value, ∀ i (h : i < y.length), (dss i).length = e.sz ∧ (∀ j, j < e.sz → w.cell? ⟨b, o + i * e.sz + j, none⟩ = (dss i)[j]?) ∧ e.ow w (dss i) y[i] (fs' i) := by
   refine ⟨fun i => if h : i < y.length then (hel2 i h).choose else [], fun i h => ?_⟩
   simp only [dif_pos h]
   exact (hel2 i h).choose_spec
  obtain ⟨dss, hd⟩ := hds
  have hl : ((List.range y.length).flatMap dss).length = y.length * e.sz := fmr_len dss e.sz y.length (fun i hi => (hd i hi).1)
  have hcells : ∀ j u, ((List.range y.length).flatMap dss)[j]? = some u → w.cell? ((⟨b, o, none⟩ : Addr).add j) = some u := by
   intro j u hj
   have hjl : j < y.length * e.sz := by rw [← hl]; exact (List.getElem?_eq_some_iff.1 hj).1
   have hdiv : j / e.sz < y.length := (Nat.div_lt_iff_lt_mul hpos).2 hjl
   have hmod : j % e.sz < e.sz := Nat.mod_lt _ hpos
   have hjj : j / e.sz * e.sz + j % e.sz = j := by rw [Nat.mul_comm]; exact Nat.div_add_mod j e.sz
   have h5 := (hd _ hdiv).2.1 _ hmod
   have h6 := fmr_get dss e.sz y.length (fun i hi => (hd i hi).1) _ _ hdiv hmod
   rw [hjj, hj] at h6
   rw [Addr.add_lit, show o + j = o + j / e.sz * e.sz + j % e.sz from by omega, h5, ← h6]
  have hones : ∀ u ∈ (List.range y.length).flatMap dss, u.oneCell' = true := by
   intro u hu
   obtain ⟨k, hk, hu⟩ := List.mem_flatMap.1 hu
   exact Ty.ow_ones (hd k (List.mem_range.1 hk)).2.2 u hu
  obtain ⟨v', w', hr, g1, g2, _, g3⟩ := run_append_own_at (P := P) w base t ty te i z e.sz by_ ht hi hz hsz hby hz1 hpos v x.length _ h1' ⟨b, o, none⟩ y.length c ((List.range y.length).flatMap dss) hl hcells hones hlen hbytes (Nat.le_trans hbase hbel.size)
  refine ⟨v', w', hr, ⟨glue x.length css dss, glue x.length fs fs', ?_, ?_, ?_, ?_⟩, g2⟩
  ·rw [List.length_append, fmr_glue]; exact g1
  ·intro k hk
   by_cases hkx : k < x.length
   ·rw [glue_lt hkx, glue_lt hkx, List.getElem_append_left hkx]
    refine ⟨(h2 k hkx).1, Ty.ow_keep (fun b' hb' => ?_) (h2 k hkx).2⟩
    have hm : b' ∈ (List.range x.length).flatMap fs := List.mem_flatMap.2 ⟨k, List.mem_range.2 hkx, hb'⟩
    have h5 := h3.2 b' hm
    exact (g2.block b' (Nat.lt_of_lt_of_le h5.2 hbel.size) (fun e' => h4 b' e'.symm hm)).trans (hbel.block b' h5.2)
   ·obtain ⟨m, rfl⟩ : ∃ m, k = x.length + m := ⟨k - x.length, by omega⟩
    have hm : m < y.length := by rw [List.length_append] at hk; omega
    rw [glue_ge, glue_ge, List.getElem_append_right b_22]
    simp only [Nat.add_sub_cancel_left]
    refine ⟨(hd m hm).1, Ty.ow_keep (fun b' hb' => ?_) (hd m hm).2.2⟩
    have hm' : b' ∈ (List.range y.length).flatMap fs' := List.mem_flatMap.2 ⟨m, List.mem_range.2 hm, hb'⟩
    have h5 := hfr'.2 b' hm'
    exact g2.block b' h5.2 (fun e' => by have := hlt0 b' e'.symm; omega)
  ·rw [List.length_append, fmr_glue]
   exact FrI.app h3 (hfr'.mono (Nat.le_refl _) g2.size) (Nat.le_refl _) hbase (Nat.le_trans hbel.size g2.size)
  ·intro g hg hmem
   rw [List.length_append, fmr_glue] at hmem
   have hs := hbel.size
   rcases g3 with g3 | g3
   ·rw [g3] at hg
    have := hlt0 g hg
    rcases List.mem_append.1 hmem with hm | hm
    ·exact h4 g hg hm
    ·have := hfr'.2 g hm; omega
   ·rw [g3] at hg
    have hg' : w.heap.size = g := by simpa using hg
    rcases List.mem_append.1 hmem with hm | hm
    ·have := h3.2 g hm; omega
    ·have := hfr'.2 g hm; omega
theorem wpList_append_drow {P : Program} {w : World} {ops : Array Oper} {rest : List Oper} {o : Oper} {a : Act} {Q : Exit → Act → World → Prop} (hgd : o.guard = none) (s xo : Operand) (t : TypeId)
  (ho : o.op = .call { callee := .builtin .append, args := #[s, xo], argTypes := #[t, t] }) {e : Ty} (w0 : World) (base : Nat) (te : TypeId) {z : Value} {by_ : Nat}
  (hinfo : (P.info? te).map (fun i => (i.zero, i.size, i.bytes)) = some (some z, e.sz, by_)) (hz1 : z.cells.size = e.sz) (ht : P.underlying t = some (.slice te))
  (v u : Value) (x y : List e.D) (hs : a.eval s = v) (hx : a.eval xo = u) (hown : DRow e w0 base te v x) (hbel : Below w0.heap.size w0 w) (hy : Src e w w0.heap.size u y) (hbytes : (x.length + y.length) * by_ ≤ 140737488355328) (hlen : x.length + y.length ≤ maxLen) (hbase : base ≤ w0.heap.size)
  (h : ∀ v' w', DRow e w' base te v' (x ++ y) → w.grownBy w' v.ownBlock → wpList P ops Q rest (a.put o.dst v') w') : wpList P ops Q (o :: rest) a w := by
 obtain ⟨v', w', hr, h2, h3⟩ := run_append_drow (P := P) base t o.type te hinfo hz1 ht v u x y hown hbel hy hbytes hlen hbase
 refine wpList_plain hgd fun K hK => ?_
 unfold Oper.wp execOp
 simp only [ho, resolve, invoke, builtin, Sem.run_bind, Sem.run_pure, Result.andThen_ok, List.map_toArray, List.map_cons, List.map_nil, hs, hx, hr]
 exact hK _ _ (h v' w' h2 h3)
def RetDRow (e : Ty) (w : World) (te : TypeId) (x : List e.D) (r : Ending) (w' : World) : Prop :=
 ∃ v, r = .returned v ∧ DRow e w' w.heap.size te v x ∧ Below w.heap.size w w'
theorem RetDRow.sl {e : Ty} {w : World} {te : TypeId} {x : List e.D} {r : Ending} {w' : World} (h : RetDRow e w te x r w') : RetSl w e x r w' := by
 obtain ⟨v, rfl, hr, hb⟩ := h
 obtain ⟨A, c, fp, rfl, how, hfr⟩ := hr.own
 exact ⟨A, c, fp, rfl, how, hfr, hb⟩
def dead : Obj := .cells #[] 0 (0, 0)
def hide (B : Nat) (w : World) : World := { w with heap := w.heap.setIfInBounds B dead }
theorem hide_size (B : Nat) (w : World) : (hide B w).heap.size = w.heap.size := by show (w.heap.setIfInBounds B dead).size = _; simp
theorem hide_other {B g : Nat} (h : g ≠ B) (w : World) : (hide B w).heap[g]? = w.heap[g]? := by
 show (w.heap.setIfInBounds B dead)[g]? = _
 rw [Array.getElem?_setIfInBounds_ne (Ne.symm h)]
theorem hide_same {B : Nat} {w : World} (h : B < w.heap.size) : (hide B w).heap[B]? = some dead := by
 show (w.heap.setIfInBounds B dead)[B]? = _
 rw [Array.getElem?_setIfInBounds_self_of_lt h]
theorem hide_cell {B : Nat} {w : World} {p : Addr} {v : Value} (h : (hide B w).cell? p = some v) : w.cell? p = some v ∧ p.block ≠ B := by
 have hne : p.block ≠ B := by
  intro e
  have hlt : p.block < (hide B w).heap.size := World.block_lt_of_cell? _ _ h
  rw [hide_size] at hlt
  have h2 : (hide B w).heap[p.block]? = some dead := by rw [e]; exact hide_same b_22
  unfold World.cell? at h
  rw [h2] at h
  simp [dead] at h
 refine ⟨?_, hne⟩
 have : (hide B w).cell? p = w.cell? p := World.cell?_of_block (w := w) (a := p) (hide_other hne w)
 rw [← this]; exact h
theorem rd_hide {B : Nat} {w : World} : ∀ {t : Ty} {cs : List Value} {x : t.D}, t.rd (hide B w) cs x → t.rd w cs x
 | .int, _, _, h => h
 | .byte, _, _, h => h
 | .bool, _, _, h => h
 | .str, _, _, h => h
 | .sl e, _, _, ⟨A, c, h1, h2, h3, h4, h5⟩ => ⟨A, c, h1, h2, h3, h4, fun hn => by
   obtain ⟨b, o, hA, hc⟩ := h5 hn
   refine ⟨b, o, hA, fun i hi => ?_⟩
   obtain ⟨ds, hl, hcell, hr⟩ := hc i hi
   refine ⟨ds, hl, fun j hj => ?_, rd_hide hr⟩
   have hv : (hide B w).cell? ⟨b, o + i * e.sz + j, none⟩ = some (ds[j]'(by omega)) := by rw [hcell j hj]; exact List.getElem?_eq_getElem b_22
   rw [(hide_cell hv).1]
   exact (List.getElem?_eq_getElem b_22).symm⟩
 | .pr _ _, _, _, ⟨c1, c2, h, h1, h2⟩ => ⟨c1, c2, h, rd_hide h1, rd_hide h2⟩
abbrev Dr (B : Nat) (w w' : World) : Prop := Below w.heap.size (hide B w) (hide B w')
theorem Dr.refl (B : Nat) (w : World) : Dr B w w := Below.refl _ _
theorem Dr.size {B : Nat} {w w' : World} (h : Dr B w w') : w.heap.size ≤ w'.heap.size := by
 have := Below.size h; rw [hide_size, hide_size] at this; exact this
theorem Dr.of {w w' : World} (h : Below w.heap.size w w') (B : Nat) : Dr B w w' := by
 refine ⟨h.os, h.tape, h.output, by rw [hide_size, hide_size]; exact h.size, fun k hk => ?_⟩
 by_cases e : k = B
 ·subst e
  rw [hide_same hk, hide_same (Nat.lt_of_lt_of_le hk h.size)]
 ·rw [hide_other e, hide_other e]; exact h.block k hk
theorem Dr.trans {B : Nat} {w w1 w2 : World} (h : Dr B w w1) (k : Dr B w1 w2) : Dr B w w2 :=
 ⟨k.os.trans h.os, k.tape.trans h.tape, k.output.trans h.output, Nat.le_trans (Below.size h) (Below.size k), fun g hg => (k.block g (Nat.lt_of_lt_of_le hg h.size)).trans (h.block g hg)⟩
theorem Dr.then_ {B : Nat} {w w1 w2 : World} (h : Dr B w w1) (k : Below w1.heap.size w1 w2) : Dr B w w2 := h.trans (Dr.of k B)
theorem Dr.alloc {B : Nat} {w w1 : World} (h : Dr B w w1) (o : Obj) : Dr B w (w1.alloc o) := h.then_ (bel_alloc (Below.refl _ _) o)
theorem Dr.drewN {B : Nat} {w w1 : World} (h : Dr B w w1) (n : Nat) : Dr B w (w1.drewN n) := h.then_ (bel_drewN (Below.refl _ _) n)
theorem Dr.drew {B : Nat} {w w1 : World} (h : Dr B w w1) : Dr B w w1.drew := h.then_ (bel_drew (Below.refl _ _))
theorem ez {B : Nat} (u : World) {v w : World} (h : Dr B v w) (k : Dr B v w → Dr B u w := by first | exact id | exact fun h => (Dr.drew (Dr.refl _ _)).trans h) : Dr B u w ∧ u.heap.size ≤ w.heap.size := ⟨k h, (k h).size⟩
theorem drz {B : Nat} {w w' V : World} (X : Dr B w w') (h : Dr B w w' → Dr B w V := by first | exact id | exact Dr.drew) : Dr B w V := h X
theorem Dr.set {B : Nat} {w w1 : World} (h : Dr B w w1) {p : Addr} (hp : p.block = B ∨ w.heap.size ≤ p.block) (u : Value) : Dr B w (w1.setCell p u) := by
 refine ⟨h.os, h.tape, h.output, by have := Below.size h; rw [hide_size] at this ⊢; rw [hide_size, World.size_setCell]; rw [hide_size] at this; exact this, fun g hg => ?_⟩
 by_cases e : g = B
 ·subst e
  rw [hide_same (by rw [World.size_setCell]; exact Nat.lt_of_lt_of_le hg h.size), hide_same hg]
 ·rw [hide_other e, hide_other e, Below.heap_setCell w1 p u g (by rcases hp with hp | hp <;> omega)]
  have := h.block g hg
  rw [hide_other e, hide_other e] at this
  exact this
theorem Dr.block {B g : Nat} {w w' : World} (h : Dr B w w') (hg : g < w.heap.size) (hne : g ≠ B) : w'.heap[g]? = w.heap[g]? := by
 have := Below.block h g hg
 rw [hide_other hne, hide_other hne] at this
 exact this
theorem Dr.below {B n : Nat} {w w' : World} (h : Dr B w w') (hn : n ≤ B) (hs : n ≤ w.heap.size) : Below n w w' :=
 ⟨h.os, h.tape, h.output, h.size, fun k hk => h.block b_22 b_22⟩
theorem Dr.blk {B g : Nat} {w w' : World} {t : TypeId} {cs : Array Value} (h : Dr B w w') (hb : Blk w g t cs) (hne : g ≠ B) : Blk w' g t cs := (h.block hb.lt hne).trans hb
theorem Dr.rd {B : Nat} {w w' : World} (h : Dr B w w') {t : Ty} {cs : List Value} {x : t.D} (hr : t.rd (hide B w) cs x) : t.rd (hide B w') cs x :=
 Ty.rd_below (by rw [hide_size]; exact h) hr
theorem Dr.ow {B : Nat} {w w' : World} (h : Dr B w w') {t : Ty} {cs : List Value} {x : t.D} {fp : List Nat} (hr : t.ow w cs x fp) (hf : B ∉ fp) : t.ow w' cs x fp :=
 Ty.ow_keep (fun b hb => Dr.block h (Ty.ow_lt hr b hb) (fun e => by subst e; exact hf hb)) hr
theorem ow_hide {B : Nat} {w : World} {t : Ty} {cs : List Value} {x : t.D} {fp : List Nat} (hr : t.ow w cs x fp) (hf : B ∉ fp) : t.ow (hide B w) cs x fp :=
 Ty.ow_keep (fun b hb => hide_other (fun e => by subst e; exact hf hb) w) hr
theorem ow_hideF {B lo hi : Nat} {w : World} {t : Ty} {cs : List Value} {x : t.D} {fp : List Nat} (hr : t.ow w cs x fp) (hf : FrI lo hi fp) (hB : B < lo) : t.ow (hide B w) cs x fp :=
 ow_hide hr (fun e => by have := (hf.2 _ e).1; omega)
def Cur (tc : TypeId) (w : World) (B : Nat) : Prop :=
 ∃ w0 A c i h, ∃ b : List UInt8, w0.heap.size ≤ B ∧ Below w0.heap.size w0 w ∧ (Ty.sl .byte).rd w0 [.slice A b.length c] b ∧
  Blk w B tc #[.slice A b.length c, .int .i64 i, .int .i64 h] ∧ (0 ≤ i ∧ i ≤ b.length)
section
variable {tc : TypeId} {w w' : World} {B : Nat}
theorem Cur.lt (h : Cur tc w B) : B < w.heap.size := by
 obtain ⟨w0, A, c, i, h, b, _, _, _, hb, _⟩ := h
 exact hb.lt
theorem Cur.keep (h : Cur tc w B) (hb : w'.heap[B]? = w.heap[B]?) (hd : Below B w w') : Cur tc w' B := by
 obtain ⟨w0, A, c, i, h, b, h0, h1, h2, hk, h3⟩ := h
 exact ⟨w0, A, c, i, h, b, h0, h1.trans (hd.mono h0), h2, hb.trans hk, h3⟩
theorem Cur.below (h : Cur tc w B) (hb : Below w.heap.size w w') : Cur tc w' B := h.keep (hb.block B h.lt) (hb.mono (Nat.le_of_lt h.lt))
theorem Cur.alloc (h : Cur tc w B) (o : Obj) : Cur tc (w.alloc o) B := h.below (bel_alloc (Below.refl _ _) o)
theorem Cur.drew (h : Cur tc w B) : Cur tc w.drew B := h.below (bel_drew (Below.refl _ _))
theorem cuz {t : TypeId} {b : Nat} {u V : World} (X : Cur t u b) (h : Cur t u b → Cur t V b := by first | exact id | exact Cur.drew) : Cur t V b := h X
theorem Cur.drewN (h : Cur tc w B) (n : Nat) : Cur tc (w.drewN n) B := h.below (bel_drewN (Below.refl _ _) n)
theorem Cur.far (h : Cur tc w B) {p : Addr} (hp : B < p.block) (u : Value) : Cur tc (w.setCell p u) B :=
 h.keep (Below.heap_setCell w p u B b_22) ((Below.refl B w).setCell b_22 u)
theorem Cur.grown {row : Option Nat} (h : Cur tc w B) (hg : w.grownBy w' row) (hr : ∀ g, row = some g → B < g) : Cur tc w' B :=
 h.keep (hg.block B h.lt (fun e => by have := hr B e.symm; omega)) (bel_grown (Below.refl _ _) (Nat.le_of_lt h.lt) hg (fun g e => Nat.le_of_lt (hr g e)))
end
def RetDr (tc : TypeId) (B : Nat) (w : World) (Q : Ending → World → Prop) (e : Ending) (w' : World) : Prop := Dr B w w' ∧ Cur tc w' B ∧ Q e w'
def DrI (lo hi : Int) (e : Ending) (w' : World) : Prop := ∃ x : Int, e = .returned (.int .i64 x) ∧ lo ≤ x ∧ x ≤ hi
theorem info_str : (Tryz.prog.info? 9).map (fun i => (i.zero, i.size, i.bytes)) = some (some (vS []), 1, 16) := by kernel_rfl
theorem i64_and255 (n : Int) : bits .and .i64 n 255 = n % 256 := by
 have h127 : (BitVec.ofInt 64 255).toNat = 2 ^ 8 - 1 := by decide
 have key : (BitVec.ofInt 64 n &&& BitVec.ofInt 64 255).toNat = (n % ((2 ^ 64 : Nat) : Int)).toNat % 2 ^ 8 := by
  rw [BitVec.toNat_and, BitVec.toNat_ofInt, h127, Nat.and_two_pow_sub_one_eq_mod]
 show IntKind.i64.wrap ((BitVec.ofInt 64 n &&& BitVec.ofInt 64 255).toNat : Nat) = n % 256
 rw [key, IntKind.wrap_i64]
 omega
abbrev CurT (w : World) (B : Nat) : Prop := Cur 74 w B
abbrev RetDT (B : Nat) (w : World) (Q : Ending → World → Prop) (e : Ending) (w' : World) : Prop := RetDr 74 B w Q e w'
abbrev pB (B : Nat) : Value := .pointer (some ⟨B, 0, none⟩)
set_option maxHeartbeats 1000000 in
theorem C_spec_l1New (w : World) (v : Value) (b : List UInt8) (h : (Ty.sl .byte).rd w [v] b) :
  Calls Tryz.prog 26 #[v] w (fun e w' => e = .returned (pB w.heap.size) ∧ Below w.heap.size w w' ∧ CurT w' w.heap.size) := by
 obtain ⟨A, c, rfl, hc, hm, hn⟩ := Ty.rd_sl h
 go_enter Tryz.func26, Tryz.ntmps26
 go_wp2
 go_loopw [3, 4] (fun hh i wr => ∃ (k : Nat) (x : Int), k ≤ b.length ∧ i = .int .i64 k ∧ hh = .int .i64 x ∧ wr = w) (fun _ i _ => b.length - (intOf i).toNat)
 case atStart => exact ⟨0, _, by omega, by first | rfl | simp, rfl, rfl⟩
 case round =>
  obtain ⟨k, x, hk, rfl, rfl, hw⟩ := hrel
  obtain rfl : w = wr := hw.symm
  by_cases hlt : k < b.length
  ·obtain ⟨bb, o, ds, rfl, hl, hcell, hrd⟩ := Ty.rd_at h hlt
   have hrd : ds = [.int .u8 (b[k].toNat : Int)] := hrd
   subst hrd
   have e0 : w.cell? ⟨bb, o + k, none⟩ = some (.int .u8 (b[k].toNat : Int)) := by simpa [Ty.sz] using hcell 0 b_21
   clear hcell hl
   by_cases h4 : (k : Int) < 4000
   ·go_wp2
    go_roundw
    case rel => exact ⟨k + 1, _, by omega, by go_num, rfl, by first | rfl | trivial⟩
    case measure => simp [intOf]; omega
   ·go_wp2
    go_ret
    exact ⟨rfl, b_2, w, _, _, _, _, b, Nat.le_refl _, b_2, h, Blk.new w _ _, ⟨by omega, by omega⟩⟩
  ·go_wp2
   go_ret
   exact ⟨rfl, b_2, w, _, _, _, _, b, Nat.le_refl _, b_2, h, Blk.new w _ _, ⟨by omega, by omega⟩⟩
set_option maxHeartbeats 2000000 in
theorem C_spec_l1Byte (w : World) (B : Nat) (hc : CurT w B) :
  Calls Tryz.prog 78 #[pB B] w (RetDT B w (DrI 0 255)) := by
 have hB := hc.lt
 obtain ⟨w0, A, c, i, hh, b, hb0, hb1, hrd, hk, hi0, hi1⟩ := hc
 obtain ⟨_, _, _, _, _, hbn⟩ := Ty.rd_sl hrd
 obtain ⟨k, rfl⟩ : ∃ k : Nat, i = k := ⟨i.toNat, by omega⟩
 have k0 : w.cell? ⟨B, 0, none⟩ = some (.slice A b.length c) := hk.cell 0
 have k1 : w.cell? ⟨B, 1, none⟩ = some (.int .i64 k) := hk.cell 1
 have k2 : w.cell? ⟨B, 2, none⟩ = some (.int .i64 hh) := hk.cell 2
 have f0 : w.frozen? ⟨B, 0, none⟩ = false := hk.frozen 0
 have f1 : w.frozen? ⟨B, 1, none⟩ = false := hk.frozen 1
 have f2 : w.frozen? ⟨B, 2, none⟩ = false := hk.frozen 2
 by_cases hlt : k < b.length
 ·obtain ⟨bb, o, ds, rfl, hl, hcell, hrd1⟩ := Ty.rd_at hrd hlt
  have hrd1 : ds = [.int .u8 (b[k].toNat : Int)] := hrd1
  subst hrd1
  have e0 : w0.cell? ⟨bb, o + k, none⟩ = some (.int .u8 (b[k].toNat : Int)) := by simpa [Ty.sz] using hcell 0 b_21
  have hbb : bb < w0.heap.size := World.block_lt_of_cell? _ _ e0
  have e1 : w.cell? ⟨bb, o + k, none⟩ = some (.int .u8 (b[k].toNat : Int)) := (hb1.cell (p := ⟨bb, o + k, none⟩) hbb).trans e0
  have hne : bb ≠ B := by omega
  clear hcell hl
  go_enter Tryz.func78, Tryz.ntmps78
  go_wp2
  go_quiet (fail)
  go_wp2
  go_quiet (fail)
  go_wp2
  go_quiet (fail)
  go_wp2
  go_ret
  refine ⟨b_1, ?_, _, rfl, by rw [i64_and255]; omega, by rw [i64_and255]; omega⟩
  refine ⟨w0, some ⟨bb, o, none⟩, c, ((k + 1 : Nat) : Int), wrap64 (wrap64 (hh * 6364136223846793005) + 1442695040888963407), b, hb0, (by repeat' (first | (with_reducible assumption) | (with_reducible refine Below.setCell ?_ b_18 _) | (with_reducible refine bel_drewN ?_ _) | (with_reducible refine bel_drew ?_))), hrd, ?_, ⟨by omega, by omega⟩⟩
  exact (hk.set_ 2 (.int .i64 (wrap64 (wrap64 (hh * 6364136223846793005) + 1442695040888963407)))).set_ 1 (.int .i64 ((k + 1 : Nat) : Int))
 ·go_enter Tryz.func78, Tryz.ntmps78
  go_wp2
  go_quiet (fail)
  go_wp2
  go_quiet (fail)
  go_wp2
  go_ret
  refine ⟨b_1, ?_, _, rfl, by rw [i64_and255]; omega, by rw [i64_and255]; omega⟩
  refine ⟨w0, A, c, (k : Int), wrap64 (wrap64 (hh * 6364136223846793005) + 1442695040888963407), b, hb0, (by repeat' (first | (with_reducible assumption) | (with_reducible refine Below.setCell ?_ b_18 _) | (with_reducible refine bel_drewN ?_ _) | (with_reducible refine bel_drew ?_))), hrd, ?_, ⟨by omega, by omega⟩⟩
  exact hk.set_ 2 (.int .i64 (wrap64 (wrap64 (hh * 6364136223846793005) + 1442695040888963407)))
theorem rem_bd (x n : Int) (h : 1 ≤ n) (hx : 0 ≤ x) : 0 ≤ x % n ∧ x % n ≤ n - 1 := by
 exact ⟨Int.emod_nonneg _ b_22, by have := Int.emod_lt_of_pos x (show (0 : Int) < n by omega); omega⟩
set_option maxHeartbeats 1000000 in
theorem C_spec_l1Below (w : World) (B : Nat) (n : Int) (hc : CurT w B) (h1 : 1 ≤ n) (h2 : n ≤ 1000000000) :
  Calls Tryz.prog 58 #[pB B, .int .i64 n] w (RetDT B w (DrI 0 (n - 1))) := by
 have q0 : decide (n ≤ 0) = false := by simp; omega
 have qn : (n == 0) = false := by rw [beq_eq_false_iff_ne]; omega
 by_cases hle : n ≤ 256
 ·go_enter Tryz.func58, Tryz.ntmps58
  go_wp2_with fail
  refine (C_spec_l1Byte _ B hc).mono ?_
  rintro e w1 ⟨hd1, hc1, x, rfl, hx0, hx1⟩
  have hr := rem_bd x n h1 hx0
  go_wp2
  go_ret
  exact ⟨hd1, hc1, _, rfl, hr.1, hr.2⟩
 ·go_enter Tryz.func58, Tryz.ntmps58
  go_wp2_with fail
  refine (C_spec_l1Byte _ B hc).mono ?_
  rintro e w1 ⟨hd1, hc1, x, rfl, hx0, hx1⟩
  go_wp2_with fail
  refine (C_spec_l1Byte _ B hc1).mono ?_
  rintro e w2 ⟨hd2, hc2, y, rfl, hy0, hy1⟩
  go_wp2_with fail
  refine (C_spec_l1Byte _ B hc2).mono ?_
  rintro e w3 ⟨hd3, hc3, z, rfl, hz0, hz1⟩
  have hr := rem_bd (x * 65536 + y * 256 + z) n h1 b_22
  go_wp2
  go_ret
  exact ⟨(hd1.trans hd2).trans hd3, hc3, _, rfl, hr.1, hr.2⟩
set_option maxHeartbeats 1000000 in
theorem C_spec_l1Once (w : World) (B : Nat) (n : Int) (hc : CurT w B) (h1 : 1 ≤ n) (h2 : n ≤ 1000000000) :
  Calls Tryz.prog 30 #[pB B, .int .i64 n] w (RetDT B w (fun e _ => ∃ b : Bool, e = .returned (.bool b))) := by
 go_enter Tryz.func30, Tryz.ntmps30
 go_wp2_with fail
 refine (C_spec_l1Below _ B n hc h1 h2).mono ?_
 rintro e w1 ⟨hd1, hc1, x, rfl, hx0, hx1⟩
 go_wp2
 go_ret
 exact ⟨hd1, hc1, _, rfl⟩
set_option maxHeartbeats 1000000 in
theorem C_spec_l1Str (w : World) (B : Nat) (v : Value) (l : List (List UInt8)) (hc : CurT w B) (h : (Ty.sl .str).rd (hide B w) [v] l) (h1 : 1 ≤ l.length) (h2 : l.length ≤ 256) :
  Calls Tryz.prog 31 #[pB B, v] w (RetDT B w (fun e _ => ∃ s ∈ l, e = .returned (vS s))) := by
 obtain ⟨A, c, rfl, hcl, hcm, hn⟩ := Ty.rd_sl h
 go_enter Tryz.func31, Tryz.ntmps31
 go_wp2_with fail
 refine (C_spec_l1Below _ B l.length hc b_22 b_22).mono ?_
 rintro e w1 ⟨hd1, hc1, x, rfl, hx0, hx1⟩
 obtain ⟨k, rfl⟩ : ∃ k : Nat, x = k := ⟨x.toNat, by omega⟩
 have hk : k < l.length := by omega
 obtain ⟨b, o, ds, rfl, hl, hcell, hrd⟩ := Ty.rd_at (rd_hide (Dr.rd hd1 h)) hk
 obtain ⟨rfl, hsl⟩ := hrd
 have e0 : w1.cell? ⟨b, o + k, none⟩ = some (vS l[k]) := by simpa [Ty.sz] using hcell 0 b_21
 clear hcell hl
 go_wp2
 go_ret
 exact ⟨hd1, hc1, _, List.getElem_mem hk, rfl⟩
def okByte (c : UInt8) : Bool := (decide (97 ≤ c.toNat) && decide (c.toNat ≤ 122)) || (decide (48 ≤ c.toNat) && decide (c.toNat ≤ 57)) || decide (c.toNat = 45)
def validPart (s : List UInt8) : Bool := s.all okByte && (decide (1 ≤ s.length) && decide (s.length ≤ 8))
def isVar : List UInt8 → Bool
 | [a, c] => decide (a = 63) && (decide (97 ≤ c.toNat) && decide (c.toNat ≤ 122))
 | _ => false
def validName (n : List (List UInt8)) : Bool := n.all validPart && decide (n.length ≤ 6)
def patPart (n i : Nat) (s : List UInt8) : Bool := validPart s || decide (s = [42]) || isVar s || (decide (s = [42, 42]) && decide (i + 1 = n))
def validPat (p : List (List UInt8)) : Bool := (List.range p.length).all (fun i => patPart p.length i (p.getD i [])) && decide (p.length ≤ 6)
def validRule (r : List (List UInt8) × List (List UInt8)) : Bool := validPat r.1 && validPat r.2 && r.2.all (fun s => !isVar s || r.1.contains s)
def validRules (l : List (List (List UInt8) × List (List UInt8))) : Bool := l.all validRule && decide (l.length ≤ 8)
theorem all_take_succ {α : Type} (p : α → Bool) (l : List α) {k : Nat} (h : k < l.length) : (l.take (k + 1)).all p = ((l.take k).all p && p l[k]) := by
 rw [List.take_succ_eq_append_getElem h, List.all_append]; simp
theorem all_false_of {α : Type} (p : α → Bool) (l : List α) {k : Nat} (h : k < l.length) (hp : p l[k] = false) : l.all p = false := by
 rw [List.all_eq_false]; exact ⟨l[k], List.getElem_mem h, by simp [hp]⟩
theorem any_take_succ {α : Type} (p : α → Bool) (l : List α) {k : Nat} (h : k < l.length) : (l.take (k + 1)).any p = ((l.take k).any p || p l[k]) := by
 rw [List.take_succ_eq_append_getElem h, List.any_append]; simp
abbrev tData : Ty := (.pr (.sl .str) (.pr (.sl .byte) (.pr (.sl .str) (.pr .int .int))))
abbrev tRule : Ty := (.pr (.sl .str) (.sl .str))
theorem rd_Rule {w : World} {cs : List Value} {x : tRule.D} (h : tRule.rd w cs x) : ∃ (A0 : Option Addr) (c0 : Nat) (A1 : Option Addr) (c1 : Nat), cs = [.slice A0 (List.length x.1) c0, .slice A1 (List.length x.2) c1] ∧ (Ty.rd w (.sl .str) [.slice A0 (List.length x.1) c0] x.1) ∧ (Ty.rd w (.sl .str) [.slice A1 (List.length x.2) c1] x.2) := by
 obtain ⟨c0, r0, rfl, g0, q0⟩ := h
 have g1 := q0
 obtain ⟨A0, c0, rfl⟩ := Ty.rd_slv g0
 obtain ⟨A1, c1, rfl⟩ := Ty.rd_slv g1
 exact ⟨A0, c0, A1, c1, rfl, g0, g1⟩
theorem info_Rule : (Tryz.prog.info? 28).map (fun i => (i.zero, i.size, i.bytes)) = some (some (.agg #[.slice none 0 0, .slice none 0 0]), 2, 48) := by kernel_rfl
theorem bulk_app {e : Ty} (x y : List e.D) : Ty.bulk (.sl e) (x ++ y) = Ty.bulk (.sl e) x + Ty.bulk (.sl e) y := by
 show (x ++ y).length + ((x ++ y).map (fun d => e.bulk d)).sum = (x.length + (x.map (fun d => e.bulk d)).sum) + (y.length + (y.map (fun d => e.bulk d)).sum)
 rw [List.length_append, List.map_append, List.sum_append]; omega
theorem bulk_one {e : Ty} (d : e.D) : Ty.bulk (.sl e) [d] = e.bulk d + 1 := by
 show 1 + ([d].map (fun d => e.bulk d)).sum = _
 simp; omega
def spl (c : UInt8) : List UInt8 → List (List UInt8)
 | [] => [[]]
 | b :: l => if b = c then [] :: spl c l else match spl c l with
  | h :: t => (b :: h) :: t
  | [] => [[b]]
theorem spl_ne (c : UInt8) (l : List UInt8) : spl c l ≠ [] := by
  cases l with
  | nil => simp [spl]
  | cons b l => unfold spl; split; · simp
                split <;> simp
theorem spl_pos (c : UInt8) (s : List UInt8) : 0 < (spl c s).length := List.length_pos_iff.2 (spl_ne c s)
theorem spl_notin {c : UInt8} : ∀ {a : List UInt8}, c ∉ a → spl c a = [a]
 | [], _ => rfl
 | b :: a, h => by
  have h1 : b ≠ c := fun e => h (by simp [e])
  have h2 : c ∉ a := fun e => h (by simp [e])
  unfold spl; rw [if_neg h1, spl_notin h2]
theorem spl_app {c : UInt8} (r : List UInt8) : ∀ {a : List UInt8}, c ∉ a → spl c (a ++ c :: r) = a :: spl c r
 | [], _ => by show spl c (c :: r) = _; rw [spl]; simp
 | b :: a, h => by
  have h1 : b ≠ c := fun e => h (by simp [e])
  have h2 : c ∉ a := fun e => h (by simp [e])
  show spl c (b :: (a ++ c :: r)) = _
  rw [spl, if_neg h1, spl_app r h2]
theorem spl_parts (c : UInt8) : ∀ (l : List UInt8), ∀ a ∈ spl c l, c ∉ a
 | [], a, h => by simp [spl] at h; subst h; simp
 | b :: l, a, h => by
  unfold spl at h
  split at h
  ·rcases List.mem_cons.1 h with rfl | h
   ·simp
   ·exact spl_parts c l a h
  ·rename_i hb
   have ih := spl_parts c l
   split at h
   ·rename_i x t hx
    rw [hx] at ih
    rcases List.mem_cons.1 h with rfl | h
    ·intro hc
     rcases List.mem_cons.1 hc with rfl | hc
     ·exact hb rfl
     ·exact ih x b_23 hc
    ·exact ih a (by simp [h])
   ·rename_i hx; exact absurd hx (spl_ne c l)
theorem spl_join (c : UInt8) : ∀ l : List UInt8, ((spl c l).map (fun s => c :: s)).flatten = c :: l
 | [] => by simp [spl]
 | b :: l => by
  have ih := spl_join c l
  unfold spl
  split
  ·rename_i hb; subst hb; simp [ih]
  ·split
   ·rename_i x t hx
    rw [hx] at ih
    simp only [List.map_cons, List.flatten_cons, List.cons_append, List.cons.injEq, true_and] at ih ⊢
    rw [ih]
   ·rename_i hx; exact absurd hx (spl_ne c l)
theorem spl_head (c b : UInt8) (l : List UInt8) (h : b ≠ c) : ∃ x t, spl c (b :: l) = (b :: x) :: t := by
 unfold spl
 rw [if_neg h]
 split
 ·exact ⟨_, _, rfl⟩
 ·exact ⟨[], [], rfl⟩
theorem spl_self (c : UInt8) (l : List UInt8) : spl c (c :: l) = [] :: spl c l := by rw [spl]; simp
theorem validPat_part {p : List (List UInt8)} (h : validPat p = true) : p.length ≤ 6 ∧ ∀ s ∈ p, s.length ≤ 8 ∧ (32 : UInt8) ∉ s := by
 unfold validPat at h
 simp only [Bool.and_eq_true, List.all_eq_true, List.mem_range, decide_eq_true_eq] at h
 refine ⟨h.2, fun s hs => ?_⟩
 obtain ⟨k, hk, rfl⟩ := List.getElem_of_mem hs
 have h2 := h.1 k hk
 rw [show p.getD k [] = p[k] by simp [List.getD, hk]] at h2
 generalize p[k] = s at h2
 unfold patPart at h2
 simp only [Bool.or_eq_true, Bool.and_eq_true, decide_eq_true_eq] at h2
 rcases h2 with ((h2 | h2) | h2) | h2
 ·unfold validPart at h2
  simp only [Bool.and_eq_true, decide_eq_true_eq, List.all_eq_true] at h2
  exact ⟨h2.2.2, fun hm => absurd (h2.1 32 hm) b_21⟩
 ·subst h2; decide
 ·unfold isVar at h2
  split at h2
  ·rename_i a c
   simp only [Bool.and_eq_true, decide_eq_true_eq] at h2
   refine ⟨by simp, fun hm => ?_⟩
   simp only [List.mem_cons, List.not_mem_nil, or_false] at hm
   rcases hm with e | e
   ·rw [h2.1] at e; exact absurd e b_21
   ·subst e; exact absurd h2.2.1 b_21
  ·cases h2
 ·rw [h2.1]; decide
theorem validPat_bulk {p : List (List UInt8)} (h : validPat p = true) : Ty.bulk (.sl .str) p ≤ 60 := by
 obtain ⟨h1, h2⟩ := validPat_part h
 have : ∀ q : List (List UInt8), (∀ s ∈ q, s.length ≤ 8 ∧ (32 : UInt8) ∉ s) → Ty.bulk (.sl .str) q ≤ 9 * q.length := by
  intro q
  induction q with
  | nil => intro _; exact Nat.le_refl _
  | cons a q ih =>
   intro hq
   have e : Ty.bulk (.sl .str) (a :: q) = Ty.bulk (.sl .str) [a] + Ty.bulk (.sl .str) q := bulk_app (e := .str) [a] q
   have e2 : Ty.bulk (.sl .str) [a] = Ty.bulk .str a + 1 := bulk_one (e := .str) a
   have e3 : Ty.bulk .str a = a.length := rfl
   have := (hq a b_23).1
   have := ih (fun s hs => hq s (by simp [hs]))
   rw [e, e2, e3, List.length_cons]; omega
 have := this p h2
 omega
def ppS (s : List UInt8) : List (List UInt8) × Bool :=
 if s = [47] then ([], true) else if decide (2 ≤ (spl 47 s).length) && decide ((spl 47 s).head? = some []) && validPat (spl 47 s).tail then ((spl 47 s).tail, true) else ([], false)
theorem ppS_ok {s : List UInt8} : validPat (ppS s).1 = true := by
 unfold ppS
 split
 ·rfl
 ·split
  ·rename_i h
   simp only [Bool.and_eq_true] at h
   exact h.2
  ·rfl
theorem ppS_bulk (s : List UInt8) : Ty.bulk (.sl .str) (ppS s).1 ≤ 60 := validPat_bulk ppS_ok
def ruleOf (a b : List (List UInt8) × Bool) : tRule.D := (a.1, b.1)
def prS (s : List UInt8) : tRule.D × Bool :=
 if (spl 32 s).length = 3 ∧ (spl 32 s)[1]? = some [60] then
  (if (ppS ((spl 32 s).getD 0 [])).2 && (ppS ((spl 32 s).getD 2 [])).2 && validRule (ruleOf (ppS ((spl 32 s).getD 0 [])) (ppS ((spl 32 s).getD 2 []))) then (ruleOf (ppS ((spl 32 s).getD 0 [])) (ppS ((spl 32 s).getD 2 [])), true) else (([], []), false))
 else (([], []), false)
def pnS (s : List UInt8) : List (List UInt8) × Bool :=
 if s = [47] then ([], true) else if decide (2 ≤ (spl 47 s).length) && decide ((spl 47 s).head? = some []) && validName (spl 47 s).tail then ((spl 47 s).tail, true) else ([], false)
theorem pnS_one {s : List UInt8} (h : s = [47]) : pnS s = ([], true) := by unfold pnS; rw [if_pos h]
theorem pnS_no {s : List UInt8} (h : ¬ s = [47]) (h2 : (decide (2 ≤ (spl 47 s).length) && decide ((spl 47 s).head? = some []) && validName (spl 47 s).tail) = false) : pnS s = ([], false) := by unfold pnS; rw [if_neg h, h2]; rfl
theorem pnS_yes {s : List UInt8} (h : ¬ s = [47]) (h2 : (decide (2 ≤ (spl 47 s).length) && decide ((spl 47 s).head? = some []) && validName (spl 47 s).tail) = true) : pnS s = ((spl 47 s).tail, true) := by unfold pnS; rw [if_neg h, if_pos h2]
def splAt (c : UInt8) (s : List UInt8) (k f : Nat) (acc : List (List UInt8)) : Prop :=
 (k ≤ s.length ∧ f ≤ k ∧ acc.length ≤ k ∧ acc ++ spl c (s.drop f) = spl c s ∧ c ∉ (s.drop f).take (k - f)) ∨ (k = s.length + 1 ∧ f ≤ k ∧ acc.length ≤ k ∧ acc = spl c s)
theorem splAt_start (c : UInt8) (s : List UInt8) : splAt c s 0 0 [] := .inl ⟨by omega, by omega, by simp, by simp, by simp⟩
theorem splAt_no {c : UInt8} {s : List UInt8} {k f : Nat} {acc : List (List UInt8)} (h : splAt c s k f acc) (hk : k < s.length) (hc : ¬ s[k] = c) : splAt c s (k + 1) f acc := by
 rcases h with ⟨h1, h2, h3, h4, h5⟩ | ⟨h1, _⟩
 ·refine .inl ⟨by omega, by omega, by omega, h4, ?_⟩
  have hd : k - f < (s.drop f).length := by rw [List.length_drop]; omega
  rw [show k + 1 - f = (k - f) + 1 from by omega, List.take_succ_eq_append_getElem hd]
  intro hm
  rcases List.mem_append.1 hm with hm | hm
  ·exact h5 hm
  ·have : (s.drop f)[k - f] = s[k] := by rw [List.getElem_drop]; congr 1; omega
   rw [this] at hm
   exact hc (by simpa using (List.mem_singleton.1 hm).symm)
 ·omega
theorem splAt_yes {c : UInt8} {s : List UInt8} {k f : Nat} {acc : List (List UInt8)} (h : splAt c s k f acc) (hk : k < s.length) (hc : s[k] = c) : splAt c s (k + 1) (k + 1) (acc ++ [(s.drop f).take (k - f)]) := by
 rcases h with ⟨h1, h2, h3, h4, h5⟩ | ⟨h1, _⟩
 ·refine .inl ⟨by omega, by omega, by simp; omega, ?_, by simp⟩
  have hd : k - f < (s.drop f).length := by rw [List.length_drop]; omega
  have e : s.drop f = (s.drop f).take (k - f) ++ c :: s.drop (k + 1) := by
   conv => lhs; rw [← List.take_append_drop (k - f) (s.drop f)]
   congr 1
   rw [List.drop_eq_getElem_cons hd, List.drop_drop, List.getElem_drop]
   congr 1
   ·rw [← hc]; congr 1; omega
   ·congr 1; omega
  rw [e, spl_app _ h5] at h4
  rw [← h4, List.append_assoc]; rfl
 ·omega
theorem splAt_end {c : UInt8} {s : List UInt8} {f : Nat} {acc : List (List UInt8)} (h : splAt c s s.length f acc) : splAt c s (s.length + 1) (s.length + 1) (acc ++ [(s.drop f).take (s.length - f)]) := by
 rcases h with ⟨h1, h2, h3, h4, h5⟩ | ⟨h1, _⟩
 ·refine .inr ⟨rfl, by omega, by simp; omega, ?_⟩
  rw [List.take_of_length_le (by rw [List.length_drop]; omega)] at h5 ⊢
  rw [← h4, spl_notin h5]
 ·omega
theorem splAt_bd {c : UInt8} {s : List UInt8} {k f : Nat} {acc : List (List UInt8)} (h : splAt c s k f acc) : k ≤ s.length + 1 ∧ f ≤ k ∧ acc.length ≤ k := by
 rcases h with ⟨h1, h2, h3, _⟩ | ⟨h1, h2, h3, _⟩
 ·exact ⟨by omega, h2, h3⟩
 ·exact ⟨by omega, h2, h3⟩
theorem splAt_done {c : UInt8} {s : List UInt8} {k f : Nat} {acc : List (List UInt8)} (h : splAt c s k f acc) (hk : ¬ k ≤ s.length) : acc = spl c s := by
 rcases h with ⟨h1, _⟩ | ⟨_, _, _, h1⟩
 ·omega
 ·exact h1
theorem run_sub (P : Program) (t : TypeId) (ht : P.underlying t = some .string) (s : List UInt8) (a b : Nat) (h : a ≤ b) (hb : b ≤ s.length) (W : World) :
  (Instr.slice t (.string ⟨s.toArray⟩) (some (.int .i64 a)) (some (.int .i64 b)) none).run P W = .ok (vS ((s.drop a).take (b - a))) W := by
 have := run_slice_string (P := P) W t ⟨s.toArray⟩ .i64 .i64 a b ht b_22 b_22 (by show (b : Int) ≤ (s.toArray.size : Int); simp; omega)
 rw [this]
 show Result.ok (Value.string ((ByteArray.mk s.toArray).extract a b)) W = _
 rw [ByteArray.extract_mk]
set_option maxHeartbeats 4000000 in
theorem C_spec_l4Split (w : World) (s : List UInt8) (c : UInt8) (hs : s.length ≤ 1000000000) :
  Calls Tryz.prog 34 #[vS s, .int .u8 (c.toNat : Int)] w (RetRow flatS w 9 (spl c s)) := by
 go_enter Tryz.func34, Tryz.ntmps34
 go_wp2
 go_loopw [5, 6, 7] (fun vv fr i wr => ∃ (k f : Nat) (acc : List (List UInt8)), i = .int .i64 k ∧ fr = .int .i64 f ∧ Row flatS wr w.heap.size 9 vv acc ∧ Hid (splAt c s k f acc) ∧ Below w.heap.size w wr) (fun _ _ i _ => s.length + 1 - (intOf i).toNat)
 case atStart => exact ⟨0, 0, [], by first | rfl | simp, by first | rfl | simp, Row.lit0 flatS w _ (Nat.le_refl _), Lib.hid (splAt_start c s), b_2⟩
 case round =>
  obtain ⟨k, f, acc, rfl, rfl, hr, hA, hb⟩ := hrel
  have HRow := Lib.hid hr
  obtain ⟨h1, h2, h3⟩ := splAt_bd hA.out
  clear hr
  by_cases hle : k ≤ s.length
  ·have hap : ∀ (W : World), (Instr.slice 9 (.string ⟨s.toArray⟩) (some (.int .i64 f)) (some (.int .i64 k)) none).run Tryz.prog W = .ok (vS ((s.drop f).take (k - f))) W := fun W => run_sub _ _ Tryz.underlying9 s f k h2 hle W
   have HX : Hid (((s.drop f).take (k - f)).length ≤ 9223372036854775807) := by unfold Hid; rw [List.length_take, List.length_drop]; omega
   generalize hxx : (s.drop f).take (k - f) = x at hap HX
   have HLX := Lib.hid (Row.lit1 flatS wr 9 x HX.out (Nat.le_refl _))
   by_cases hlt : k < s.length
   ·have HY := Lib.hid (fun hc : s[k] = c => splAt_yes hA.out hlt hc)
    rw [hxx] at HY
    have HN := Lib.hid (fun hc : ¬ s[k] = c => splAt_no hA.out hlt hc)
    have HC : Hid (∀ b : Bool, ((({ data := s.toArray } : ByteArray)[k]'(by show k < s.toArray.size; simpa using hlt)).toNat == (c.toNat : Int)) = b → (b = true → s[k] = c) ∧ (b = false → ¬ s[k] = c)) := by
     intro b hb
     have hb' : ((s[k].toNat : Int) == (c.toNat : Int)) = b := hb
     refine ⟨fun e => ?_, fun e => ?_⟩
     ·subst e; exact UInt8.toNat_inj.1 (by have := beq_iff_eq.1 hb'; omega)
     ·subst e; intro e2; rw [e2] at hb'; simp at hb'
    have hL : (k : Int) ≠ s.length := by omega
    clear hxx
    set_option maxRecDepth 100000 in go_wp2_with (at_builtin; go_loud (refine wpList_append_row rfl _ _ 24 rfl flatS w.heap.size 9 info_str rfl Tryz.underlying24 _ _ acc [x] rfl rfl (HRow.out.below b_2) (HLX.out.rd b_16) ?_ ?_ ?_ ?_))
    case refine_1 => rw [List.length_singleton]; omega
    case refine_2 => rw [List.length_singleton]; unfold maxLen; omega
    case refine_3 => simp only [World.size_alloc]; have := hb.size; omega
    ·rename_i hh _ hK
     have HY2 := Lib.hid (HY.out ((HC.out _ (hh.resolve_left (by simp; omega))).1 rfl))
     intro v' w' hr' hg'
     have hb' : Below w.heap.size w w' := bel_grown (bel_alloc hb _) (by simp only [World.size_alloc]; have := hb.size; omega) hg' (fun g hg => (HRow.out.block g hg).1)
     have HR' := Lib.hid hr'
     clear hr'
     go_wp2
     go_roundw
     case rel => exact ⟨k + 1, k + 1, acc ++ [x], by go_num, by first | rfl | go_num, HR'.out, Lib.hid HY2.out, hb'⟩
     case measure => simp [intOf] <;> omega
    ·rename_i hh
     have HN2 := Lib.hid (HN.out ((HC.out _ hh.2).2 rfl))
     refine ⟨⟨k + 1, f, acc, by go_num, rfl, HRow.out, Lib.hid HN2.out, hb⟩, ?_⟩
     simp [intOf] <;> omega
   ·obtain rfl : k = s.length := by omega
    have HN := Lib.hid (splAt_end hA.out)
    rw [hxx] at HN
    clear hxx
    set_option maxRecDepth 100000 in go_wp2_with (at_builtin; go_loud (refine wpList_append_row rfl _ _ 24 rfl flatS w.heap.size 9 info_str rfl Tryz.underlying24 _ _ acc [x] rfl rfl (HRow.out.below b_2) (HLX.out.rd b_16) ?_ ?_ ?_ ?_))
    case refine_1 => rw [List.length_singleton]; omega
    case refine_2 => rw [List.length_singleton]; unfold maxLen; omega
    case refine_3 => simp only [World.size_alloc]; have := hb.size; omega
    intro v' w' hr' hg'
    have hb' : Below w.heap.size w w' := bel_grown (bel_alloc hb _) (by simp only [World.size_alloc]; have := hb.size; omega) hg' (fun g hg => (HRow.out.block g hg).1)
    have HR' := Lib.hid hr'
    clear hr'
    go_wp2
    go_roundw
    case rel => exact ⟨s.length + 1, s.length + 1, acc ++ [x], by go_num, by first | rfl | go_num, HR'.out, Lib.hid HN.out, hb'⟩
    case measure => simp [intOf] <;> omega
  ·have HE := Lib.hid (splAt_done hA.out hle)
   go_wp2
   go_ret
   obtain rfl := HE.out
   exact ⟨_, rfl, HRow.out, hb⟩
end Go.Proofs.YtidnahocnhcoiaaGreatDoor
