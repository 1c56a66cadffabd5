/- Marks: what the statements write into memory to see whether it is shared. Plain part. -/
import Derived.Test.YtldgbnlcnlfmeaaBase
namespace Go.Proofs.Ytldgbnlcnlfmeaa
open Go.RowKit
set_option linter.unusedVariables false
set_option linter.unusedSimpArgs false

/-- Outside the blocks fp nothing that was there has turned. -/
structure Kept (fp : List Nat) (w w' : World) : Prop where
  os : w'.os = w.os
  tape : w'.tape = w.tape
  output : w'.output = w.output
  size : w.heap.size ≤ w'.heap.size
  block : ∀ k, k < w.heap.size → k ∉ fp → w'.heap[k]? = w.heap[k]?
theorem Kept.refl (fp : List Nat) (w : World) : Kept fp w w := ⟨rfl, rfl, rfl, Nat.le_refl _, fun _ _ _ => rfl⟩
theorem Kept.trans {fp : List Nat} {a b c : World} (h : Kept fp a b) (k : Kept fp b c) : Kept fp a c :=
  ⟨k.os.trans h.os, k.tape.trans h.tape, k.output.trans h.output, Nat.le_trans h.size k.size, fun i hi hn => (k.block i (Nat.lt_of_lt_of_le hi h.size) hn).trans (h.block i hi hn)⟩
theorem Kept.mono {fp gp : List Nat} {a b : World} (h : Kept fp a b) (hs : ∀ x ∈ fp, x ∈ gp) : Kept gp a b :=
  ⟨h.os, h.tape, h.output, h.size, fun i hi hn => h.block i hi (fun hm => hn (hs i hm))⟩
theorem Kept.of_below {fp : List Nat} {a b : World} (h : Below a.heap.size a b) : Kept fp a b := ⟨h.os, h.tape, h.output, h.size, fun i hi _ => h.block i hi⟩
theorem Kept.below {fp : List Nat} {a b : World} {B : Nat} (h : Kept fp a b) (hB : B ≤ a.heap.size) (hf : ∀ x ∈ fp, B ≤ x) : Below B a b :=
  ⟨h.os, h.tape, h.output, h.size, fun i hi => h.block i (by omega) (fun hm => by have := hf i hm; omega)⟩
theorem Kept.set {fp : List Nat} {a b : World} (h : Kept fp a b) {p : Addr} (hp : p.block ∈ fp) (u : Value) : Kept fp a (b.setCell p u) :=
  ⟨h.os, h.tape, h.output, by simpa [World.setCell] using h.size, fun i hi hn => (Below.heap_setCell _ _ _ _ (fun e => hn (by rw [e]; exact hp))).trans (h.block i hi hn)⟩
theorem Kept.drewN {fp : List Nat} {a b : World} (h : Kept fp a b) (n : Nat) : Kept fp a (b.drewN n) := ⟨h.os, h.tape, h.output, h.size, h.block⟩
theorem Kept.drew {fp : List Nat} {a b : World} (h : Kept fp a b) : Kept fp a b.drew := ⟨h.os, h.tape, h.output, h.size, h.block⟩
theorem Kept.step {fp : List Nat} {a b c : World} (h : Kept fp a b) (k : Below b.heap.size b c) : Kept fp a c := h.trans (Kept.of_below k)
/-- What is owned elsewhere stays. -/
theorem Ty.ow_kept {w w' : World} {fp gp : List Nat} (hk : Kept gp w w') {t : Ty} {cs : List Value} {x : t.D} (hl : ∀ b ∈ fp, b < w.heap.size) (hd : ∀ b ∈ fp, b ∉ gp) (h : t.ow w cs x fp) : t.ow w' cs x fp :=
  Ty.ow_keep (fun b hb => hk.block b (hl b hb) (hd b hb)) h

/-- The digits of a number, lowest last, ahead of what stands there. -/
def digLoop : Nat → Int → List UInt8 → List UInt8
  | 0, _, out => out
  | f + 1, k, out => if k ≤ 0 then out else digLoop f (k / 10) (UInt8.ofNat (48 + k % 10).toNat :: out)
def mkText (k : Int) : List UInt8 := if k ≤ 0 then [109, 48] else 109 :: digLoop 20 k []

def DigInv (f : Nat) (kk : Int) (out : List UInt8) (k : Int) : Prop := digLoop 20 k [] = digLoop f kk out ∧ kk < 10 ^ f
theorem DigInv.start {k : Int} (h : k ≤ 4611686018427387904) : DigInv 20 k [] k := ⟨rfl, by omega⟩
theorem DigInv.done {f : Nat} {kk : Int} {out : List UInt8} {k : Int} (h : DigInv f kk out k) (hk : kk ≤ 0) : digLoop 20 k [] = out := by
  rw [h.1]
  cases f with
  | zero => rfl
  | succ f => rw [digLoop, if_pos hk]
theorem DigInv.step {f : Nat} {kk : Int} {out : List UInt8} {k : Int} (h : DigInv f kk out k) (hk : 0 < kk) : ∃ g, f = g + 1 ∧ DigInv g (kk / 10) (UInt8.ofNat (48 + kk % 10).toNat :: out) k := by
  cases f with
  | zero => have := h.2; simp at this; omega
  | succ g =>
    refine ⟨g, rfl, by rw [h.1, digLoop, if_neg (by omega)], ?_⟩
    have := h.2
    rw [Int.pow_succ] at this
    omega

theorem digLoop_len : ∀ (f : Nat) (k : Int) (out : List UInt8), (digLoop f k out).length ≤ out.length + f
  | 0, _, _ => Nat.le_refl _
  | f + 1, k, out => by
    rw [digLoop]
    split
    · omega
    · have := digLoop_len f (k / 10) (UInt8.ofNat (48 + k % 10).toNat :: out)
      rw [List.length_cons] at this
      omega
theorem mkText_len (k : Int) : (mkText k).length ≤ 21 := by
  unfold mkText
  split
  · simp
  · have := digLoop_len 20 k []
    simp only [List.length_cons, List.length_nil] at *
    omega

def Ty.cnt : (t : Ty) → t.D → Nat
  | .int, _ => 1
  | .byte, _ => 1
  | .bool, _ => 0
  | .str, _ => 1
  | .sl e, x => (List.map (fun d => e.cnt d) x).sum
  | .pr a b, x => a.cnt x.1 + b.cnt x.2
def mkSl {α : Type} (f : α → Int → α) (c : α → Nat) : List α → Int → List α
  | [], _ => []
  | a :: l, k => f a k :: mkSl f c l (k + c a)
/-- Every number, byte and string in memory is written over by a mark. -/
def Ty.mk : (t : Ty) → t.D → Int → t.D
  | .int, _, k => k
  | .byte, _, k => UInt8.ofNat (k % 256).toNat
  | .bool, b, _ => b
  | .str, _, k => mkText k
  | .sl e, x, k => mkSl (fun d k => e.mk d k) (fun d => e.cnt d) x k
  | .pr a b, x, k => (a.mk x.1 k, b.mk x.2 (k + a.cnt x.1))
/-- The same of a value: only what lies behind its slices. -/
def Ty.cntv : (t : Ty) → t.D → Nat
  | .sl e, x => Ty.cnt (.sl e) x
  | .pr a b, x => a.cntv x.1 + b.cntv x.2
  | .int, _ => 0
  | .byte, _ => 0
  | .bool, _ => 0
  | .str, _ => 0
def Ty.mkv : (t : Ty) → t.D → Int → t.D
  | .sl e, x, k => Ty.mk (.sl e) x k
  | .pr a b, x, k => (a.mkv x.1 k, b.mkv x.2 (k + a.cntv x.1))
  | .int, x, _ => x
  | .byte, x, _ => x
  | .bool, x, _ => x
  | .str, x, _ => x

/-- Bounds on how many marks there are. -/
def Ty.k0 : Ty → Nat
  | .int => 1 | .byte => 1 | .bool => 0 | .str => 1
  | .sl _ => 0
  | .pr a b => a.k0 + b.k0
def Ty.wt : Ty → Nat
  | .sl e => e.k0 + e.wt
  | .pr a b => a.wt + b.wt
  | _ => 0
theorem Ty.cnt_le : ∀ (t : Ty) (x : t.D), t.cnt x ≤ t.k0 + t.wt * t.bulk x
  | .int, _ => Nat.le_refl _
  | .byte, _ => Nat.le_refl _
  | .bool, _ => Nat.le_refl _
  | .str, _ => by show 1 ≤ 1 + 0 * _; omega
  | .pr a b, x => by
    have h1 := Ty.cnt_le a x.1
    have h2 := Ty.cnt_le b x.2
    show a.cnt x.1 + b.cnt x.2 ≤ a.k0 + b.k0 + (a.wt + b.wt) * (a.bulk x.1 + b.bulk x.2)
    have e1 : a.wt * a.bulk x.1 ≤ (a.wt + b.wt) * a.bulk x.1 := Nat.mul_le_mul_right _ (by omega)
    have e2 : b.wt * b.bulk x.2 ≤ (a.wt + b.wt) * b.bulk x.2 := Nat.mul_le_mul_right _ (by omega)
    rw [Nat.mul_add]
    omega
  | .sl e, x => by
    show (List.map (fun d => e.cnt d) x).sum ≤ 0 + (e.k0 + e.wt) * (List.length x + (List.map (fun d => e.bulk d) x).sum)
    induction x with
    | nil => simp
    | cons a l ih =>
      have h1 := Ty.cnt_le e a
      rw [List.map_cons, List.sum_cons, List.map_cons, List.sum_cons, List.length_cons]
      have e1 : e.wt * e.bulk a ≤ (e.k0 + e.wt) * e.bulk a := Nat.mul_le_mul_right _ (by omega)
      have e2 : (e.k0 + e.wt) * (List.length l + 1 + (e.bulk a + (List.map (fun d => e.bulk d) l).sum)) = (e.k0 + e.wt) * (List.length l + (List.map (fun d => e.bulk d) l).sum) + ((e.k0 + e.wt) * e.bulk a + (e.k0 + e.wt)) := by
        rw [show List.length l + 1 + (e.bulk a + (List.map (fun d => e.bulk d) l).sum) = (List.length l + (List.map (fun d => e.bulk d) l).sum) + (e.bulk a + 1) by omega, Nat.mul_add, Nat.mul_add (e.k0 + e.wt) (e.bulk a) 1, Nat.mul_one]
      rw [e2]
      omega
theorem Ty.cntv_le : ∀ (t : Ty) (x : t.D), t.cntv x ≤ t.wt * t.bulk x
  | .int, _ => Nat.zero_le _
  | .byte, _ => Nat.zero_le _
  | .bool, _ => Nat.zero_le _
  | .str, _ => Nat.zero_le _
  | .sl e, x => by have := Ty.cnt_le (.sl e) x; show Ty.cnt (.sl e) x ≤ _; have h0 : (Ty.sl e).k0 = 0 := rfl; omega
  | .pr a b, x => by
    have h1 := Ty.cntv_le a x.1
    have h2 := Ty.cntv_le b x.2
    show a.cntv x.1 + b.cntv x.2 ≤ (a.wt + b.wt) * (a.bulk x.1 + b.bulk x.2)
    have e1 : a.wt * a.bulk x.1 ≤ (a.wt + b.wt) * a.bulk x.1 := Nat.mul_le_mul_right _ (by omega)
    have e2 : b.wt * b.bulk x.2 ≤ (a.wt + b.wt) * b.bulk x.2 := Nat.mul_le_mul_right _ (by omega)
    rw [Nat.mul_add]
    omega

theorem length_mkSl {α : Type} (f : α → Int → α) (c : α → Nat) : ∀ (l : List α) (k : Int), (mkSl f c l k).length = l.length
  | [], _ => rfl
  | a :: l, k => by rw [mkSl, List.length_cons, length_mkSl f c l, List.length_cons]
/-- The mark at which the j-th element begins. -/
def kAt {α : Type} (c : α → Nat) (l : List α) (j : Nat) : Nat := ((l.take j).map c).sum
theorem kAt_zero {α : Type} (c : α → Nat) (l : List α) : kAt c l 0 = 0 := rfl
theorem kAt_succ {α : Type} (c : α → Nat) (l : List α) {j : Nat} (h : j < l.length) : kAt c l (j + 1) = kAt c l j + c l[j] := sum_take_succ c l h
theorem kAt_all {α : Type} (c : α → Nat) (l : List α) : kAt c l l.length = (l.map c).sum := sum_take_all c l (Nat.le_refl _)
theorem kAt_le {α : Type} (c : α → Nat) (l : List α) (j : Nat) : kAt c l j ≤ (l.map c).sum := by
  induction l generalizing j with
  | nil => simp [kAt]
  | cons a l ih =>
    cases j with
    | zero => simp [kAt]
    | succ j =>
      have := ih j
      simp only [kAt, List.take_succ_cons, List.map_cons, List.sum_cons] at *
      omega
theorem mkSl_get {α : Type} (f : α → Int → α) (c : α → Nat) : ∀ (l : List α) (k : Int) (j : Nat) (h : j < l.length), (mkSl f c l k)[j]? = some (f l[j] (k + kAt c l j))
  | a :: l, k, 0, _ => by simp [mkSl, kAt]
  | a :: l, k, j + 1, h => by
    have hj : j < l.length := by simpa using h
    rw [mkSl, List.getElem?_cons_succ, mkSl_get f c l _ j hj]
    simp only [kAt, List.take_succ_cons, List.map_cons, List.sum_cons, List.getElem_cons_succ]
    congr 2
    omega
/-- Half-way: the first j elements are marked. -/
def mkTo {α : Type} (f : α → Int → α) (c : α → Nat) (l : List α) (k : Int) (j : Nat) : List α := (mkSl f c l k).take j ++ l.drop j
theorem mkTo_zero {α : Type} (f : α → Int → α) (c : α → Nat) (l : List α) (k : Int) : mkTo f c l k 0 = l := by simp [mkTo]
theorem length_mkTo {α : Type} (f : α → Int → α) (c : α → Nat) (l : List α) (k : Int) (j : Nat) : (mkTo f c l k j).length = l.length := by
  simp only [mkTo, List.length_append, List.length_take, List.length_drop, length_mkSl]; omega
theorem mkTo_all {α : Type} (f : α → Int → α) (c : α → Nat) (l : List α) (k : Int) : mkTo f c l k l.length = mkSl f c l k := by
  rw [mkTo, List.drop_length, List.append_nil, List.take_of_length_le (by rw [length_mkSl]; exact Nat.le_refl _)]
theorem mkTo_at {α : Type} (f : α → Int → α) (c : α → Nat) (l : List α) (k : Int) {j : Nat} (h : j < l.length) : (mkTo f c l k j)[j]? = some l[j] := by
  have hl : ((mkSl f c l k).take j).length = j := by rw [List.length_take, length_mkSl]; omega
  rw [mkTo, List.getElem?_append_right (by omega), hl, Nat.sub_self, List.getElem?_drop, Nat.add_zero]
  exact List.getElem?_eq_getElem h
theorem mkTo_step {α : Type} (f : α → Int → α) (c : α → Nat) (l : List α) (k : Int) {j : Nat} (h : j < l.length) : (mkTo f c l k j).set j (f l[j] (k + kAt c l j)) = mkTo f c l k (j + 1) := by
  have hl : ((mkSl f c l k).take j).length = j := by rw [List.length_take, length_mkSl]; omega
  have hg := mkSl_get f c l k j h
  have hlt : j < (mkSl f c l k).length := by rw [length_mkSl]; exact h
  rw [List.getElem?_eq_getElem hlt] at hg
  injection hg with hg
  rw [mkTo, mkTo, List.set_append_right _ _ (by omega), hl, Nat.sub_self, List.drop_eq_getElem_cons h, List.set_cons_zero, List.take_succ_eq_append_getElem hlt, hg, List.append_assoc]
  rfl

theorem nodup_flatMap_at {fs : Nat → List Nat} : ∀ {n j : Nat}, ((List.range n).flatMap fs).Nodup → j < n → (fs j).Nodup := by
  intro n
  induction n with
  | zero => intro j _ h; omega
  | succ n ih =>
    intro j h hj
    rw [List.range_succ, List.flatMap_append, List.nodup_append] at h
    by_cases hjn : j = n
    · subst hjn; simpa using h.2.1
    · exact ih h.1 (by omega)
theorem nodup_flatMap_ne {fs : Nat → List Nat} : ∀ {n i j : Nat}, ((List.range n).flatMap fs).Nodup → i < n → j < n → i ≠ j → ∀ {x : Nat}, x ∈ fs i → x ∉ fs j := by
  intro n
  induction n with
  | zero => intro i j _ h; omega
  | succ n ih =>
    intro i j h hi hj hij x hx hx'
    rw [List.range_succ, List.flatMap_append, List.nodup_append] at h
    have hlast : ∀ y, y ∈ fs n → y ∈ [n].flatMap fs := fun y hy => by simpa using hy
    by_cases hin : i = n
    · subst hin
      exact h.2.2 x (List.mem_flatMap.2 ⟨j, List.mem_range.2 (by omega), hx'⟩) x (hlast x hx) rfl
    · by_cases hjn : j = n
      · subst hjn
        exact h.2.2 x (List.mem_flatMap.2 ⟨i, List.mem_range.2 (by omega), hx⟩) x (hlast x hx') rfl
      · exact ih h.1 (by omega) (by omega) hij hx hx'
theorem Ty.sz_pos : ∀ t : Ty, 0 < t.sz
  | .int => Nat.one_pos
  | .byte => Nat.one_pos
  | .bool => Nat.one_pos
  | .str => Nat.one_pos
  | .sl _ => Nat.one_pos
  | .pr a b => Nat.lt_of_lt_of_le (Ty.sz_pos a) (Nat.le_add_right _ _)
theorem Ty.ow_lt {w : World} : ∀ {t : Ty} {cs : List Value} {x : t.D} {fp : List Nat}, t.ow w cs x fp → ∀ b ∈ fp, b < w.heap.size
  | .int, _, _, _, h, b, hb => by rw [h.2] at hb; cases hb
  | .byte, _, _, _, h, b, hb => by rw [h.2] at hb; cases hb
  | .bool, _, _, _, h, b, hb => by rw [h.2] at hb; cases hb
  | .str, _, _, _, h, b, hb => by rw [h.2] at hb; cases hb
  | .sl e, _, x, _, ⟨A, c, h1, h2, h3, h4, h5⟩, b, hb => by
    rcases h5 with h5 | ⟨h0, g, o, fs, hA, hfp, hc⟩
    · rw [h5.2] at hb; cases hb
    · rw [hfp] at hb
      rcases List.mem_cons.1 hb with rfl | hb
      · obtain ⟨ds, hl, hcell, _⟩ := hc 0 h0
        have hz := Ty.sz_pos e
        have hv : w.cell? ⟨b, o + 0 * e.sz + 0, none⟩ = some (ds[0]'(by omega)) := by rw [(hcell 0 hz).1]; exact List.getElem?_eq_getElem (by omega)
        exact World.block_lt_of_cell? w _ hv
      · obtain ⟨i, hi, hb⟩ := List.mem_flatMap.1 hb
        obtain ⟨ds, hl, hcell, hr⟩ := hc i (List.mem_range.1 hi)
        exact Ty.ow_lt hr b hb
  | .pr _ _, _, _, _, ⟨c1, c2, f1, f2, h, hf, h1, h2⟩, b, hb => by
    rw [hf] at hb
    rcases List.mem_append.1 hb with hb | hb
    · exact Ty.ow_lt h1 b hb
    · exact Ty.ow_lt h2 b hb

theorem Ty.ow_bel {w w' : World} (hb : Below w.heap.size w w') {t : Ty} {cs : List Value} {x : t.D} {fp : List Nat} (h : t.ow w cs x fp) : t.ow w' cs x fp :=
  Ty.ow_keep (fun b hb' => hb.block b (Ty.ow_lt h b hb')) h
/-- One element of an owned slice, and how the slice is owned again once that element has been written over. -/
theorem Ty.ow_el {w : World} {e : Ty} {A : Option Addr} {n c j : Nat} {y : List e.D} {fp : List Nat} (h : (Ty.sl e).ow w [.slice A n c] y fp) (hn : fp.Nodup) (hj : j < y.length) :
    ∃ (b o : Nat) (fj : List Nat) (ds : List Value), A = some ⟨b, o, none⟩ ∧ ds.length = e.sz ∧ e.ow w ds y[j] fj ∧ b ∈ fp ∧ (∀ x ∈ fj, x ∈ fp ∧ x ≠ b) ∧ fj.Nodup ∧
      (∀ i, i < e.sz → w.cell? ⟨b, o + j * e.sz + i, none⟩ = ds[i]? ∧ w.frozen? ⟨b, o + j * e.sz + i, none⟩ = false) ∧
      ∀ (w2 : World) (ds' : List Value) (a' : e.D), e.ow w2 ds' a' fj → ds'.length = e.sz →
        (∀ i, i < e.sz → w2.cell? ⟨b, o + j * e.sz + i, none⟩ = ds'[i]? ∧ w2.frozen? ⟨b, o + j * e.sz + i, none⟩ = false) →
        (∀ m, (m < o + j * e.sz ∨ o + j * e.sz + e.sz ≤ m) → w2.cell? ⟨b, m, none⟩ = w.cell? ⟨b, m, none⟩ ∧ w2.frozen? ⟨b, m, none⟩ = w.frozen? ⟨b, m, none⟩) →
        (∀ x ∈ fp, x ≠ b → x ∉ fj → w2.heap[x]? = w.heap[x]?) → (Ty.sl e).ow w2 [.slice A n c] (y.set j a') fp := by
  obtain ⟨A', c', h1, h2, h3, h4, h5⟩ := h
  rcases h5 with h5 | ⟨h0, b, o, fs, hA, hfp, hc⟩
  · exact absurd hj (by omega)
  · injection h1 with h1 _
    injection h1 with h1 hn' hc'
    subst h1; subst hn'; subst hc'; subst hA; subst hfp
    obtain ⟨ds, hl, hcell, hr⟩ := hc j hj
    obtain ⟨hnb, hnf⟩ := List.nodup_cons.1 hn
    have hsub : ∀ x ∈ fs j, x ∈ (List.range y.length).flatMap fs := fun x hx => List.mem_flatMap.2 ⟨j, List.mem_range.2 hj, hx⟩
    refine ⟨b, o, fs j, ds, rfl, hl, hr, List.mem_cons_self, fun x hx => ⟨List.mem_cons_of_mem _ (hsub x hx), fun e' => hnb (e' ▸ hsub x hx)⟩, nodup_flatMap_at hnf hj, hcell, ?_⟩
    intro w2 ds' a' g1 g2 g3 g4 g5
    refine ⟨_, c, by rw [List.length_set], by rwa [List.length_set], h3, by rwa [List.length_set], .inr ⟨by rwa [List.length_set], b, o, fs, rfl, by rw [List.length_set], fun i hi => ?_⟩⟩
    rw [List.length_set] at hi
    by_cases hij : i = j
    · subst hij
      refine ⟨ds', g2, g3, ?_⟩
      rw [List.getElem_set_self]
      exact g1
    · obtain ⟨ds2, k1, k2, k3⟩ := hc i hi
      have hsep : i * e.sz + e.sz ≤ j * e.sz ∨ j * e.sz + e.sz ≤ i * e.sz := by
        rcases Nat.lt_or_gt_of_ne hij with hlt | hlt
        · left; have := Nat.mul_le_mul_right e.sz (show i + 1 ≤ j from hlt); rw [Nat.succ_mul] at this; exact this
        · right; have := Nat.mul_le_mul_right e.sz (show j + 1 ≤ i from hlt); rw [Nat.succ_mul] at this; exact this
      refine ⟨ds2, k1, fun m hm => ?_, ?_⟩
      · have := g4 (o + i * e.sz + m) (by omega)
        rw [this.1, this.2]
        exact k2 m hm
      · rw [List.getElem_set_ne (by omega)]
        refine Ty.ow_keep (fun x hx => g5 x ?_ ?_ ?_) k3
        · exact List.mem_cons_of_mem _ (List.mem_flatMap.2 ⟨i, List.mem_range.2 hi, hx⟩)
        · intro e'; exact hnb (e' ▸ List.mem_flatMap.2 ⟨i, List.mem_range.2 hi, hx⟩)
        · exact nodup_flatMap_ne hnf hi hj hij hx
theorem Ty.cnt_one {e : Ty} (h : ∀ d : e.D, e.cnt d = 1) (x : List e.D) : Ty.cnt (.sl e) x = x.length := by
  show (List.map (fun d => e.cnt d) x).sum = x.length
  induction x with
  | nil => rfl
  | cons a l ih => rw [List.map_cons, List.sum_cons, h, ih, List.length_cons]; omega
theorem kAt_one {α : Type} {c : α → Nat} (h : ∀ d, c d = 1) (l : List α) {j : Nat} (hj : j ≤ l.length) : kAt c l j = j := by
  induction l generalizing j with
  | nil => simp at hj; subst hj; rfl
  | cons a l ih =>
    cases j with
    | zero => rfl
    | succ j =>
      have := ih (j := j) (by simpa using hj)
      simp only [kAt, List.take_succ_cons, List.map_cons, List.sum_cons, h] at *
      omega
/-- A call that writes marks. -/
def RetMk (w : World) (t : Ty) (cs : List Value) (x : t.D) (fp : List Nat) (k : Int) (e : Ending) (w' : World) : Prop := e = .returned (.int .i64 k) ∧ t.ow w' cs x fp ∧ Kept fp w w'
/-- j elements are marked. -/
def MkInv (e : Ty) (A : Option Addr) (c : Nat) (x : List e.D) (fp : List Nat) (k : Int) (w : World) (j : Nat) (wr : World) : Prop :=
  (Ty.sl e).ow wr [.slice A x.length c] (mkTo (fun d k => e.mk d k) (fun d => e.cnt d) x k j) fp ∧ Kept fp w wr
theorem MkInv.zero {e : Ty} {A : Option Addr} {c : Nat} {x : List e.D} {fp : List Nat} {k : Int} {w : World} (h : (Ty.sl e).ow w [.slice A x.length c] x fp) : MkInv e A c x fp k w 0 w := by
  refine ⟨?_, Kept.refl _ _⟩
  rw [mkTo_zero]
  exact h
theorem MkInv.done {e : Ty} {A : Option Addr} {c : Nat} {x : List e.D} {fp : List Nat} {k kk : Int} {w wr : World} (h : MkInv e A c x fp k w x.length wr) :
    RetMk w (.sl e) [.slice A x.length c] (Ty.mk (.sl e) x k) fp kk (.returned (.int .i64 kk)) wr := by
  refine ⟨rfl, ?_, h.2⟩
  have := h.1
  rw [mkTo_all] at this
  exact this
/-- One element, ready to be written over; and what is to be shown behind it. -/
theorem MkInv.el {e : Ty} {A : Option Addr} {c : Nat} {x : List e.D} {fp : List Nat} {k : Int} {w : World} {j : Nat} {wr : World} (h : MkInv e A c x fp k w j wr) (hn : fp.Nodup) (hj : j < x.length) :
    ∃ (b o : Nat) (fj : List Nat) (ds : List Value), A = some ⟨b, o, none⟩ ∧ e.ow wr ds x[j] fj ∧ b ∈ fp ∧ (∀ y ∈ fj, y ∈ fp ∧ y ≠ b) ∧ fj.Nodup ∧ b < wr.heap.size ∧
      (∀ i, i < e.sz → wr.cell? ⟨b, o + j * e.sz + i, none⟩ = ds[i]? ∧ wr.frozen? ⟨b, o + j * e.sz + i, none⟩ = false) ∧
      ∀ (w2 : World) (ds' : List Value), e.ow w2 ds' (e.mk x[j] (k + (kAt (fun d => e.cnt d) x j : Nat))) fj → ds'.length = e.sz →
        (∀ i, i < e.sz → w2.cell? ⟨b, o + j * e.sz + i, none⟩ = ds'[i]? ∧ w2.frozen? ⟨b, o + j * e.sz + i, none⟩ = false) →
        (∀ m, (m < o + j * e.sz ∨ o + j * e.sz + e.sz ≤ m) → w2.cell? ⟨b, m, none⟩ = wr.cell? ⟨b, m, none⟩ ∧ w2.frozen? ⟨b, m, none⟩ = wr.frozen? ⟨b, m, none⟩) →
        (∀ y ∈ fp, y ≠ b → y ∉ fj → w2.heap[y]? = wr.heap[y]?) → Kept fp wr w2 → MkInv e A c x fp k w (j + 1) w2 := by
  obtain ⟨how, hk⟩ := h
  have hl : j < (mkTo (fun d k => e.mk d k) (fun d => e.cnt d) x k j).length := by rw [length_mkTo]; exact hj
  have hget : (mkTo (fun d k => e.mk d k) (fun d => e.cnt d) x k j)[j] = x[j] := by
    have := mkTo_at (fun d k => e.mk d k) (fun d => e.cnt d) x k hj
    rw [List.getElem?_eq_getElem hl] at this
    injection this
  have how' := how
  rw [show x.length = (mkTo (fun d k => e.mk d k) (fun d => e.cnt d) x k j).length from (length_mkTo _ _ _ _ _).symm] at how
  obtain ⟨b, o, fj, ds, h1, h2, h3, h4, h5, h6, h7, h8⟩ := Ty.ow_el how hn hl
  rw [hget] at h3
  refine ⟨b, o, fj, ds, h1, h3, h4, h5, h6, Ty.ow_lt how' b h4, h7, fun w2 ds' g1 g2 g3 g4 g5 g6 => ⟨?_, hk.trans g6⟩⟩
  have := h8 w2 ds' _ g1 g2 g3 g4 g5
  rw [mkTo_step (fun d k => e.mk d k) (fun d => e.cnt d) x k hj, length_mkTo] at this
  exact this
end Go.Proofs.Ytldgbnlcnlfmeaa
