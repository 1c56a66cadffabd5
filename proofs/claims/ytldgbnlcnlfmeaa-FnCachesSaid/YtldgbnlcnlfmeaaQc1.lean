/- Texts of this claim, merged by a program: Mkb Nb Ncs Row Int Byt Stp. -/
import Derived.Test.YtldgbnlcnlfmeaaQcP
import Derived.Test.YtldgbnlcnlfmeaaQc0
import Derived.OwnWalk
import Derived.ArgAppend
import Derived.Laws.OwnMore
import Derived.Lib.SliceRun
import Derived.Laws.Bits128
import Derived.Deep.RegionHeld3
namespace Go.Proofs.Ytldgbnlcnlfmeaa
open Go.RowKit
set_option linter.unusedVariables false
set_option linter.unusedSimpArgs false
structure Kept (fp : List Nat) (w w' : World) : Prop where
 os : w'.os = w.os
 tape : w'.tape = w.tape
 output : w'.output = w.output
 size : w.heap.size ≤ w'.heap.size
 block : ∀ k, k < w.heap.size → k ∉ fp → w'.heap[k]? = w.heap[k]?
theorem Kept.refl (fp : List Nat) (w : World) : Kept fp w w := ⟨rfl, rfl, rfl, Nat.le_refl _, fun _ _ _ => rfl⟩
theorem Kept.trans {fp : List Nat} {a b c : World} (h : Kept fp a b) (k : Kept fp b c) : Kept fp a c :=
 ⟨k.os.trans h.os, k.tape.trans h.tape, k.output.trans h.output, Nat.le_trans h.size k.size, fun i hi hn => (k.block i (Nat.lt_of_lt_of_le hi h.size) hn).trans (h.block i hi hn)⟩
theorem Kept.mono {fp gp : List Nat} {a b : World} (h : Kept fp a b) (hs : ∀ x ∈ fp, x ∈ gp) : Kept gp a b :=
 ⟨h.os, h.tape, h.output, h.size, fun i hi hn => h.block i hi (fun hm => hn (hs i hm))⟩
theorem Kept.of_below {fp : List Nat} {a b : World} (h : Below a.heap.size a b) : Kept fp a b := ⟨h.os, h.tape, h.output, h.size, fun i hi _ => h.block i hi⟩
theorem Kept.below {fp : List Nat} {a b : World} {B : Nat} (h : Kept fp a b) (hB : B ≤ a.heap.size) (hf : ∀ x ∈ fp, B ≤ x) : Below B a b :=
 ⟨h.os, h.tape, h.output, h.size, fun i hi => h.block i b_34 (fun hm => by have := hf i hm; omega)⟩
theorem Kept.set {fp : List Nat} {a b : World} (h : Kept fp a b) {p : Addr} (hp : p.block ∈ fp) (u : Value) : Kept fp a (b.setCell p u) :=
 ⟨h.os, h.tape, h.output, by simpa [World.setCell] using h.size, fun i hi hn => (Below.heap_setCell _ _ _ _ (fun e => hn (by rw [e]; exact hp))).trans (h.block i hi hn)⟩
theorem Kept.drewN {fp : List Nat} {a b : World} (h : Kept fp a b) (n : Nat) : Kept fp a (b.drewN n) := ⟨h.os, h.tape, h.output, h.size, h.block⟩
theorem Kept.drew {fp : List Nat} {a b : World} (h : Kept fp a b) : Kept fp a b.drew := ⟨h.os, h.tape, h.output, h.size, h.block⟩
theorem Kept.step {fp : List Nat} {a b c : World} (h : Kept fp a b) (k : Below b.heap.size b c) : Kept fp a c := h.trans (Kept.of_below k)
def digLoop : Nat → Int → List UInt8 → List UInt8
 | 0, _, out => out
 | f + 1, k, out => if k ≤ 0 then out else digLoop f (k / 10) (UInt8.ofNat (48 + k % 10).toNat :: out)
def mkText (k : Int) : List UInt8 := if k ≤ 0 then [109, 48] else 109 :: digLoop 20 k []
def DigInv (f : Nat) (kk : Int) (out : List UInt8) (k : Int) : Prop := digLoop 20 k [] = digLoop f kk out ∧ kk < 10 ^ f
theorem DigInv.done {f : Nat} {kk : Int} {out : List UInt8} {k : Int} (h : DigInv f kk out k) (hk : kk ≤ 0) : digLoop 20 k [] = out := by
 rw [h.1]
 cases f with
 | zero => rfl
 | succ f => rw [digLoop, if_pos hk]
theorem DigInv.step {f : Nat} {kk : Int} {out : List UInt8} {k : Int} (h : DigInv f kk out k) (hk : 0 < kk) : ∃ g, f = g + 1 ∧ DigInv g (kk / 10) (UInt8.ofNat (48 + kk % 10).toNat :: out) k := by
 cases f with
 | zero => have := h.2; simp at this; omega
 | succ g =>
  refine ⟨g, rfl, by rw [h.1, digLoop, if_neg b_34], ?_⟩
  have := h.2
  rw [Int.pow_succ] at this
  omega
def Ty.cnt : (t : Ty) → t.D → Nat
 | .int, _ => 1
 | .byte, _ => 1
 | .bool, _ => 0
 | .str, _ => 1
 | .sl e, x => (List.map (fun d => e.cnt d) x).sum
 | .pr a b, x => a.cnt x.1 + b.cnt x.2
def mkSl {α : Type} (f : α → Int → α) (c : α → Nat) : List α → Int → List α
 | [], _ => []
 | a :: l, k => f a k :: mkSl f c l (k + c a)
def Ty.mk : (t : Ty) → t.D → Int → t.D
 | .int, _, k => k
 | .byte, _, k => UInt8.ofNat (k % 256).toNat
 | .bool, b, _ => b
 | .str, _, k => mkText k
 | .sl e, x, k => mkSl (fun d k => e.mk d k) (fun d => e.cnt d) x k
 | .pr a b, x, k => (a.mk x.1 k, b.mk x.2 (k + a.cnt x.1))
def Ty.k0 : Ty → Nat
 | .int => 1 | .byte => 1 | .bool => 0 | .str => 1
 | .sl _ => 0
 | .pr a b => a.k0 + b.k0
def Ty.wt : Ty → Nat
 | .sl e => e.k0 + e.wt
 | .pr a b => a.wt + b.wt
 | _ => 0
theorem length_mkSl {α : Type} (f : α → Int → α) (c : α → Nat) : ∀ (l : List α) (k : Int), (mkSl f c l k).length = l.length
 | [], _ => rfl
 | a :: l, k => by rw [mkSl, List.length_cons, length_mkSl f c l, List.length_cons]
def mkTo {α : Type} (f : α → Int → α) (c : α → Nat) (l : List α) (k : Int) (j : Nat) : List α := (mkSl f c l k).take j ++ l.drop j
theorem mkTo_zero {α : Type} (f : α → Int → α) (c : α → Nat) (l : List α) (k : Int) : mkTo f c l k 0 = l := by simp [mkTo]
theorem mkTo_all {α : Type} (f : α → Int → α) (c : α → Nat) (l : List α) (k : Int) : mkTo f c l k l.length = mkSl f c l k := by
 rw [mkTo, List.drop_length, List.append_nil, List.take_of_length_le (by rw [length_mkSl]; exact Nat.le_refl _)]
theorem Ty.sz_pos : ∀ t : Ty, 0 < t.sz
 | .int => Nat.one_pos
 | .byte => Nat.one_pos
 | .bool => Nat.one_pos
 | .str => Nat.one_pos
 | .sl _ => Nat.one_pos
 | .pr a b => Nat.lt_of_lt_of_le (Ty.sz_pos a) (Nat.le_add_right _ _)
theorem Ty.ow_lt {w : World} : ∀ {t : Ty} {cs : List Value} {x : t.D} {fp : List Nat}, t.ow w cs x fp → ∀ b ∈ fp, b < w.heap.size
 | .int, _, _, _, h, b, hb => by rw [h.2] at hb; cases hb
 | .byte, _, _, _, h, b, hb => by rw [h.2] at hb; cases hb
 | .bool, _, _, _, h, b, hb => by rw [h.2] at hb; cases hb
 | .str, _, _, _, h, b, hb => by rw [h.2] at hb; cases hb
 | .sl e, _, x, _, ⟨A, c, h1, h2, h3, h4, h5⟩, b, hb => by
  rcases h5 with h5 | ⟨h0, g, o, fs, hA, hfp, hc⟩
  ·rw [h5.2] at hb; cases hb
  ·rw [hfp] at hb
   rcases List.mem_cons.1 hb with rfl | hb
   ·obtain ⟨ds, hl, hcell, _⟩ := hc 0 h0
    have hz := Ty.sz_pos e
    have hv : w.cell? ⟨b, o + 0 * e.sz + 0, none⟩ = some (ds[0]'(by omega)) := by rw [(hcell 0 hz).1]; exact List.getElem?_eq_getElem b_34
    exact World.block_lt_of_cell? w _ hv
   ·obtain ⟨i, hi, hb⟩ := List.mem_flatMap.1 hb
    obtain ⟨ds, hl, hcell, hr⟩ := hc i (List.mem_range.1 hi)
    exact Ty.ow_lt hr b hb
 | .pr _ _, _, _, _, ⟨c1, c2, f1, f2, h, hf, h1, h2⟩, b, hb => by
  rw [hf] at hb
  rcases List.mem_append.1 hb with hb | hb
  ·exact Ty.ow_lt h1 b hb
  ·exact Ty.ow_lt h2 b hb
theorem Ty.ow_bel {w w' : World} (hb : Below w.heap.size w w') {t : Ty} {cs : List Value} {x : t.D} {fp : List Nat} (h : t.ow w cs x fp) : t.ow w' cs x fp :=
 Ty.ow_keep (fun b hb' => hb.block b (Ty.ow_lt h b hb')) h
def RetMk (w : World) (t : Ty) (cs : List Value) (x : t.D) (fp : List Nat) (k : Int) (e : Ending) (w' : World) : Prop := e = .returned (.int .i64 k) ∧ t.ow w' cs x fp ∧ Kept fp w w'
def MkInv (e : Ty) (A : Option Addr) (c : Nat) (x : List e.D) (fp : List Nat) (k : Int) (w : World) (j : Nat) (wr : World) : Prop :=
 (Ty.sl e).ow wr [.slice A x.length c] (mkTo (fun d k => e.mk d k) (fun d => e.cnt d) x k j) fp ∧ Kept fp w wr
theorem MkInv.zero {e : Ty} {A : Option Addr} {c : Nat} {x : List e.D} {fp : List Nat} {k : Int} {w : World} (h : (Ty.sl e).ow w [.slice A x.length c] x fp) : MkInv e A c x fp k w 0 w := by
 refine ⟨?_, Kept.refl _ _⟩
 rw [mkTo_zero]
 exact h
theorem MkInv.done {e : Ty} {A : Option Addr} {c : Nat} {x : List e.D} {fp : List Nat} {k kk : Int} {w wr : World} (h : MkInv e A c x fp k w x.length wr) :
  RetMk w (.sl e) [.slice A x.length c] (Ty.mk (.sl e) x k) fp kk (.returned (.int .i64 kk)) wr := by
 refine ⟨rfl, ?_, h.2⟩
 have := h.1
 rw [mkTo_all] at this
 exact this
theorem bulk_app {e : Ty} (x y : List e.D) : Ty.bulk (.sl e) (x ++ y) = Ty.bulk (.sl e) x + Ty.bulk (.sl e) y := by
 show (x ++ y).length + ((x ++ y).map (fun d => e.bulk d)).sum = (x.length + (x.map (fun d => e.bulk d)).sum) + (y.length + (y.map (fun d => e.bulk d)).sum)
 rw [List.length_append, List.map_append, List.sum_append]; omega
theorem bulk_one {e : Ty} (d : e.D) : Ty.bulk (.sl e) [d] = e.bulk d + 1 := by
 show 1 + ([d].map (fun d => e.bulk d)).sum = _
 simp; omega
theorem bulk_drop {e : Ty} (x : List e.D) (k : Nat) : Ty.bulk (.sl e) (x.drop k) ≤ Ty.bulk (.sl e) x := by
 have := bulk_app (e := e) (x.take k) (x.drop k)
 rw [List.take_append_drop] at this; omega
def f_NewContentStore (a : Int) : tContentStore.D := (if inR a 0 8 = true then a else 0, [])
theorem ow_store0 (w : World) (n : Int) (h : -9223372036854775808 ≤ n ∧ n ≤ 9223372036854775807) : tContentStore.ow w [.int .i64 n, .slice none 0 0] (n, []) ([] ++ []) := ⟨[_], [_], [], [], rfl, rfl, ⟨⟨rfl, h⟩, rfl⟩, rd_ow_nil w tCacheEntry⟩
set_option maxHeartbeats 1000000 in
theorem C_spec_NewContentStore (w : World) (a : Int) (i0 : -9223372036854775808 ≤ a ∧ a ≤ 9223372036854775807) :
  Calls Try.prog 36 #[.int .i64 a] w (RetAgg w tContentStore (f_NewContentStore a)) := by
 cases q : inR a 0 8
 all_goals
  have HF : Hid (f_NewContentStore a = _) := Lib.hid (show f_NewContentStore a = (if inR a 0 8 = true then a else 0, []) from rfl)
  rw [q] at HF
  go_enter Try.func36, Try.ntmps36
  go_wp2_with fail
  refine (C_spec_l1In _ _ _ _).mono ?_
  rw [q]
  rintro e w1 ⟨rfl, hw1⟩
  subst hw1
  go_wp2
 ·refine bodyPost_ret (v := .agg #[.int .i64 0, .slice none 0 0]) (by simp [results, Try.results36, go_sem]) rfl ?_
  rw [HF.out]
  exact ⟨_, _, rfl, ow_store0 _ 0 b_33, FrI.nil _ _, b_6⟩
 ·refine bodyPost_ret (v := .agg #[.int .i64 a, .slice none 0 0]) (by simp [results, Try.results36, go_sem]) rfl ?_
  rw [HF.out]
  exact ⟨_, _, rfl, ow_store0 _ a i0, FrI.nil _ _, b_6⟩
set_option maxHeartbeats 1000000 in
theorem C_impl_NewContentStore (w : World) (a : Int) (i0 : -9223372036854775808 ≤ a ∧ a ≤ 9223372036854775807) :
  Calls Try.prog 35 #[.int .i64 a] w (RetAgg w tContentStore (f_NewContentStore a)) := by
 cases q : inR a 0 8
 all_goals
  have HF : Hid (f_NewContentStore a = _) := Lib.hid (show f_NewContentStore a = (if inR a 0 8 = true then a else 0, []) from rfl)
  rw [q] at HF
  go_enter Try.func35, Try.ntmps35
  go_wp2_with fail
  refine (C_impl_InRange _ _ _ _).mono ?_
  rw [q]
  rintro e w1 ⟨rfl, hw1⟩
  subst hw1
  go_wp2
 ·refine bodyPost_ret (v := .agg #[.int .i64 0, .slice none 0 0]) (by simp [results, Try.results35, go_sem]) rfl ?_
  rw [HF.out]
  exact ⟨_, _, rfl, ow_store0 _ 0 b_33, FrI.nil _ _, b_6⟩
 ·refine bodyPost_ret (v := .agg #[.int .i64 a, .slice none 0 0]) (by simp [results, Try.results35, go_sem]) rfl ?_
  rw [HF.out]
  exact ⟨_, _, rfl, ow_store0 _ a i0, FrI.nil _ _, b_6⟩
structure Flat (e : Ty) where
 enc : e.D → Value
 ok : e.D → Prop
 sz : e.sz = 1
 one : ∀ d, (enc d).oneCell' = true
 rd : ∀ (w : World) (cs : List Value) (d : e.D), e.rd w cs d ↔ cs = [enc d] ∧ ok d
 ow : ∀ (w : World) (cs : List Value) (d : e.D) (f : List Nat), e.ow w cs d f ↔ (cs = [enc d] ∧ ok d) ∧ f = []
def flatI : Flat .int := ⟨fun n => .int .i64 n, fun n => -9223372036854775808 ≤ n ∧ n ≤ 9223372036854775807, rfl, fun _ => rfl, fun _ _ _ => Iff.rfl, fun _ _ _ _ => Iff.rfl⟩
def flatB : Flat .byte := ⟨fun n => .int .u8 (n.toNat : Int), fun _ => True, rfl, fun _ => rfl, fun _ _ _ => by simp [Ty.rd, rdByte], fun _ _ _ _ => by simp [Ty.ow, rdByte]⟩
def flatS : Flat .str := ⟨fun s => vS s, fun s => s.length ≤ 9223372036854775807, rfl, fun _ => rfl, fun _ _ _ => Iff.rfl, fun _ _ _ _ => Iff.rfl⟩
def Row {e : Ty} (F : Flat e) (w : World) (base : Nat) (te : TypeId) (v : Value) (x : List e.D) : Prop :=
 w.ownsRow base te 1 v x.length (x.map F.enc) ∧ ∀ d ∈ x, F.ok d
theorem Row.nil {e : Ty} (F : Flat e) (w : World) (base : Nat) (te : TypeId) : Row F w base te (.slice none 0 0) [] := ⟨World.ownsRow_nil w base te 1, fun d hd => absurd hd (by simp)⟩
theorem Row.le {e : Ty} {F : Flat e} {w : World} {base : Nat} {te : TypeId} {v : Value} {x : List e.D} (h : Row F w base te v x) : x.length ≤ maxLen := by
 rcases h.1.2 with ⟨_, hn⟩ | ⟨g, cap, cur, _, _, _, h1, h2, _⟩
 ·rw [hn]; exact Nat.zero_le _
 ·exact Nat.le_trans h1 h2
theorem Row.form {e : Ty} {F : Flat e} {w : World} {base : Nat} {te : TypeId} {v : Value} {x : List e.D} (h : Row F w base te v x) : ∃ A c, v = .slice A x.length c := by
 rcases h.1.2 with ⟨rfl, hn⟩ | ⟨g, cap, cur, rfl, _⟩
 ·exact ⟨none, 0, by rw [hn]⟩
 ·exact ⟨_, _, rfl⟩
theorem Row.cells {e : Ty} {F : Flat e} {w : World} {base : Nat} {te : TypeId} {g : Nat} {c : Nat} {x : List e.D} (h : Row F w base te (.slice (some ⟨g, 0, none⟩) x.length c) x) (i : Nat) (hi : i < x.length) :
  w.cell? ⟨g, 0 + i * 1 + 0, none⟩ = some (F.enc x[i]) ∧ w.frozen? ⟨g, 0 + i * 1 + 0, none⟩ = false := by
 rcases h.1.2 with ⟨h', _⟩ | ⟨g', cap', cur, h', _, hg, h3, _, _, htake⟩
 ·simp at h'
 ·simp only [Value.slice.injEq, Option.some.injEq, Addr.mk.injEq, and_true, true_and] at h'
  obtain ⟨rfl, rfl⟩ := h'
  refine ⟨?_, ?_⟩
  ·have := h.1.cellAt i b_34
   rw [show 0 + i * 1 + 0 = i from by omega, this]
   simp [hi]
  ·exact Blk.frozen (t := te) (cs := cur) hg _
theorem Row.own {e : Ty} {F : Flat e} {w : World} {base : Nat} {te : TypeId} {v : Value} {x : List e.D} (h : Row F w base te v x) (hb : base ≤ w.heap.size) :
  ∃ A c fp, v = .slice A x.length c ∧ (Ty.sl e).ow w [v] x fp ∧ FrI base w.heap.size fp := by
 have hl := h.le
 unfold maxLen at hl
 rcases h.1.2 with ⟨rfl, hn⟩ | ⟨g, cap, cur, rfl, hbg, hg, h3, h4, _, htake⟩
 ·have hx : x = [] := List.eq_nil_of_length_eq_zero hn
  subst hx
  exact ⟨none, 0, [], rfl, ⟨none, 0, rfl, by simp, ⟨by unfold maxLen; omega, fun _ => rfl⟩, by simp, .inl ⟨rfl, rfl⟩⟩, FrI.nil _ _⟩
 ·have hlt : g < w.heap.size := Blk.lt (t := te) (cs := cur) hg
  by_cases h0 : x.length = 0
  ·exact ⟨_, _, [], rfl, ⟨_, _, rfl, h3, ⟨h4, fun h => by cases h⟩, by omega, .inl ⟨h0, rfl⟩⟩, FrI.nil _ _⟩
  ·refine ⟨_, _, g :: (List.range x.length).flatMap fun _ => [], rfl, ⟨_, _, rfl, h3, ⟨h4, fun h => by cases h⟩, by omega, .inr ⟨by show 0 < x.length; omega, g, 0, fun _ => [], rfl, rfl, fun i hi => ?_⟩⟩, ?_⟩
   ·refine ⟨[F.enc x[i]], by rw [F.sz]; rfl, fun j hj => ?_, (F.ow _ _ _ _).2 ⟨⟨rfl, h.2 _ (List.getElem_mem hi)⟩, rfl⟩⟩
    rw [F.sz] at hj ⊢
    obtain rfl : j = 0 := by omega
    exact h.cells i hi
   ·rw [List.flatMap_eq_nil_iff.2 (fun _ _ => rfl)]
    refine ⟨by simp, fun b hb' => ?_⟩
    simp at hb'
    omega
theorem Row.rd {e : Ty} {F : Flat e} {w : World} {base : Nat} {te : TypeId} {v : Value} {x : List e.D} (h : Row F w base te v x) (hb : base ≤ w.heap.size) : (Ty.sl e).rd w [v] x := by
 obtain ⟨A, c, fp, _, how, _⟩ := h.own hb
 exact Ty.ow_rd how
theorem Row.block {e : Ty} {F : Flat e} {w : World} {base : Nat} {te : TypeId} {v : Value} {x : List e.D} (h : Row F w base te v x) : ∀ g, v.ownBlock = some g → base ≤ g ∧ g < w.heap.size := by
 intro g hg
 rcases h.1.2 with ⟨rfl, _⟩ | ⟨g', cap', cur, rfl, hbg, hgg, _⟩
 ·simp [Value.ownBlock] at hg
 ·simp [Value.ownBlock] at hg
  subst hg
  exact ⟨hbg, Blk.lt (t := te) (cs := cur) hgg⟩
theorem Row.below {e : Ty} {F : Flat e} {w w' : World} {base : Nat} {te : TypeId} {v : Value} {x : List e.D} (h : Row F w base te v x) (hb : Below w.heap.size w w') : Row F w' base te v x := by
 refine ⟨?_, h.2⟩
 refine ⟨h.1.1, ?_⟩
 rcases h.1.2 with hn | ⟨g, cap, cur, rfl, hbg, hgg, rest⟩
 ·exact .inl hn
 ·exact .inr ⟨g, cap, cur, rfl, hbg, (hb.block g (Blk.lt (t := te) (cs := cur) hgg)).trans hgg, rest⟩
theorem Row.mono {e : Ty} {F : Flat e} {w : World} {base base' : Nat} {te : TypeId} {v : Value} {x : List e.D} (h : Row F w base te v x) (hb : base' ≤ base) : Row F w base' te v x := by
 refine ⟨⟨h.1.1, ?_⟩, h.2⟩
 rcases h.1.2 with hn | ⟨g, cap, cur, rfl, hbg, hgg, rest⟩
 ·exact .inl hn
 ·exact .inr ⟨g, cap, cur, rfl, Nat.le_trans hb hbg, hgg, rest⟩
theorem bel_grown {w0 w w' : World} {B : Nat} {row : Option Nat} (h : Below B w0 w) (hB : B ≤ w.heap.size) (hg : w.grownBy w' row) (hrow : ∀ g, row = some g → B ≤ g) : Below B w0 w' :=
 ⟨hg.os.trans h.os, hg.tape.trans h.tape, hg.output.trans h.output, Nat.le_trans h.size hg.size, fun k hk => (hg.block k b_34 (fun e => by have := hrow k e.symm; omega)).trans (h.block k hk)⟩
theorem Row.lit1 {e : Ty} (F : Flat e) (w : World) (te : TypeId) (d : e.D) (hd : F.ok d) {base : Nat} (hb : base ≤ w.heap.size) : Row F (w.alloc (.cells #[F.enc d] te)) base te (.slice (some ⟨w.heap.size, 0, none⟩) 1 1) [d] :=
 ⟨World.ownsRow_lit w #[F.enc d] 1 hb (by unfold maxLen; omega) (by simp), fun a ha => by simp at ha; subst ha; exact hd⟩
theorem Row.lit0 {e : Ty} (F : Flat e) (w : World) (te : TypeId) {base : Nat} (hb : base ≤ w.heap.size) : Row F (w.alloc (.cells #[] te)) base te (.slice (some ⟨w.heap.size, 0, none⟩) 0 0) [] :=
 ⟨World.ownsRow_lit w #[] 0 hb (by unfold maxLen; omega) (by simp), fun a ha => absurd ha (by simp)⟩
theorem run_append_zero {P : Program} {w : World} (base : Nat) (t ty e : TypeId) (i : TypeInfo) (size : Nat) (ht : P.underlying t = some (.slice e)) (hi : P.info? e = some i)
  (v : Value) (n : Nat) (xs : List Value) (hown : w.ownsRow base e size v n xs) (A : Option Addr) (c : Nat) :
  (Builtin.append_ #[t, t] ty #[v, .slice A 0 c]).run P w = .ok v w := by
 rcases hown.2 with ⟨rfl, rfl⟩ | ⟨g, cap, cur, rfl, _, _, hnc, _⟩ <;> cases A <;>
  simp [Builtin.append_, run_underlying ht, sizeOf, typeInfo, hi, Builtin.lenOf, Builtin.firstCells, storeCells, loadCells, loadCellsFrom, *]
theorem run_append_row {P : Program} {w : World} {e : Ty} (F : Flat e) (base : Nat) (t ty te : TypeId) {z : Value} {by_ : Nat} (hinfo : (P.info? te).map (fun i => (i.zero, i.size, i.bytes)) = some (some z, 1, by_)) (hz1 : z.cells.size = 1) (ht : P.underlying t = some (.slice te))
  (v u : Value) (x y : List e.D) (hown : Row F w base te v x) (hy : (Ty.sl e).rd w [u] y) (hbytes : (x.length + y.length) * by_ ≤ 140737488355328) (hlen : x.length + y.length ≤ maxLen) (hbase : base ≤ w.heap.size) :
  ∃ v' w', (Builtin.append_ #[t, t] ty #[v, u]).run P w = .ok v' w' ∧ Row F w' base te v' (x ++ y) ∧ w.grownBy w' v.ownBlock := by
 obtain ⟨i, hi, hzz⟩ := Option.map_eq_some_iff.1 hinfo
 simp only [Prod.mk.injEq] at hzz
 obtain ⟨hz, hsz, hby⟩ := hzz
 obtain ⟨A, c, hu, hyc, hcm, hyn, hcell⟩ := hy
 injection hu with hu _
 subst hu
 have hok : ∀ d ∈ y, F.ok d := by
  intro d hd
  obtain ⟨j, hj, rfl⟩ := List.getElem_of_mem hd
  obtain ⟨b, o, _, h3⟩ := hcell b_34
  obtain ⟨ds, _, _, h4⟩ := h3 j hj
  exact ((F.rd _ _ _).1 h4).2
 by_cases h0 : y.length = 0
 ·have hy0 : y = [] := List.eq_nil_of_length_eq_zero h0
  subst hy0
  exact ⟨v, w, run_append_zero base t ty te i 1 ht hi v _ _ hown.1 A c, by rw [List.append_nil]; exact hown, World.grownBy.refl _ _⟩
 ·obtain ⟨b, o, rfl, h3⟩ := hcell b_34
  obtain ⟨v', w', hr, h2, h4, _⟩ := run_append_own (P := P) w base t ty te i z 1 by_ ht hi hz hsz hby hz1 b_34 v x.length (x.map F.enc) hown.1 ⟨b, o, none⟩ y.length c (y.map F.enc) (by simp)
   (fun j u hj => by
    have hj' : j < y.length := by
     have := (List.getElem?_eq_some_iff.1 hj).1
     simpa using this
    obtain ⟨ds, h5, h6, h7⟩ := h3 j hj'
    have h8 := ((F.rd _ _ _).1 h7).1
    have h9 := h6 0 (by rw [F.sz]; omega)
    rw [F.sz, h8, show o + j * 1 + 0 = o + j from by omega] at h9
    rw [Addr.add_lit, h9]
    simp [hj'] at hj ⊢
    exact hj)
   (fun u hu => by obtain ⟨d, _, rfl⟩ := List.mem_map.1 hu; exact F.one d) hlen hbytes hbase
  refine ⟨v', w', hr, ⟨?_, fun d hd => ?_⟩, h4⟩
  ·rw [List.length_append, List.map_append]; exact h2
  ·rcases List.mem_append.1 hd with h | h
   ·exact hown.2 d h
   ·exact hok d h
theorem wpList_append_row {P : Program} {w : World} {ops : Array Oper} {rest : List Oper} {o : Oper} {a : Act} {Q : Exit → Act → World → Prop} (hgd : o.guard = none) (s xo : Operand) (t : TypeId)
  (ho : o.op = .call { callee := .builtin .append, args := #[s, xo], argTypes := #[t, t] }) {e : Ty} (F : Flat e) (base : Nat) (te : TypeId) {z : Value} {by_ : Nat}
  (hinfo : (P.info? te).map (fun i => (i.zero, i.size, i.bytes)) = some (some z, 1, by_)) (hz1 : z.cells.size = 1) (ht : P.underlying t = some (.slice te))
  (v u : Value) (x y : List e.D) (hs : a.eval s = v) (hx : a.eval xo = u) (hown : Row F w base te v x) (hy : (Ty.sl e).rd w [u] y) (hbytes : (x.length + y.length) * by_ ≤ 140737488355328) (hlen : x.length + y.length ≤ maxLen) (hbase : base ≤ w.heap.size)
  (h : ∀ v' w', Row F w' base te v' (x ++ y) → w.grownBy w' v.ownBlock → wpList P ops Q rest (a.put o.dst v') w') : wpList P ops Q (o :: rest) a w := by
 obtain ⟨v', w', hr, h2, h3⟩ := run_append_row (P := P) F base t o.type te hinfo hz1 ht v u x y hown hy hbytes hlen hbase
 refine wpList_plain hgd fun K hK => ?_
 unfold Oper.wp execOp
 simp only [ho, resolve, invoke, builtin, Sem.run_bind, Sem.run_pure, Result.andThen_ok, List.map_toArray, List.map_cons, List.map_nil, hs, hx, hr]
 exact hK _ _ (h v' w' h2 h3)
def RetRow {e : Ty} (F : Flat e) (w : World) (te : TypeId) (x : List e.D) (r : Ending) (w' : World) : Prop :=
 ∃ v, r = .returned v ∧ Row F w' w.heap.size te v x ∧ Below w.heap.size w w'
theorem RetRow.sl {e : Ty} {F : Flat e} {w : World} {te : TypeId} {x : List e.D} {r : Ending} {w' : World} (h : RetRow F w te x r w') : RetSl w e x r w' := by
 obtain ⟨v, rfl, hr, hb⟩ := h
 obtain ⟨A, c, fp, rfl, how, hfr⟩ := hr.own hb.size
 exact ⟨A, c, fp, rfl, how, hfr, hb⟩
theorem infoI : (Try.prog.info? 3).map (fun i => (i.zero, i.size, i.bytes)) = some (some (.int .i64 0), 1, 8) := by kernel_rfl
theorem infoB : (Try.prog.info? 5).map (fun i => (i.zero, i.size, i.bytes)) = some (some (.int .u8 0), 1, 1) := by kernel_rfl
def modP (n : Int) : Int := (n.tmod 2147483647 + 2147483647).tmod 2147483647
theorem tmodP_bd (n : Int) : -2147483647 < n.tmod 2147483647 ∧ n.tmod 2147483647 < 2147483647 := by
 have h1 := Int.tmod_lt_of_pos n (show (0 : Int) < 2147483647 by decide)
 refine ⟨?_, h1⟩
 rcases Int.le_total 0 n with h | h
 ·have := Int.tmod_nonneg 2147483647 h; omega
 ·have h3 := Int.tmod_lt_of_pos (-n) (show (0 : Int) < 2147483647 by decide)
  rw [Int.neg_tmod] at h3; omega
theorem modP_wrap (n : Int) : (wrap64 (n.tmod 2147483647 + 2147483647)).tmod 2147483647 = modP n := by
 unfold modP; rw [show wrap64 (n.tmod 2147483647 + 2147483647) = n.tmod 2147483647 + 2147483647 from by have := tmodP_bd n; unfold wrap64; omega]
theorem okI {n : Int} (h1 : -9223372036854775808 ≤ n) (h2 : n ≤ 9223372036854775807) : flatI.ok n := ⟨h1, h2⟩
theorem modP_le (n : Int) : 0 ≤ modP n ∧ modP n < 2147483647 := by
 unfold modP
 have h1 := Int.tmod_lt_of_pos n (show (0 : Int) < 2147483647 by decide)
 have h2 : -2147483647 < n.tmod 2147483647 := by
  rcases Int.le_total 0 n with h | h
  ·have := Int.tmod_nonneg 2147483647 h; omega
  ·have h3 := Int.tmod_lt_of_pos (-n) (show (0 : Int) < 2147483647 by decide)
   rw [Int.neg_tmod] at h3; omega
 exact ⟨Int.tmod_nonneg _ b_34, Int.tmod_lt_of_pos _ b_33⟩
def digest (l : List Int) : Int := l.foldl (fun d x => (d * 1000003 + modP x + 13).tmod 2147483647) 11
theorem digest_le (l : List Int) : 0 ≤ digest l ∧ digest l < 2147483647 := by
 unfold digest
 have : ∀ (l : List Int) (d : Int), 0 ≤ d ∧ d < 2147483647 → 0 ≤ l.foldl (fun d x => (d * 1000003 + modP x + 13).tmod 2147483647) d ∧ l.foldl (fun d x => (d * 1000003 + modP x + 13).tmod 2147483647) d < 2147483647 := by
  intro l
  induction l with
  | nil => exact fun d h => h
  | cons a l ih =>
   intro d h
   have hm := modP_le a
   exact ih _ ⟨Int.tmod_nonneg _ b_34, Int.tmod_lt_of_pos _ b_33⟩
 exact this l 11 b_34
def pre (n : Int) (y : List UInt8) : List Int := n :: y.map fun c => (c.toNat : Int)
def bti (x : List UInt8) : List Int := pre x.length x
theorem pre_take (n : Int) (y : List UInt8) {k : Nat} (h : k < y.length) : pre n (y.take (k + 1)) = pre n (y.take k) ++ [(y[k].toNat : Int)] := by
 unfold pre; rw [List.take_succ_eq_append_getElem h, List.map_append]; rfl
theorem pre_len (n : Int) (y : List UInt8) : (pre n y).length = y.length + 1 := by simp [pre]
theorem digest_take (l : List Int) {k : Nat} (h : k < l.length) : digest (l.take (k + 1)) = (digest (l.take k) * 1000003 + modP l[k] + 13).tmod 2147483647 := by
 unfold digest
 rw [List.take_succ_eq_append_getElem h, List.foldl_append]; rfl
set_option maxHeartbeats 400000 in
theorem C_spec_ModP (w : World) (n : Int) (hn : -9223372036854775808 ≤ n ∧ n ≤ 9223372036854775807) : Calls Try.prog 179 #[.int .i64 n, .int .i64 2147483647] w (RetIP w (modP n)) := by
 go_enter Try.func179, Try.ntmps179
 go_wp2_with fail
 refine (C_spec_l1In _ _ _ _).mono ?_
 rintro e w1 ⟨rfl, rfl⟩
 have hq : inR 2147483647 1 1000000000000 = true := by decide
 rw [hq]
 clear hq
 go_wp2
 go_ret
 exact ⟨ret_int (modP_wrap n), rfl⟩
set_option maxHeartbeats 1000000 in
theorem C_spec_Digest (w : World) (v : Value) (x : List Int) (h : (Ty.sl .int).rd w [v] x) : Calls Try.prog 166 #[v] w (RetI w (digest x)) := by
 obtain ⟨A, c, rfl, hc, hm, hn⟩ := Ty.rd_sl h
 go_enter Try.func166, Try.ntmps166
 go_wp2
 go_loopw [3, 4] (fun d i wr => ∃ k : Nat, k ≤ x.length ∧ i = .int .i64 k ∧ d = .int .i64 (digest (x.take k)) ∧ Below w.heap.size w wr) (fun _ i _ => x.length - (intOf i).toNat)
 case atStart => exact ⟨0, by omega, rfl, rfl, Below.refl _ _⟩
 case round =>
  obtain ⟨k, hk, rfl, rfl, hb⟩ := hrel
  by_cases hlt : k < x.length
  ·obtain ⟨b, o, rfl, e0, n0⟩ := Ty.rd_int_at (Ty.rd_below hb h) hlt
   have HD := Lib.hid (digest_take x hlt)
   have hd := digest_le (x.take k)
   have hm1 := modP_le x[k]
   generalize digest (x.take k) = D at HD hd ⊢
   go_wp2_with fail
   refine (C_spec_ModP _ _ n0).mono ?_
   rintro e w1 ⟨rfl, rfl⟩
   generalize modP x[k] = M at HD hm1 ⊢
   go_wp2
   go_roundw
   case rel => exact ⟨k + 1, by omega, by go_num, by rw [HD.out, Int.tmod_eq_emod_of_nonneg b_34], hb⟩
   case measure => simp [intOf]; omega
  ·have HE : Hid (digest (x.take k) = digest x) := by rw [List.take_of_length_le b_34]; exact rfl
   go_wp2
   go_ret
   exact ⟨ret_int HE.out, hb⟩
set_option maxHeartbeats 1000000 in
theorem C_spec_BytesToInts (w : World) (v : Value) (x : List UInt8) (h : (Ty.sl .byte).rd w [v] x) (hx : x.length ≤ 1099511627776) : Calls Try.prog 136 #[v] w (RetRow flatI w 3 (bti x)) := by
 obtain ⟨A, c, rfl, hc, hm, hn⟩ := Ty.rd_sl h
 go_enter Try.func136, Try.ntmps136
 go_wp2
 go_loopw [3, 4] (fun l i wr => ∃ k : Nat, k ≤ x.length ∧ i = .int .i64 k ∧ Row flatI wr w.heap.size 3 l (pre x.length (x.take k)) ∧ Below w.heap.size w wr) (fun _ i _ => x.length - (intOf i).toNat)
 case atStart => exact ⟨0, by omega, rfl, Row.lit1 flatI w 3 (x.length : Int) (okI b_34 b_34) (Nat.le_refl _), b_6⟩
 case round =>
  obtain ⟨k, hk, rfl, hr, hb⟩ := hrel
  by_cases hlt : k < x.length
  ·obtain ⟨b, o, rfl, e0⟩ := Ty.rd_byte_at (Ty.rd_below hb h) hlt
   have HP := Lib.hid (pre_take x.length x hlt)
   have hu := UInt8.toNat_lt x[k]
   have hsz := hb.size
   have HR := Lib.hid hr
   clear hr
   have HL := Lib.hid (show (pre x.length (x.take k)).length = k + 1 from by rw [pre_len, List.length_take]; omega)
   have hw8 : wrap64 (x[k].toNat : Int) = (x[k].toNat : Int) := by unfold wrap64; omega
   set_option maxRecDepth 100000 in go_wp2_with (at_builtin; go_loud (refine wpList_append_row rfl _ _ 92 rfl flatI w.heap.size 3 infoI rfl Try.underlying92 _ _ _ [(x[k].toNat : Int)] rfl rfl (HR.out.below b_6) ((Row.lit1 flatI wr 3 (x[k].toNat : Int) (okI b_34 b_34) (Nat.le_refl _)).rd b_27) ?_ ?_ ?_ ?_))
   case refine_1 => simp only [List.length_cons, List.length_nil, HL.out]; omega
   case refine_2 => simp only [List.length_cons, List.length_nil, HL.out]; unfold maxLen; omega
   case refine_3 => simp only [World.size_alloc]; omega
   case refine_4 =>
    intro v' w' hr' hg'
    have hb' : Below w.heap.size w w' := bel_grown (bel_alloc hb _) b_27 hg' (fun g hg => (HR.out.block g hg).1)
    have HR' := Lib.hid hr'
    clear hr'
    go_wp2
    go_roundw
    case rel => exact ⟨k + 1, by omega, by go_num, by rw [HP.out]; exact HR'.out, hb'⟩
    case measure => simp [intOf]; omega
  ·have HE : Hid (pre x.length (x.take k) = bti x) := by rw [List.take_of_length_le b_34]; exact rfl
   go_wp2
   go_ret
   exact ⟨_, rfl, by rw [← HE.out]; exact hr, hb⟩
end Go.Proofs.Ytldgbnlcnlfmeaa
namespace Go.Proofs.Ytldgbnlcnlfmeaa
open Go.RowKit
set_option linter.unusedVariables false
set_option linter.unusedSimpArgs false
set_option maxHeartbeats 1000000 in
theorem C_slices_Clone_byte (w : World) (v : Value) (x : List UInt8) (h : (Ty.sl .byte).rd w [v] x) (hx : x.length ≤ 1099511627776) : Calls Try.prog 157 #[v] w (RetRow flatB w 5 x) := by
 obtain ⟨A, c, rfl, hc, hm, hn⟩ := Ty.rd_sl h
 cases A with
 | none =>
  obtain ⟨rfl, rfl⟩ := Ty.rd_nil h
  show Calls Try.prog 157 #[.slice none 0 0] w _
  clear h hx hc hm hn
  have q22 : ∀ (w : World) (a : Option Addr) (n c n' c' : Nat), (binOp .eql 22 (.slice a n c) (.slice none n' c')).run Try.prog w = .ok (.bool a.isNone) w := fun w a n c n' c' => Lib.run_eql_slice_nil w _ _ a n c n' c' Try.underlying22
  go_enter Try.func157, Try.ntmps157
  go_wp2
  go_ret
  exact ⟨_, rfl, Row.nil _ _ _ _, Below.refl _ _⟩
 | some a =>
  have q22 : ∀ (w : World) (a : Option Addr) (n c n' c' : Nat), (binOp .eql 22 (.slice a n c) (.slice none n' c')).run Try.prog w = .ok (.bool a.isNone) w := fun w a n c n' c' => Lib.run_eql_slice_nil w _ _ a n c n' c' Try.underlying22
  go_enter Try.func157, Try.ntmps157
  set_option maxRecDepth 100000 in go_wp2_with (at_builtin; go_loud (refine wpList_append_row rfl _ _ 22 rfl flatB w.heap.size 5 infoB rfl Try.underlying22 _ _ [] x rfl rfl (Row.lit0 flatB w 5 (Nat.le_refl _)) (Ty.rd_below b_6 h) ?_ ?_ ?_ ?_))
  case refine_1 => simp only [List.length_nil]; omega
  case refine_2 => simp only [List.length_nil]; unfold maxLen; omega
  case refine_3 => simp only [World.size_alloc]; omega
  case refine_4 =>
   intro v' w' hr' hg'
   have hb' : Below w.heap.size w w' := bel_grown b_6 b_27 hg' (fun g hg => by simp [Value.ownBlock] at hg; omega)
   have HR' := Lib.hid hr'
   clear hr'
   go_wp2
   go_ret
   exact ⟨_, rfl, HR'.out, hb'⟩
def hiByte (k : Nat) : UInt8 := UInt8.ofNat (k % 128 + 128)
theorem hiByte_nat (k : Nat) : ((hiByte k).toNat : Int) = ((k % 128 + 128 : Nat) : Int) := by unfold hiByte; rw [UInt8.toNat_ofNat']; omega
def varint (n : Nat) : List UInt8 := if h : n < 128 then [UInt8.ofNat n] else hiByte n :: varint (n / 128)
termination_by n
decreasing_by omega
theorem varint_len (n : Nat) : (varint n).length ≤ n + 1 := by
 induction n using Nat.strongRecOn with
 | _ n ih =>
  rw [varint]
  by_cases h : n < 128
  ·simp [h]
  ·simp only [h, dif_neg, not_false_eq_true, List.length_cons]
   have := ih (n / 128) b_34
   omega
def f_AppendVarint (b : List UInt8) (n : Int) : List UInt8 := if 0 ≤ n ∧ n ≤ 1000000000000 then b ++ varint n.toNat else b
theorem or128s (k : Nat) : bits BinOp.or IntKind.i64 (bits BinOp.and IntKind.i64 (k : Int) 127) 128 % 256 = ((k % 128 + 128 : Nat) : Int) := by
 have h : ∀ r : Fin 128, bits BinOp.or IntKind.i64 ((r.val : Nat) : Int) 128 % 256 = ((r.val + 128 : Nat) : Int) := by decide +kernel
 have h2 := h ⟨k % 128, Nat.mod_lt _ b_33⟩
 simp only at h2
 rw [i64_and127, show (k : Int) % 128 = ((k % 128 : Nat) : Int) from rfl, h2]
set_option maxHeartbeats 1000000 in
theorem C_spec_AppendVarint (w : World) (v : Value) (b : List UInt8) (n : Int) (h : (Ty.sl .byte).rd w [v] b) (hx : b.length ≤ 1099511627776) (hi : -9223372036854775808 ≤ n ∧ n ≤ 9223372036854775807) :
  Calls Try.prog 165 #[v, .int .i64 n] w (RetRow flatB w 5 (f_AppendVarint b n)) := by
 go_enter Try.func165, Try.ntmps165
 set_option maxRecDepth 100000 in go_wp2_with (at_builtin; go_loud (refine wpList_append_row rfl _ _ 22 rfl flatB w.heap.size 5 infoB rfl Try.underlying22 _ _ [] b rfl rfl (Row.lit0 flatB w 5 (Nat.le_refl _)) (Ty.rd_below b_6 h) ?_ ?_ ?_ ?_))
 case refine_1 => simp only [List.length_nil]; omega
 case refine_2 => simp only [List.length_nil]; unfold maxLen; omega
 case refine_3 => simp only [World.size_alloc]; omega
 intro v1 w1 hr1 hg1
 have hb1 : Below w.heap.size w w1 := bel_grown b_6 b_27 hg1 (fun g hg => by simp [Value.ownBlock] at hg; omega)
 go_wp2_with fail
 refine (C_spec_l1In _ _ _ _).mono ?_
 rintro e w2 ⟨rfl, rfl⟩
 cases hq : inR n 0 1000000000000
 ·have HQ := Lib.hid hq
  have HR := Lib.hid hr1
  clear hq hr1
  go_wp2
  go_ret
  exact ⟨_, rfl, by unfold f_AppendVarint; rw [if_neg (by have := HQ.out; unfold inR at this; simp at this; omega)]; exact HR.out, hb1⟩
 ·obtain ⟨m, rfl, hm⟩ : ∃ m : Nat, n = m ∧ m ≤ 1000000000000 := ⟨n.toNat, by unfold inR at hq; simp at hq; omega, by unfold inR at hq; simp at hq; omega⟩
  have HR := Lib.hid hr1
  clear hr1
  go_wp2
  go_loopw [1, 5] (fun q l wr => ∃ (k : Nat) (d : List UInt8), k ≤ 1000000000000 ∧ q = .int .i64 k ∧ Row flatB wr w.heap.size 5 l (b ++ d) ∧ d ++ varint k = varint m ∧ Below w.heap.size w wr) (fun q _ _ => (intOf q).toNat)
  case atStart => exact ⟨m, [], hm, rfl, by rw [List.append_nil]; exact HR.out, rfl, hb1⟩
  case round =>
   obtain ⟨k, d, hk, rfl, hr, hd, hb⟩ := hrel
   have hdl := Lib.hid (congrArg List.length hd)
   have HD := Lib.hid hd
   clear hd
   have HR := Lib.hid hr
   clear hr
   by_cases hlt : k < 128
   ·have hkc : (k : Int) < 128 := by omega
    have hv : varint k = [UInt8.ofNat k] := by rw [varint, dif_pos hlt]
    have hu8 : ((UInt8.ofNat k).toNat : Int) = k := by rw [UInt8.toNat_ofNat']; omega
    have HV := Lib.hid hv
    clear hv
    have hlb : d.length + 1 ≤ m + 1 := by have h1 := hdl.out; rw [HV.out, List.length_append] at h1; have := varint_len m; simp at h1; omega
    have hb1 : Row flatB (wr.alloc (.cells #[.int .u8 (k : Int)] 5)) wr.heap.size 5 (.slice (some ⟨wr.heap.size, 0, none⟩) 1 1) [UInt8.ofNat k] := by
     have := Row.lit1 flatB wr 5 (UInt8.ofNat k) trivial (Nat.le_refl _)
     rwa [show flatB.enc (UInt8.ofNat k) = .int .u8 (k : Int) from congrArg (Value.int .u8) hu8] at this
    have HB := Lib.hid hb1
    clear hb1
    have hsz := hb.size
    clear hu8
    set_option maxRecDepth 100000 in go_wp2_with (at_builtin; go_loud (refine wpList_append_row rfl _ _ 22 rfl flatB w.heap.size 5 infoB rfl Try.underlying22 _ _ (b ++ d) [UInt8.ofNat k] rfl rfl (HR.out.below b_6) (HB.out.rd b_27) ?_ ?_ ?_ ?_))
    case refine_1 => simp only [List.length_append, List.length_cons, List.length_nil]; omega
    case refine_2 => simp only [List.length_append, List.length_cons, List.length_nil]; unfold maxLen; omega
    case refine_3 => simp only [World.size_alloc]; omega
    case refine_4 =>
     intro v' w' hr' hg'
     have hb' : Below w.heap.size w w' := bel_grown (bel_alloc hb _) b_27 hg' (fun g hg => (HR.out.block g hg).1)
     have HR' := Lib.hid hr'
     clear hr'
     go_wp2
     go_ret
     exact ⟨_, rfl, by unfold f_AppendVarint; rw [if_pos b_34, show ((m : Int)).toNat = m from rfl, ← HD.out, HV.out]; exact HR'.out, hb'⟩
   ·have hkc : (128 : Int) ≤ k := by omega
    have hv : varint k = hiByte k :: varint (k / 128) := by rw [varint, dif_neg hlt]
    have hu8 := hiByte_nat k
    have HV := Lib.hid hv
    clear hv
    have hlb : d.length + 1 ≤ m + 1 := by have h1 := hdl.out; rw [HV.out, List.length_append] at h1; have := varint_len m; simp at h1; omega
    have hb1 : Row flatB (wr.alloc (.cells #[.int .u8 (bits BinOp.or IntKind.i64 (bits BinOp.and IntKind.i64 (k : Int) 127) 128 % 256)] 5)) wr.heap.size 5 (.slice (some ⟨wr.heap.size, 0, none⟩) 1 1) [hiByte k] := by
     have := Row.lit1 flatB wr 5 (hiByte k) trivial (Nat.le_refl _)
     rwa [show flatB.enc (hiByte k) = .int .u8 (bits BinOp.or IntKind.i64 (bits BinOp.and IntKind.i64 (k : Int) 127) 128 % 256) from congrArg (Value.int .u8) (hu8.trans (or128s k).symm)] at this
    have HB := Lib.hid hb1
    clear hb1
    have hsz := hb.size
    clear hu8
    set_option maxRecDepth 100000 in go_wp2_with (at_builtin; go_loud (refine wpList_append_row rfl _ _ 22 rfl flatB w.heap.size 5 infoB rfl Try.underlying22 _ _ (b ++ d) [hiByte k] rfl rfl (HR.out.below b_6) (HB.out.rd b_27) ?_ ?_ ?_ ?_))
    case refine_1 => simp only [List.length_append, List.length_cons, List.length_nil]; omega
    case refine_2 => simp only [List.length_append, List.length_cons, List.length_nil]; unfold maxLen; omega
    case refine_3 => simp only [World.size_alloc]; omega
    case refine_4 =>
     intro v' w' hr' hg'
     have hb' : Below w.heap.size w w' := bel_grown (bel_alloc hb _) b_27 hg' (fun g hg => (HR.out.block g hg).1)
     have HR' := Lib.hid hr'
     clear hr'
     go_wp2
     exact ⟨⟨k / 128, d ++ [hiByte k], by omega, by first | rfl | go_num, by exact HR'.out, by rw [List.append_assoc, ← HD.out, HV.out]; rfl, hb'⟩, by simp [intOf]; omega⟩
theorem viaP {p q : Prop} (h : p) (k : p → q) : q := k h
theorem opN {l : List Oper} {i : Nat} {x : Oper} (h : (l.drop i).head? = some x) : l.toArray[i]? = some x := by
 rw [List.head?_drop] at h
 simpa using h
section
variable {P : Program} {ops : Array Oper} {Q : Exit → Act → World → Prop} {S : World → Prop}
theorem tk (i : Nat) {oi : Oper} {v : Value} {fuel : Nat} {listed : Array Bool} {a : Act} {w : World} (hi : ops[i]? = some oi)
  (hb : (Region.noSelect ops && (Region.free .any ops listed i && (Region.ready .any ops listed).contains i)) = true)
  (hw : Region.wanted oi (yielded ops a.tmps) = true) (hv : ∀ w, S w → (execOp a.eval oi).run P w = .ok (.value v) w) (hS : S w)
  (h : wpAnyH P .any ops (NoPanic Q) S fuel (listed.setIfInBounds i true) (a.put oi.dst v) w) : wpAnyH P .any ops (NoPanic Q) S (fuel + 1) listed a w := by
 simp only [Bool.and_eq_true] at hb
 exact wpAnyH_take hi hb.1 hb.2.1 hb.2.2 (fun _ _ _ h => h) (Or.inl ⟨hw, hv⟩) hS h
theorem sk (i : Nat) {oi : Oper} {fuel : Nat} {listed : Array Bool} {a : Act} {w : World} (hi : ops[i]? = some oi)
  (hb : (Region.noSelect ops && (Region.free .any ops listed i && (Region.ready .any ops listed).contains i)) = true)
  (hw : Region.wanted oi (yielded ops a.tmps) = false) (hS : S w)
  (h : wpAnyH P .any ops (NoPanic Q) S fuel (listed.setIfInBounds i true) (a.put oi.dst undef) w) : wpAnyH P .any ops (NoPanic Q) S (fuel + 1) listed a w := by
 simp only [Bool.and_eq_true] at hb
 exact wpAnyH_take hi hb.1 hb.2.1 hb.2.2 (fun _ _ _ h => h) (Or.inr ⟨hw, rfl⟩) hS h
end
theorem layz : (∀ (a : Act) (d : Tmp) (v : Value), a.put (some d) v = { a with tmps := a.tmps.setIfInBounds d v }) ∧ (∀ (a : Act) (v : Value), a.put none v = a) ∧ (∀ {α : Type} (l : List α) (i : Nat) (x : α), l.toArray.setIfInBounds i x = (l.set i x).toArray) ∧ (∀ {α : Type} (x y : α) (l : List α), (x :: l).set 0 y = y :: l) ∧ (∀ {α : Type} (x y : α) (n : Nat) (l : List α), (x :: l).set (n + 1) y = x :: l.set n y) :=
 ⟨fun _ _ _ => rfl, fun _ _ => rfl, fun _ _ _ => List.setIfInBounds_toArray .., fun _ _ _ => rfl, fun _ _ _ _ => rfl⟩
section
variable {P : Program} {ops : Array Oper} {Q : Exit → Act → World → Prop} {S : World → Prop} {fuel : Nat} {listed : Array Bool} {a : Act} {w : World}
theorem tkz (i : Nat) {oi : Oper} {v : Value} (h : wpAnyH P .any ops (NoPanic Q) S fuel (listed.setIfInBounds i true) (a.put oi.dst v) w)
  (hi : ops[i]? = some oi := by exact opN rfl)
  (hb : (Region.noSelect ops && (Region.free .any ops listed i && (Region.ready .any ops listed).contains i)) = true := by kernel_rfl)
  (hw : Region.wanted oi (yielded ops a.tmps) = true := by rfl)
  (hv : ∀ w, S w → (execOp a.eval oi).run P w = .ok (.value v) w := by (intro w hSw; (try dsimp only at hSw); go_simp; first | done | with_reducible rfl))
  (hS : S w := by assumption) : wpAnyH P .any ops (NoPanic Q) S (fuel + 1) listed a w := tk i hi hb hw hv hS h
theorem skz (i : Nat) {oi : Oper} (h : wpAnyH P .any ops (NoPanic Q) S fuel (listed.setIfInBounds i true) (a.put oi.dst undef) w)
  (hi : ops[i]? = some oi := by exact opN rfl)
  (hb : (Region.noSelect ops && (Region.free .any ops listed i && (Region.ready .any ops listed).contains i)) = true := by kernel_rfl)
  (hw : Region.wanted oi (yielded ops a.tmps) = false := by rfl)
  (hS : S w := by assumption) : wpAnyH P .any ops (NoPanic Q) S (fuel + 1) listed a w := sk i hi hb hw hS h
theorem rz1 (i : Nat) {oi : Oper} (hi : ∀ K : Act → World → Prop, Shut (∀ a w, S w → (S w → wpAnyH P .any ops (NoPanic Q) S fuel (listed.setIfInBounds i true) a w) → K a w) → if Region.wanted oi (yielded ops a.tmps) = true then Oper.wp P oi a w K (NoPanic Q) else K (a.put oi.dst undef) w) (hr : Region.ready .any ops listed = [i] := by kernel_rfl) (gi : ops[i]? = some oi := by exact opN rfl) : wpAnyH P .any ops (NoPanic Q) S (fuel + 1) listed a w := wpAnyH_ready hr (by simp) (AllReadyH.cons gi hi AllReadyH.nil)
theorem rz2 (i j : Nat) {oi oj : Oper} (hi : ∀ K : Act → World → Prop, Shut (∀ a w, S w → (S w → wpAnyH P .any ops (NoPanic Q) S fuel (listed.setIfInBounds i true) a w) → K a w) → if Region.wanted oi (yielded ops a.tmps) = true then Oper.wp P oi a w K (NoPanic Q) else K (a.put oi.dst undef) w) (hj : ∀ K : Act → World → Prop, Shut (∀ a w, S w → (S w → wpAnyH P .any ops (NoPanic Q) S fuel (listed.setIfInBounds j true) a w) → K a w) → if Region.wanted oj (yielded ops a.tmps) = true then Oper.wp P oj a w K (NoPanic Q) else K (a.put oj.dst undef) w) (hr : Region.ready .any ops listed = [i, j] := by kernel_rfl) (gi : ops[i]? = some oi := by exact opN rfl) (gj : ops[j]? = some oj := by exact opN rfl) : wpAnyH P .any ops (NoPanic Q) S (fuel + 1) listed a w := wpAnyH_ready hr (by simp) (AllReadyH.cons gi hi (AllReadyH.cons gj hj AllReadyH.nil))
theorem rz3 (i j k : Nat) {oi oj ok : Oper} (hi : ∀ K : Act → World → Prop, Shut (∀ a w, S w → (S w → wpAnyH P .any ops (NoPanic Q) S fuel (listed.setIfInBounds i true) a w) → K a w) → if Region.wanted oi (yielded ops a.tmps) = true then Oper.wp P oi a w K (NoPanic Q) else K (a.put oi.dst undef) w) (hj : ∀ K : Act → World → Prop, Shut (∀ a w, S w → (S w → wpAnyH P .any ops (NoPanic Q) S fuel (listed.setIfInBounds j true) a w) → K a w) → if Region.wanted oj (yielded ops a.tmps) = true then Oper.wp P oj a w K (NoPanic Q) else K (a.put oj.dst undef) w) (hk : ∀ K : Act → World → Prop, Shut (∀ a w, S w → (S w → wpAnyH P .any ops (NoPanic Q) S fuel (listed.setIfInBounds k true) a w) → K a w) → if Region.wanted ok (yielded ops a.tmps) = true then Oper.wp P ok a w K (NoPanic Q) else K (a.put ok.dst undef) w) (hr : Region.ready .any ops listed = [i, j, k] := by kernel_rfl) (gi : ops[i]? = some oi := by exact opN rfl) (gj : ops[j]? = some oj := by exact opN rfl) (gk : ops[k]? = some ok := by exact opN rfl) : wpAnyH P .any ops (NoPanic Q) S (fuel + 1) listed a w := wpAnyH_ready hr (by simp) (AllReadyH.cons gi hi (AllReadyH.cons gj hj (AllReadyH.cons gk hk AllReadyH.nil)))
theorem rz4 (i j k l : Nat) {oi oj ok ol : Oper} (hi : ∀ K : Act → World → Prop, Shut (∀ a w, S w → (S w → wpAnyH P .any ops (NoPanic Q) S fuel (listed.setIfInBounds i true) a w) → K a w) → if Region.wanted oi (yielded ops a.tmps) = true then Oper.wp P oi a w K (NoPanic Q) else K (a.put oi.dst undef) w) (hj : ∀ K : Act → World → Prop, Shut (∀ a w, S w → (S w → wpAnyH P .any ops (NoPanic Q) S fuel (listed.setIfInBounds j true) a w) → K a w) → if Region.wanted oj (yielded ops a.tmps) = true then Oper.wp P oj a w K (NoPanic Q) else K (a.put oj.dst undef) w) (hk : ∀ K : Act → World → Prop, Shut (∀ a w, S w → (S w → wpAnyH P .any ops (NoPanic Q) S fuel (listed.setIfInBounds k true) a w) → K a w) → if Region.wanted ok (yielded ops a.tmps) = true then Oper.wp P ok a w K (NoPanic Q) else K (a.put ok.dst undef) w) (hl : ∀ K : Act → World → Prop, Shut (∀ a w, S w → (S w → wpAnyH P .any ops (NoPanic Q) S fuel (listed.setIfInBounds l true) a w) → K a w) → if Region.wanted ol (yielded ops a.tmps) = true then Oper.wp P ol a w K (NoPanic Q) else K (a.put ol.dst undef) w) (hr : Region.ready .any ops listed = [i, j, k, l] := by kernel_rfl) (gi : ops[i]? = some oi := by exact opN rfl) (gj : ops[j]? = some oj := by exact opN rfl) (gk : ops[k]? = some ok := by exact opN rfl) (gl : ops[l]? = some ol := by exact opN rfl) : wpAnyH P .any ops (NoPanic Q) S (fuel + 1) listed a w := wpAnyH_ready hr (by simp) (AllReadyH.cons gi hi (AllReadyH.cons gj hj (AllReadyH.cons gk hk (AllReadyH.cons gl hl AllReadyH.nil))))
theorem rz5 (i j k l m : Nat) {oi oj ok ol om : Oper} (hi : ∀ K : Act → World → Prop, Shut (∀ a w, S w → (S w → wpAnyH P .any ops (NoPanic Q) S fuel (listed.setIfInBounds i true) a w) → K a w) → if Region.wanted oi (yielded ops a.tmps) = true then Oper.wp P oi a w K (NoPanic Q) else K (a.put oi.dst undef) w) (hj : ∀ K : Act → World → Prop, Shut (∀ a w, S w → (S w → wpAnyH P .any ops (NoPanic Q) S fuel (listed.setIfInBounds j true) a w) → K a w) → if Region.wanted oj (yielded ops a.tmps) = true then Oper.wp P oj a w K (NoPanic Q) else K (a.put oj.dst undef) w) (hk : ∀ K : Act → World → Prop, Shut (∀ a w, S w → (S w → wpAnyH P .any ops (NoPanic Q) S fuel (listed.setIfInBounds k true) a w) → K a w) → if Region.wanted ok (yielded ops a.tmps) = true then Oper.wp P ok a w K (NoPanic Q) else K (a.put ok.dst undef) w) (hl : ∀ K : Act → World → Prop, Shut (∀ a w, S w → (S w → wpAnyH P .any ops (NoPanic Q) S fuel (listed.setIfInBounds l true) a w) → K a w) → if Region.wanted ol (yielded ops a.tmps) = true then Oper.wp P ol a w K (NoPanic Q) else K (a.put ol.dst undef) w) (hm : ∀ K : Act → World → Prop, Shut (∀ a w, S w → (S w → wpAnyH P .any ops (NoPanic Q) S fuel (listed.setIfInBounds m true) a w) → K a w) → if Region.wanted om (yielded ops a.tmps) = true then Oper.wp P om a w K (NoPanic Q) else K (a.put om.dst undef) w) (hr : Region.ready .any ops listed = [i, j, k, l, m] := by kernel_rfl) (gi : ops[i]? = some oi := by exact opN rfl) (gj : ops[j]? = some oj := by exact opN rfl) (gk : ops[k]? = some ok := by exact opN rfl) (gl : ops[l]? = some ol := by exact opN rfl) (gm : ops[m]? = some om := by exact opN rfl) : wpAnyH P .any ops (NoPanic Q) S (fuel + 1) listed a w := wpAnyH_ready hr (by simp) (AllReadyH.cons gi hi (AllReadyH.cons gj hj (AllReadyH.cons gk hk (AllReadyH.cons gl hl (AllReadyH.cons gm hm AllReadyH.nil)))))
theorem rz6 (i j k l m n : Nat) {oi oj ok ol om on : Oper} (hi : ∀ K : Act → World → Prop, Shut (∀ a w, S w → (S w → wpAnyH P .any ops (NoPanic Q) S fuel (listed.setIfInBounds i true) a w) → K a w) → if Region.wanted oi (yielded ops a.tmps) = true then Oper.wp P oi a w K (NoPanic Q) else K (a.put oi.dst undef) w) (hj : ∀ K : Act → World → Prop, Shut (∀ a w, S w → (S w → wpAnyH P .any ops (NoPanic Q) S fuel (listed.setIfInBounds j true) a w) → K a w) → if Region.wanted oj (yielded ops a.tmps) = true then Oper.wp P oj a w K (NoPanic Q) else K (a.put oj.dst undef) w) (hk : ∀ K : Act → World → Prop, Shut (∀ a w, S w → (S w → wpAnyH P .any ops (NoPanic Q) S fuel (listed.setIfInBounds k true) a w) → K a w) → if Region.wanted ok (yielded ops a.tmps) = true then Oper.wp P ok a w K (NoPanic Q) else K (a.put ok.dst undef) w) (hl : ∀ K : Act → World → Prop, Shut (∀ a w, S w → (S w → wpAnyH P .any ops (NoPanic Q) S fuel (listed.setIfInBounds l true) a w) → K a w) → if Region.wanted ol (yielded ops a.tmps) = true then Oper.wp P ol a w K (NoPanic Q) else K (a.put ol.dst undef) w) (hm : ∀ K : Act → World → Prop, Shut (∀ a w, S w → (S w → wpAnyH P .any ops (NoPanic Q) S fuel (listed.setIfInBounds m true) a w) → K a w) → if Region.wanted om (yielded ops a.tmps) = true then Oper.wp P om a w K (NoPanic Q) else K (a.put om.dst undef) w) (hn : ∀ K : Act → World → Prop, Shut (∀ a w, S w → (S w → wpAnyH P .any ops (NoPanic Q) S fuel (listed.setIfInBounds n true) a w) → K a w) → if Region.wanted on (yielded ops a.tmps) = true then Oper.wp P on a w K (NoPanic Q) else K (a.put on.dst undef) w) (hr : Region.ready .any ops listed = [i, j, k, l, m, n] := by kernel_rfl) (gi : ops[i]? = some oi := by exact opN rfl) (gj : ops[j]? = some oj := by exact opN rfl) (gk : ops[k]? = some ok := by exact opN rfl) (gl : ops[l]? = some ol := by exact opN rfl) (gm : ops[m]? = some om := by exact opN rfl) (gn : ops[n]? = some on := by exact opN rfl) : wpAnyH P .any ops (NoPanic Q) S (fuel + 1) listed a w := wpAnyH_ready hr (by simp) (AllReadyH.cons gi hi (AllReadyH.cons gj hj (AllReadyH.cons gk hk (AllReadyH.cons gl hl (AllReadyH.cons gm hm (AllReadyH.cons gn hn AllReadyH.nil))))))
theorem tkz2 (i j : Nat) {oi oj : Oper} {xi xj : Value} (h : wpAnyH P .any ops (NoPanic Q) S fuel ((listed.setIfInBounds i true).setIfInBounds j true) ((a.put oi.dst xi).put oj.dst xj) w) (hi : ops[i]? = some oi := by exact opN rfl) (bi : (Region.noSelect ops && (Region.free .any ops listed i && (Region.ready .any ops listed).contains i)) = true := by kernel_rfl) (wi : Region.wanted oi (yielded ops a.tmps) = true := by first | (simp only [layz]; rfl) | rfl) (vi : ∀ w, S w → (execOp a.eval oi).run P w = .ok (.value xi) w := by (intro w hSw; (try simp only [layz]); (try dsimp only at hSw); go_simp; first | done | with_reducible rfl)) (hj : ops[j]? = some oj := by exact opN rfl) (bj : (Region.noSelect ops && (Region.free .any ops (listed.setIfInBounds i true) j && (Region.ready .any ops (listed.setIfInBounds i true)).contains j)) = true := by kernel_rfl) (wj : Region.wanted oj (yielded ops (a.put oi.dst xi).tmps) = true := by first | (simp only [layz]; rfl) | rfl) (vj : ∀ w, S w → (execOp (a.put oi.dst xi).eval oj).run P w = .ok (.value xj) w := by (intro w hSw; (try simp only [layz]); (try dsimp only at hSw); go_simp; first | done | with_reducible rfl)) (hS : S w := by assumption) : wpAnyH P .any ops (NoPanic Q) S (fuel + 1 + 1) listed a w := (tk i hi bi wi vi hS (tk j hj bj wj vj hS h))
theorem tkz3 (i j k : Nat) {oi oj ok : Oper} {xi xj xk : Value} (h : wpAnyH P .any ops (NoPanic Q) S fuel (((listed.setIfInBounds i true).setIfInBounds j true).setIfInBounds k true) (((a.put oi.dst xi).put oj.dst xj).put ok.dst xk) w) (hi : ops[i]? = some oi := by exact opN rfl) (bi : (Region.noSelect ops && (Region.free .any ops listed i && (Region.ready .any ops listed).contains i)) = true := by kernel_rfl) (wi : Region.wanted oi (yielded ops a.tmps) = true := by first | (simp only [layz]; rfl) | rfl) (vi : ∀ w, S w → (execOp a.eval oi).run P w = .ok (.value xi) w := by (intro w hSw; (try simp only [layz]); (try dsimp only at hSw); go_simp; first | done | with_reducible rfl)) (hj : ops[j]? = some oj := by exact opN rfl) (bj : (Region.noSelect ops && (Region.free .any ops (listed.setIfInBounds i true) j && (Region.ready .any ops (listed.setIfInBounds i true)).contains j)) = true := by kernel_rfl) (wj : Region.wanted oj (yielded ops (a.put oi.dst xi).tmps) = true := by first | (simp only [layz]; rfl) | rfl) (vj : ∀ w, S w → (execOp (a.put oi.dst xi).eval oj).run P w = .ok (.value xj) w := by (intro w hSw; (try simp only [layz]); (try dsimp only at hSw); go_simp; first | done | with_reducible rfl)) (hk : ops[k]? = some ok := by exact opN rfl) (bk : (Region.noSelect ops && (Region.free .any ops ((listed.setIfInBounds i true).setIfInBounds j true) k && (Region.ready .any ops ((listed.setIfInBounds i true).setIfInBounds j true)).contains k)) = true := by kernel_rfl) (wk : Region.wanted ok (yielded ops ((a.put oi.dst xi).put oj.dst xj).tmps) = true := by first | (simp only [layz]; rfl) | rfl) (vk : ∀ w, S w → (execOp ((a.put oi.dst xi).put oj.dst xj).eval ok).run P w = .ok (.value xk) w := by (intro w hSw; (try simp only [layz]); (try dsimp only at hSw); go_simp; first | done | with_reducible rfl)) (hS : S w := by assumption) : wpAnyH P .any ops (NoPanic Q) S (fuel + 1 + 1 + 1) listed a w := (tk i hi bi wi vi hS (tk j hj bj wj vj hS (tk k hk bk wk vk hS h)))
theorem tkz4 (i j k l : Nat) {oi oj ok ol : Oper} {xi xj xk xl : Value} (h : wpAnyH P .any ops (NoPanic Q) S fuel ((((listed.setIfInBounds i true).setIfInBounds j true).setIfInBounds k true).setIfInBounds l true) ((((a.put oi.dst xi).put oj.dst xj).put ok.dst xk).put ol.dst xl) w) (hi : ops[i]? = some oi := by exact opN rfl) (bi : (Region.noSelect ops && (Region.free .any ops listed i && (Region.ready .any ops listed).contains i)) = true := by kernel_rfl) (wi : Region.wanted oi (yielded ops a.tmps) = true := by first | (simp only [layz]; rfl) | rfl) (vi : ∀ w, S w → (execOp a.eval oi).run P w = .ok (.value xi) w := by (intro w hSw; (try simp only [layz]); (try dsimp only at hSw); go_simp; first | done | with_reducible rfl)) (hj : ops[j]? = some oj := by exact opN rfl) (bj : (Region.noSelect ops && (Region.free .any ops (listed.setIfInBounds i true) j && (Region.ready .any ops (listed.setIfInBounds i true)).contains j)) = true := by kernel_rfl) (wj : Region.wanted oj (yielded ops (a.put oi.dst xi).tmps) = true := by first | (simp only [layz]; rfl) | rfl) (vj : ∀ w, S w → (execOp (a.put oi.dst xi).eval oj).run P w = .ok (.value xj) w := by (intro w hSw; (try simp only [layz]); (try dsimp only at hSw); go_simp; first | done | with_reducible rfl)) (hk : ops[k]? = some ok := by exact opN rfl) (bk : (Region.noSelect ops && (Region.free .any ops ((listed.setIfInBounds i true).setIfInBounds j true) k && (Region.ready .any ops ((listed.setIfInBounds i true).setIfInBounds j true)).contains k)) = true := by kernel_rfl) (wk : Region.wanted ok (yielded ops ((a.put oi.dst xi).put oj.dst xj).tmps) = true := by first | (simp only [layz]; rfl) | rfl) (vk : ∀ w, S w → (execOp ((a.put oi.dst xi).put oj.dst xj).eval ok).run P w = .ok (.value xk) w := by (intro w hSw; (try simp only [layz]); (try dsimp only at hSw); go_simp; first | done | with_reducible rfl)) (hl : ops[l]? = some ol := by exact opN rfl) (bl : (Region.noSelect ops && (Region.free .any ops (((listed.setIfInBounds i true).setIfInBounds j true).setIfInBounds k true) l && (Region.ready .any ops (((listed.setIfInBounds i true).setIfInBounds j true).setIfInBounds k true)).contains l)) = true := by kernel_rfl) (wl : Region.wanted ol (yielded ops (((a.put oi.dst xi).put oj.dst xj).put ok.dst xk).tmps) = true := by first | (simp only [layz]; rfl) | rfl) (vl : ∀ w, S w → (execOp (((a.put oi.dst xi).put oj.dst xj).put ok.dst xk).eval ol).run P w = .ok (.value xl) w := by (intro w hSw; (try simp only [layz]); (try dsimp only at hSw); go_simp; first | done | with_reducible rfl)) (hS : S w := by assumption) : wpAnyH P .any ops (NoPanic Q) S (fuel + 1 + 1 + 1 + 1) listed a w := (tk i hi bi wi vi hS (tk j hj bj wj vj hS (tk k hk bk wk vk hS (tk l hl bl wl vl hS h))))
end
theorem step_append_row {P : Program} {w : World} {ops : Array Oper} {o : Oper} {a : Act} {K : Act → World → Prop} {Q : Exit → Act → World → Prop} {E : Prop} (hgd : o.guard = none) (s xo : Operand) (t : TypeId)
  (ho : o.op = .call { callee := .builtin .append, args := #[s, xo], argTypes := #[t, t] }) {e : Ty} (F : Flat e) (base : Nat) (te : TypeId) {z : Value} {by_ : Nat}
  (hinfo : (P.info? te).map (fun i => (i.zero, i.size, i.bytes)) = some (some z, 1, by_)) (hz1 : z.cells.size = 1) (ht : P.underlying t = some (.slice te))
  (v u : Value) (x y : List e.D) (hs : a.eval s = v) (hx : a.eval xo = u) (hown : Row F w base te v x) (hy : (Ty.sl e).rd w [u] y) (hbytes : (x.length + y.length) * by_ ≤ 140737488355328) (hlen : x.length + y.length ≤ maxLen) (hbase : base ≤ w.heap.size)
  (h : ∀ v' w', Row F w' base te v' (x ++ y) → w.grownBy w' v.ownBlock → K (a.put o.dst v') w') :
  if Region.wanted o (yielded ops a.tmps) = true then Oper.wp P o a w K Q else E := by
 have hw : Region.wanted o (yielded ops a.tmps) = true := by simp [Region.wanted, hgd]
 rw [if_pos hw]
 obtain ⟨v', w', hr, h2, h3⟩ := run_append_row (P := P) F base t o.type te hinfo hz1 ht v u x y hown hy hbytes hlen hbase
 unfold Oper.wp execOp
 simp only [ho, resolve, invoke, builtin, Sem.run_bind, Sem.run_pure, Result.andThen_ok, List.map_toArray, List.map_cons, List.map_nil, hs, hx, hr]
 exact h v' w' h2 h3
end Go.Proofs.Ytldgbnlcnlfmeaa
