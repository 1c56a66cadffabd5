/- Texts of this claim, merged by a program: Kst. -/
import Derived.Test.YtldgbnlcnlfmeaaQcP
import Derived.Test.YtldgbnlcnlfmeaaQc3
import Derived.Test.YtldgbnlcnlfmeaaQc1
import Derived.Deep.QuietTactic
import Derived.BigQuiet
namespace Go.Proofs.Ytldgbnlcnlfmeaa
open Go.RowKit
set_option linter.unusedVariables false
set_option linter.unusedSimpArgs false
def keepE (p : Ty.D tCacheEntry → Bool) (l : List (Ty.D tCacheEntry)) : List (Ty.D tCacheEntry) := l.filter p
def keepSt (p : Ty.D tCacheEntry → Bool) (x : Ty.D tContentStore) : Ty.D tContentStore := (x.1, keepE p x.2)
theorem keepE_yes {p : Ty.D tCacheEntry → Bool} {l : List (Ty.D tCacheEntry)} {k : Nat} (h : k < l.length) (hp : p l[k] = true) : keepE p (l.take (k + 1)) = keepE p (l.take k) ++ [l[k]] := by
 unfold keepE
 rw [List.take_succ_eq_append_getElem h, List.filter_append]
 simp [List.filter_cons, hp]
theorem keepE_no {p : Ty.D tCacheEntry → Bool} {l : List (Ty.D tCacheEntry)} {k : Nat} (h : k < l.length) (hp : p l[k] = false) : keepE p (l.take (k + 1)) = keepE p (l.take k) := by
 unfold keepE
 rw [List.take_succ_eq_append_getElem h, List.filter_append]
 simp [List.filter_cons, hp]
theorem keepE_len (p : Ty.D tCacheEntry → Bool) (l : List (Ty.D tCacheEntry)) {k : Nat} (h : k ≤ l.length) : (keepE p (l.take k)).length ≤ k := by
 have h1 := List.length_filter_le p (l.take k)
 rw [List.length_take] at h1
 unfold keepE; omega
theorem bulk_filter {e : Ty} (p : e.D → Bool) : ∀ (l : List e.D), Ty.bulk (.sl e) (l.filter p) ≤ Ty.bulk (.sl e) l
 | [] => Nat.le_refl _
 | a :: l => by
  have h2 : Ty.bulk (.sl e) (a :: l) = Ty.bulk (.sl e) [a] + Ty.bulk (.sl e) l := bulk_app (e := e) [a] l
  have h3 := bulk_filter p l
  cases hp : p a
  ·rw [List.filter_cons, hp]; simp only [Bool.false_eq_true, if_false]; omega
  ·rw [List.filter_cons, hp]
   have h4 : Ty.bulk (.sl e) (a :: l.filter p) = Ty.bulk (.sl e) [a] + Ty.bulk (.sl e) (l.filter p) := bulk_app (e := e) [a] _
   simp only [if_true]; omega
theorem ow_CacheEntry_mk {w : World} {c0 c1 c2 c3 c4 : Value} {d : Ty.D tCacheEntry} {f : List Nat} (h : Ty.ow w tData [c0, c1, c2, c3, c4] d.1 f) (b : -9223372036854775808 ≤ d.2 ∧ d.2 ≤ 9223372036854775807) :
  Ty.ow w tCacheEntry [c0, c1, c2, c3, c4, .int .i64 d.2] d f := ⟨_, [_], f, [], rfl, (List.append_nil _).symm, h, ⟨rfl, b⟩, rfl⟩
theorem ow_ContentStore_mk {w : World} {x : Ty.D tContentStore} {A : Option Addr} {c : Nat} {f : List Nat} (b : -9223372036854775808 ≤ x.1 ∧ x.1 ≤ 9223372036854775807) (h : (Ty.sl tCacheEntry).ow w [.slice A (List.length x.2) c] x.2 f) :
  Ty.ow w tContentStore [.int .i64 x.1, .slice A (List.length x.2) c] x f := ⟨[_], [_], [], f, rfl, rfl, ⟨⟨rfl, b⟩, rfl⟩, h⟩
def RetStore (w : World) (te : TypeId) (x : Ty.D tContentStore) (e : Ending) (w' : World) : Prop :=
 ∃ v, e = .returned (.agg #[.int .i64 x.1, v]) ∧ DRow tCacheEntry w' w.heap.size te v x.2 ∧ Below w.heap.size w w'
theorem RetStore.agg {w : World} {te : TypeId} {x : Ty.D tContentStore} {e : Ending} {w' : World} (b : -9223372036854775808 ≤ x.1 ∧ x.1 ≤ 9223372036854775807) (h : RetStore w te x e w') : RetAgg w tContentStore x e w' := by
 obtain ⟨v, rfl, hr, hb⟩ := h
 obtain ⟨A, c, fp, rfl, how, hfr⟩ := hr.own
 exact ⟨_, fp, rfl, ow_ContentStore_mk b how, hfr, hb⟩
theorem store_i0 {w : World} {cs : List Value} {x : Ty.D tContentStore} (h : Ty.rd w tContentStore cs x) : -9223372036854775808 ≤ x.1 ∧ x.1 ≤ 9223372036854775807 := by
 obtain ⟨_, _, _, h0, _⟩ := rd_ContentStore h
 exact h0
def pAll : Ty.D tCacheEntry → Bool := fun _ => true
def pFresh (now : Int) (e : Ty.D tCacheEntry) : Bool := f_FreshAt e.1 now
set_option maxRecDepth 100000 in
set_option maxHeartbeats 4000000 in
theorem C_impl_keepStoreR (w : World) (cs : List Value) (x : Ty.D tContentStore) (p : Ty.D tCacheEntry → Bool) (g : Nat) (lb : Array Value) (eg : ∀ args w, (callFunc g args).run Try.prog w = .ok (.enter g args) w) (h : Ty.rd w tContentStore cs x) (s0 : Ty.bulk tContentStore x ≤ 1048576) (hp : ∀ (W : World) (ds : List Value) (d : Ty.D tCacheEntry), d ∈ x.2 → Ty.rd W tCacheEntry ds d → Below w.heap.size w W → Calls Try.prog g (#[.agg ds.toArray] ++ lb) W (RetB W (p d))) :
  Calls Try.prog 94 #[.agg cs.toArray, .func (.func g) #[] lb] w (RetStore w 127 (keepSt p x)) := by
 obtain ⟨Ax1, cx1, rfl, xg0, xg1⟩ := rd_ContentStore h
 have s0e := store_bulk' s0
 have hxl := Ty.bulk_len s0e
 obtain ⟨_, _, _, _, _, m9⟩ := Ty.rd_sl xg1
 have HP := Lib.hid hp
 clear hp
 have hB0 : Blk (((w.alloc (.cells #[.int .i64 x.1, .slice Ax1 (List.length x.2) cx1] 55)).alloc (.cells #[.int .i64 0, .slice none 0 0] 55)).alloc (.cells #[.int .i64 x.1, .slice none 0 0] 55)) w.heap.size 55 #[.int .i64 x.1, .slice Ax1 (List.length x.2) cx1] := ((Blk.new w _ _).alloc _).alloc _
 have hR0 : Blk (((w.alloc (.cells #[.int .i64 x.1, .slice Ax1 (List.length x.2) cx1] 55)).alloc (.cells #[.int .i64 0, .slice none 0 0] 55)).alloc (.cells #[.int .i64 x.1, .slice none 0 0] 55)) (w.heap.size + 1) 55 #[.int .i64 0, .slice none 0 0] := Blk.alloc (by have := Blk.new (w.alloc (.cells #[.int .i64 x.1, .slice Ax1 (List.length x.2) cx1] 55)) 55 #[.int .i64 0, .slice none 0 0]; rwa [World.size_alloc] at this) _
 have hO0 : Blk (((w.alloc (.cells #[.int .i64 x.1, .slice Ax1 (List.length x.2) cx1] 55)).alloc (.cells #[.int .i64 0, .slice none 0 0] 55)).alloc (.cells #[.int .i64 x.1, .slice none 0 0] 55)) (w.heap.size + 1 + 1) 55 #[.int .i64 x.1, .slice none 0 0] := b_10
 have hvb : Below w.heap.size w (((w.alloc (.cells #[.int .i64 x.1, .slice Ax1 (List.length x.2) cx1] 55)).alloc (.cells #[.int .i64 0, .slice none 0 0] 55)).alloc (.cells #[.int .i64 x.1, .slice none 0 0] 55)) := b_6
 have zb0 := Lib.hid (show (((w.alloc (.cells #[.int .i64 x.1, .slice Ax1 (List.length x.2) cx1] 55)).alloc (.cells #[.int .i64 0, .slice none 0 0] 55)).alloc (.cells #[.int .i64 x.1, .slice none 0 0] 55)).heap.size = w.heap.size + 1 + 1 + 1 from by simp only [World.size_alloc])
 go_enter Try.func94, Try.ntmps94
 go_wp2
 generalize (((w.alloc (.cells #[.int .i64 x.1, .slice Ax1 (List.length x.2) cx1] 55)).alloc (.cells #[.int .i64 0, .slice none 0 0] 55)).alloc (.cells #[.int .i64 x.1, .slice none 0 0] 55)) = WX at hB0 hR0 hO0 hvb zb0 ⊢
 go_loopw [14] (fun i wr => ∃ (k : Nat) (vo : Value), k ≤ List.length x.2 ∧ i = .int .i64 k ∧ Blk wr w.heap.size 55 #[.int .i64 x.1, .slice Ax1 (List.length x.2) cx1] ∧ Blk wr (w.heap.size + 1) 55 #[.int .i64 0, .slice none 0 0] ∧ Blk wr (w.heap.size + 1 + 1) 55 #[.int .i64 x.1, vo] ∧ DRow tCacheEntry wr (w.heap.size + 1 + 1 + 1) 127 vo (keepE p (x.2.take k)) ∧ Below w.heap.size w wr ∧ w.heap.size + 1 + 1 + 1 ≤ wr.heap.size) (fun i _ => List.length x.2 - (intOf i).toNat)
 case atStart => exact ⟨0, .slice none 0 0, by omega, rfl, hB0, hR0, hO0, DRow.nil _ _ _ _, hvb, by rw [zb0.out]; exact Nat.le_refl _⟩
 case round =>
  obtain ⟨k, vo, hk, rfl, hB, hR, hO, hr, hw, hs⟩ := hrel
  have HR := Lib.hid hr
  clear hr
  have hw' := Lib.hid hw
  by_cases hlt : k < List.length x.2
  ·have HL := Lib.hid (keepE_len p x.2 hk)
   obtain ⟨b, o, dse, rfl, hle, hcelle, hrde⟩ := Ty.rd_at (Ty.rd_below hw xg1) hlt
   have hrde' := hrde
   obtain ⟨Ae00, ce00, Ae01, ce01, Ae02, ce02, rfl, eg0, eg1⟩ := rd_CacheEntry hrde
   have e0 : wr.cell? ⟨b, o + k * 6, none⟩ = some (.slice Ae00 (List.length (x.2)[k].1.1) ce00) := by simpa [Ty.sz] using hcelle 0 b_33
   have e1 : wr.cell? ⟨b, o + k * 6 + 1, none⟩ = some (.slice Ae01 (List.length (x.2)[k].1.2.1) ce01) := by simpa [Ty.sz] using hcelle 1 b_33
   have e2 : wr.cell? ⟨b, o + k * 6 + 2, none⟩ = some (.slice Ae02 (List.length (x.2)[k].1.2.2.1) ce02) := by simpa [Ty.sz] using hcelle 2 b_33
   have e3 : wr.cell? ⟨b, o + k * 6 + 3, none⟩ = some (.int .i64 (x.2)[k].1.2.2.2.1) := by simpa [Ty.sz] using hcelle 3 b_33
   have e4 : wr.cell? ⟨b, o + k * 6 + 4, none⟩ = some (.int .i64 (x.2)[k].1.2.2.2.2) := by simpa [Ty.sz] using hcelle 4 b_33
   have e5 : wr.cell? ⟨b, o + k * 6 + 5, none⟩ = some (.int .i64 (x.2)[k].2) := by simpa [Ty.sz] using hcelle 5 b_33
   clear hcelle hle
   have hbk : Ty.bulk tData (x.2)[k].1 ≤ 1000000000 := Nat.le_trans (entry_bulk' (Ty.bulk_at s0e hlt)) b_33
   have kb0_0 : (wr.alloc (.cells #[.slice Ae00 (List.length (x.2)[k].1.1) ce00, .slice Ae01 (List.length (x.2)[k].1.2.1) ce01, .slice Ae02 (List.length (x.2)[k].1.2.2.1) ce02, .int .i64 (x.2)[k].1.2.2.2.1, .int .i64 (x.2)[k].1.2.2.2.2, .int .i64 (x.2)[k].2] 127)).cell? ⟨wr.heap.size, 0, none⟩ = some (.slice Ae00 (List.length (x.2)[k].1.1) ce00) := (cell_new wr _ _ 0 b_24)
   have kb0_1 : (wr.alloc (.cells #[.slice Ae00 (List.length (x.2)[k].1.1) ce00, .slice Ae01 (List.length (x.2)[k].1.2.1) ce01, .slice Ae02 (List.length (x.2)[k].1.2.2.1) ce02, .int .i64 (x.2)[k].1.2.2.2.1, .int .i64 (x.2)[k].1.2.2.2.2, .int .i64 (x.2)[k].2] 127)).cell? ⟨wr.heap.size, 1, none⟩ = some (.slice Ae01 (List.length (x.2)[k].1.2.1) ce01) := (cell_new wr _ _ 1 b_24)
   have kb0_2 : (wr.alloc (.cells #[.slice Ae00 (List.length (x.2)[k].1.1) ce00, .slice Ae01 (List.length (x.2)[k].1.2.1) ce01, .slice Ae02 (List.length (x.2)[k].1.2.2.1) ce02, .int .i64 (x.2)[k].1.2.2.2.1, .int .i64 (x.2)[k].1.2.2.2.2, .int .i64 (x.2)[k].2] 127)).cell? ⟨wr.heap.size, 2, none⟩ = some (.slice Ae02 (List.length (x.2)[k].1.2.2.1) ce02) := (cell_new wr _ _ 2 b_24)
   have kb0_3 : (wr.alloc (.cells #[.slice Ae00 (List.length (x.2)[k].1.1) ce00, .slice Ae01 (List.length (x.2)[k].1.2.1) ce01, .slice Ae02 (List.length (x.2)[k].1.2.2.1) ce02, .int .i64 (x.2)[k].1.2.2.2.1, .int .i64 (x.2)[k].1.2.2.2.2, .int .i64 (x.2)[k].2] 127)).cell? ⟨wr.heap.size, 3, none⟩ = some (.int .i64 (x.2)[k].1.2.2.2.1) := (cell_new wr _ _ 3 b_24)
   have kb0_4 : (wr.alloc (.cells #[.slice Ae00 (List.length (x.2)[k].1.1) ce00, .slice Ae01 (List.length (x.2)[k].1.2.1) ce01, .slice Ae02 (List.length (x.2)[k].1.2.2.1) ce02, .int .i64 (x.2)[k].1.2.2.2.1, .int .i64 (x.2)[k].1.2.2.2.2, .int .i64 (x.2)[k].2] 127)).cell? ⟨wr.heap.size, 4, none⟩ = some (.int .i64 (x.2)[k].1.2.2.2.2) := (cell_new wr _ _ 4 b_24)
   have kb0_5 : (wr.alloc (.cells #[.slice Ae00 (List.length (x.2)[k].1.1) ce00, .slice Ae01 (List.length (x.2)[k].1.2.1) ce01, .slice Ae02 (List.length (x.2)[k].1.2.2.1) ce02, .int .i64 (x.2)[k].1.2.2.2.1, .int .i64 (x.2)[k].1.2.2.2.2, .int .i64 (x.2)[k].2] 127)).cell? ⟨wr.heap.size, 5, none⟩ = some (.int .i64 (x.2)[k].2) := (cell_new wr _ _ 5 b_24)
   have hwe : Below wr.heap.size wr (wr.alloc (.cells #[.slice Ae00 (List.length (x.2)[k].1.1) ce00, .slice Ae01 (List.length (x.2)[k].1.2.1) ce01, .slice Ae02 (List.length (x.2)[k].1.2.2.1) ce02, .int .i64 (x.2)[k].1.2.2.2.1, .int .i64 (x.2)[k].1.2.2.2.2, .int .i64 (x.2)[k].2] 127)) := b_6
   have ze0 := Lib.hid (show (wr.alloc (.cells #[.slice Ae00 (List.length (x.2)[k].1.1) ce00, .slice Ae01 (List.length (x.2)[k].1.2.1) ce01, .slice Ae02 (List.length (x.2)[k].1.2.2.1) ce02, .int .i64 (x.2)[k].1.2.2.2.1, .int .i64 (x.2)[k].1.2.2.2.2, .int .i64 (x.2)[k].2] 127)).heap.size = wr.heap.size + 1 from by simp only [World.size_alloc])
   have ze : wr.heap.size < (wr.alloc (.cells #[.slice Ae00 (List.length (x.2)[k].1.1) ce00, .slice Ae01 (List.length (x.2)[k].1.2.1) ce01, .slice Ae02 (List.length (x.2)[k].1.2.2.1) ce02, .int .i64 (x.2)[k].1.2.2.2.1, .int .i64 (x.2)[k].1.2.2.2.2, .int .i64 (x.2)[k].2] 127)).heap.size := by simp only [World.size_alloc]; omega
   have hE0 : Blk (wr.alloc (.cells #[.slice Ae00 (List.length (x.2)[k].1.1) ce00, .slice Ae01 (List.length (x.2)[k].1.2.1) ce01, .slice Ae02 (List.length (x.2)[k].1.2.2.1) ce02, .int .i64 (x.2)[k].1.2.2.2.1, .int .i64 (x.2)[k].1.2.2.2.2, .int .i64 (x.2)[k].2] 127)) wr.heap.size 127 #[.slice Ae00 (List.length (x.2)[k].1.1) ce00, .slice Ae01 (List.length (x.2)[k].1.2.1) ce01, .slice Ae02 (List.length (x.2)[k].1.2.2.1) ce02, .int .i64 (x.2)[k].1.2.2.2.1, .int .i64 (x.2)[k].1.2.2.2.2, .int .i64 (x.2)[k].2] := Blk.new _ _ _
   have hcall := HP.out (wr.alloc (.cells #[.slice Ae00 (List.length (x.2)[k].1.1) ce00, .slice Ae01 (List.length (x.2)[k].1.2.1) ce01, .slice Ae02 (List.length (x.2)[k].1.2.2.1) ce02, .int .i64 (x.2)[k].1.2.2.2.1, .int .i64 (x.2)[k].1.2.2.2.2, .int .i64 (x.2)[k].2] 127)) _ (x.2)[k] (List.getElem_mem hlt) (Ty.rd_below hwe hrde') (bel_trans hw hwe)
   cases hq : p (x.2)[k]
   ·have HY := Lib.hid (keepE_no hlt hq)
    rw [hq] at hcall
    clear hq
    go_wp2_with (go_at_fn g; refine hcall.mono ?_; rintro e w1 ⟨rfl, hb1⟩)
    have hbb : Below wr.heap.size wr w1 := bel_trans hwe hb1
    go_roundw
    case rel => exact ⟨k + 1, vo, by omega, by go_num, hB.below hbb hB.lt, hR.below hbb hR.lt, hO.below hbb hO.lt, by rw [HY.out]; exact HR.out.below hbb, bel_trans hw hbb, Nat.le_trans hs hbb.size⟩
    case measure => simp [intOf]; omega
   ·have HY := Lib.hid (keepE_yes hlt hq)
    rw [hq] at hcall
    clear hq
    go_wp2_with (go_at_fn g; refine hcall.mono ?_; rintro e w1 ⟨rfl, hb1⟩)
    generalize (wr.alloc (.cells #[.slice Ae00 (List.length (x.2)[k].1.1) ce00, .slice Ae01 (List.length (x.2)[k].1.2.1) ce01, .slice Ae02 (List.length (x.2)[k].1.2.2.1) ce02, .int .i64 (x.2)[k].1.2.2.2.1, .int .i64 (x.2)[k].1.2.2.2.2, .int .i64 (x.2)[k].2] 127)) = WE at kb0_0 kb0_1 kb0_2 kb0_3 kb0_4 kb0_5 hwe ze ze0 hE0 hb1 hcall ⊢
    have hE := hE0
    clear hE0
    have hv0 : Below WE.heap.size WE WE := Below.refl _ _
    have hze := hwe.size
    have hzw := hb1.size
    clear hcall e0 e1 e2 e3 e4 e5 kb0_0 kb0_1 kb0_2 kb0_3 kb0_4 kb0_5
    have SB : Hid (∀ V, Below w.heap.size w V → Blk V wr.heap.size 127 #[.slice Ae00 (List.length (x.2)[k].1.1) ce00, .slice Ae01 (List.length (x.2)[k].1.2.1) ce01, .slice Ae02 (List.length (x.2)[k].1.2.2.1) ce02, .int .i64 (x.2)[k].1.2.2.2.1, .int .i64 (x.2)[k].1.2.2.2.2, .int .i64 (x.2)[k].2] → Blk V w.heap.size 55 #[.int .i64 x.1, .slice (some ⟨b, o, none⟩) (List.length x.2) cx1] → Below w.heap.size w V ∧ V.cell? ⟨wr.heap.size, 0, none⟩ = some (.slice Ae00 (List.length (x.2)[k].1.1) ce00) ∧ V.cell? ⟨wr.heap.size, 1, none⟩ = some (.slice Ae01 (List.length (x.2)[k].1.2.1) ce01) ∧ V.cell? ⟨wr.heap.size, 2, none⟩ = some (.slice Ae02 (List.length (x.2)[k].1.2.2.1) ce02) ∧ V.cell? ⟨wr.heap.size, 3, none⟩ = some (.int .i64 (x.2)[k].1.2.2.2.1) ∧ V.cell? ⟨wr.heap.size, 4, none⟩ = some (.int .i64 (x.2)[k].1.2.2.2.2) ∧ V.cell? ⟨wr.heap.size, 5, none⟩ = some (.int .i64 (x.2)[k].2)) := fun V h1 h2 _ => ⟨h1, h2.cell 0, h2.cell 1, h2.cell 2, h2.cell 3, h2.cell 4, h2.cell 5⟩
    have HH : Hid (∀ V, Below WE.heap.size WE V → Below w.heap.size w V ∧ V.cell? ⟨wr.heap.size, 0, none⟩ = some (.slice Ae00 (List.length (x.2)[k].1.1) ce00) ∧ V.cell? ⟨wr.heap.size, 1, none⟩ = some (.slice Ae01 (List.length (x.2)[k].1.2.1) ce01) ∧ V.cell? ⟨wr.heap.size, 2, none⟩ = some (.slice Ae02 (List.length (x.2)[k].1.2.2.1) ce02) ∧ V.cell? ⟨wr.heap.size, 3, none⟩ = some (.int .i64 (x.2)[k].1.2.2.2.1) ∧ V.cell? ⟨wr.heap.size, 4, none⟩ = some (.int .i64 (x.2)[k].1.2.2.2.2) ∧ V.cell? ⟨wr.heap.size, 5, none⟩ = some (.int .i64 (x.2)[k].2)) := fun V hV => SB.out V (bel_trans hw (bel_trans hwe hV)) (hE.below hV hE.lt) ((hB.below hwe hB.lt).below hV (hB.below hwe hB.lt).lt)
    have hO1 := (hO.below hwe hO.lt).below hb1 (hO.below hwe hO.lt).lt
    have kO1 : w1.cell? ⟨w.heap.size + 1 + 1, 1, none⟩ = some vo := hO1.cell 1
    have zO1 : w.heap.size + 1 + 1 < w1.heap.size := hO1.lt
    refine wp_region_noPanic ?_
    refine wp_region_held_drew (S := (fun W => Below w.heap.size w W ∧ W.cell? ⟨wr.heap.size, 0, none⟩ = some (.slice Ae00 (List.length (x.2)[k].1.1) ce00) ∧ W.cell? ⟨wr.heap.size, 1, none⟩ = some (.slice Ae01 (List.length (x.2)[k].1.2.1) ce01) ∧ W.cell? ⟨wr.heap.size, 2, none⟩ = some (.slice Ae02 (List.length (x.2)[k].1.2.2.1) ce02) ∧ W.cell? ⟨wr.heap.size, 3, none⟩ = some (.int .i64 (x.2)[k].1.2.2.2.1) ∧ W.cell? ⟨wr.heap.size, 4, none⟩ = some (.int .i64 (x.2)[k].1.2.2.2.2) ∧ W.cell? ⟨wr.heap.size, 5, none⟩ = some (.int .i64 (x.2)[k].2))) b_31 ?_ (fun hHeld => ?_)
    ·exact HH.out _ b_2
    refine tkz4 0 2 3 5 ?_
    try simp only [layz]
    refine tkz 6 ?_
    try simp only [layz]
    refine rz2 1 4 (fun K hK => ?_) (fun K hK => ?_)
    ·go_simp
     refine hK.out _ _ (HH.out _ b_2) (fun hHeld => ?_)
     clear hK K
     try simp only [layz]
     refine rz1 4 (fun K hK => ?_)
     go_simp
     go_at_call 97
     refine (C_impl_copyData _ _ (x.2)[k].1 (Ty.rd_below (bel_trans hwe b_2) eg0) hbk).mono ?_
     rintro e w2 ⟨cs2, fp2, rfl, how2, hfr2, hb2⟩
     obtain ⟨Aq0, cq0, Aq1, cq1, Aq2, cq2, rfl⟩ := ow_Data how2
     have hz2 := hb2.size
     (try simp only [World.size_alloc, World.size_drew, size_drewN] at hz2)
     have kO2 : w2.cell? ⟨w.heap.size + 1 + 1, 1, none⟩ = some vo := (hb2.cell (p := ⟨w.heap.size + 1 + 1, 1, none⟩) b_18).trans kO1
     have zO2 : w.heap.size + 1 + 1 < w2.heap.size := by omega
     refine hK.out _ _ (HH.out _ b_2) (fun hHeld => ?_)
     clear hK K
     try simp only [layz]
     refine tkz 7 ?_
     try simp only [layz]
     refine rz1 8 (fun K hK => ?_)
     go_simp
     refine hK.out _ _ (HH.out _ b_2) (fun hHeld => ?_)
     clear hK K
     try simp only [layz]
     refine rz1 9 (fun K hK => ?_)
     refine step_append_drow b_35 _ _ 53 b_35 wr (w.heap.size + 1 + 1 + 1) 127 info_CacheEntry rfl Try.underlying53 _ _ (keepE p (x.2.take k)) [(x.2)[k]] b_35 b_35 HR.out (bel_trans hwe b_2) ((Src.litE 127 (ow_CacheEntry_mk (d := (x.2)[k]) how2 eg1) (hfr2.mono b_18 (Nat.le_refl _)) b_24)) (by have := HL.out; rw [List.length_singleton]; omega) b_19 hs ?_
     intro v' w' hr' hg'
     obtain ⟨vn, An, cn, hvn⟩ : ∃ n A c, v' = .slice A n c := by obtain ⟨A, c, h⟩ := hr'.form; exact ⟨_, A, c, h⟩
     subst hvn
     have hBn := grow_blk (bel_trans hwe b_2) hg' hB (fun e => by have := (HR.out.block _ e.symm).1; omega)
     have hRn := grow_blk (bel_trans hwe b_2) hg' hR (fun e => by have := (HR.out.block _ e.symm).1; omega)
     have hOn := grow_blk (bel_trans hwe b_2) hg' hO (fun e => by have := (HR.out.block _ e.symm).1; omega)
     have hEn := grow_blk (w0 := WE) b_2 hg' hE (fun e => by have := (HR.out.block _ e.symm).2; omega)
     have hbn : Below w.heap.size w w' := grow_bel (bel_trans hw (bel_trans hwe b_2)) hg' (fun g hg => by have := (HR.out.block g hg).1; omega)
     have hszn : wr.heap.size ≤ w'.heap.size := grow_size (bel_trans hwe b_2) hg'
     have kOn1 : w'.cell? ⟨w.heap.size + 1 + 1, 1, none⟩ = some vo := hOn.cell 1
     have fOn1 : w'.frozen? ⟨w.heap.size + 1 + 1, 1, none⟩ = false := hOn.frozen 1
     have zOn : w.heap.size + 1 + 1 < w'.heap.size := hOn.lt
     refine hK.out _ _ (SB.out _ hbn hEn hBn) (fun hHeld => ?_)
     clear hK K
     try simp only [layz]
     refine tkz 10 ?_
     try simp only [layz]
     refine rz1 11 (fun K hK => ?_)
     go_simp
     refine hK.out _ _ (SB.out _ (bel_set hbn b_30 _) (hEn.far b_30 _) (hBn.far b_30 _)) (fun hHeld => ?_)
     clear hK K
     try simp only [layz]
     refine wpAnyH_done b_31 ?_ _
     refine NoPanic.normal ?_
     have HR2 := Lib.hid (hr'.far (p := ⟨w.heap.size + 1 + 1, 1, none⟩) b_30 (.slice An vn cn))
     have hO2 := hOn.set_ 1 (.slice An vn cn)
     have hB2 := hBn.far (p := ⟨w.heap.size + 1 + 1, 1, none⟩) b_30 (.slice An vn cn)
     have hR2 := hRn.far (p := ⟨w.heap.size + 1 + 1, 1, none⟩) b_30 (.slice An vn cn)
     have hb2 : Below w.heap.size w (w'.setCell ⟨w.heap.size + 1 + 1, 1, none⟩ (.slice An vn cn)) := bel_set hbn b_30 (.slice An vn cn)
     clear hr' hg' kOn1 fOn1 zOn
     go_wp2
     go_roundw
     case rel => exact ⟨k + 1, .slice An vn cn, by omega, by go_num, hB2, hR2, hO2, by rw [HY.out]; exact HR2.out, hb2, by rw [World.size_setCell]; omega⟩
     case measure => simp [intOf]; omega
    ·go_simp
     go_at_call 97
     refine (C_impl_copyData _ _ (x.2)[k].1 (Ty.rd_below (bel_trans hwe b_2) eg0) hbk).mono ?_
     rintro e w2 ⟨cs2, fp2, rfl, how2, hfr2, hb2⟩
     obtain ⟨Aq0, cq0, Aq1, cq1, Aq2, cq2, rfl⟩ := ow_Data how2
     have hz2 := hb2.size
     (try simp only [World.size_alloc, World.size_drew, size_drewN] at hz2)
     have kO2 : w2.cell? ⟨w.heap.size + 1 + 1, 1, none⟩ = some vo := (hb2.cell (p := ⟨w.heap.size + 1 + 1, 1, none⟩) b_18).trans kO1
     have zO2 : w.heap.size + 1 + 1 < w2.heap.size := by omega
     refine hK.out _ _ (HH.out _ b_2) (fun hHeld => ?_)
     clear hK K
     try simp only [layz]
     refine tkz 7 ?_
     try simp only [layz]
     refine rz2 1 8 (fun K hK => ?_) (fun K hK => ?_)
     ·go_simp
      refine hK.out _ _ (HH.out _ b_2) (fun hHeld => ?_)
      clear hK K
      try simp only [layz]
      refine rz1 8 (fun K hK => ?_)
      go_simp
      refine hK.out _ _ (HH.out _ b_2) (fun hHeld => ?_)
      clear hK K
      try simp only [layz]
      refine rz1 9 (fun K hK => ?_)
      refine step_append_drow b_35 _ _ 53 b_35 wr (w.heap.size + 1 + 1 + 1) 127 info_CacheEntry rfl Try.underlying53 _ _ (keepE p (x.2.take k)) [(x.2)[k]] b_35 b_35 HR.out (bel_trans hwe b_2) ((Src.litE 127 (ow_CacheEntry_mk (d := (x.2)[k]) how2 eg1) (hfr2.mono b_18 (Nat.le_refl _)) b_24)) (by have := HL.out; rw [List.length_singleton]; omega) b_19 hs ?_
      intro v' w' hr' hg'
      obtain ⟨vn, An, cn, hvn⟩ : ∃ n A c, v' = .slice A n c := by obtain ⟨A, c, h⟩ := hr'.form; exact ⟨_, A, c, h⟩
      subst hvn
      have hBn := grow_blk (bel_trans hwe b_2) hg' hB (fun e => by have := (HR.out.block _ e.symm).1; omega)
      have hRn := grow_blk (bel_trans hwe b_2) hg' hR (fun e => by have := (HR.out.block _ e.symm).1; omega)
      have hOn := grow_blk (bel_trans hwe b_2) hg' hO (fun e => by have := (HR.out.block _ e.symm).1; omega)
      have hEn := grow_blk (w0 := WE) b_2 hg' hE (fun e => by have := (HR.out.block _ e.symm).2; omega)
      have hbn : Below w.heap.size w w' := grow_bel (bel_trans hw (bel_trans hwe b_2)) hg' (fun g hg => by have := (HR.out.block g hg).1; omega)
      have hszn : wr.heap.size ≤ w'.heap.size := grow_size (bel_trans hwe b_2) hg'
      have kOn1 : w'.cell? ⟨w.heap.size + 1 + 1, 1, none⟩ = some vo := hOn.cell 1
      have fOn1 : w'.frozen? ⟨w.heap.size + 1 + 1, 1, none⟩ = false := hOn.frozen 1
      have zOn : w.heap.size + 1 + 1 < w'.heap.size := hOn.lt
      refine hK.out _ _ (SB.out _ hbn hEn hBn) (fun hHeld => ?_)
      clear hK K
      try simp only [layz]
      refine tkz 10 ?_
      try simp only [layz]
      refine rz1 11 (fun K hK => ?_)
      go_simp
      refine hK.out _ _ (SB.out _ (bel_set hbn b_30 _) (hEn.far b_30 _) (hBn.far b_30 _)) (fun hHeld => ?_)
      clear hK K
      try simp only [layz]
      refine wpAnyH_done b_31 ?_ _
      refine NoPanic.normal ?_
      have HR2 := Lib.hid (hr'.far (p := ⟨w.heap.size + 1 + 1, 1, none⟩) b_30 (.slice An vn cn))
      have hO2 := hOn.set_ 1 (.slice An vn cn)
      have hB2 := hBn.far (p := ⟨w.heap.size + 1 + 1, 1, none⟩) b_30 (.slice An vn cn)
      have hR2 := hRn.far (p := ⟨w.heap.size + 1 + 1, 1, none⟩) b_30 (.slice An vn cn)
      have hb2 : Below w.heap.size w (w'.setCell ⟨w.heap.size + 1 + 1, 1, none⟩ (.slice An vn cn)) := bel_set hbn b_30 (.slice An vn cn)
      clear hr' hg' kOn1 fOn1 zOn
      go_wp2
      go_roundw
      case rel => exact ⟨k + 1, .slice An vn cn, by omega, by go_num, hB2, hR2, hO2, by rw [HY.out]; exact HR2.out, hb2, by rw [World.size_setCell]; omega⟩
      case measure => simp [intOf]; omega
     ·go_simp
      refine hK.out _ _ (HH.out _ b_2) (fun hHeld => ?_)
      clear hK K
      try simp only [layz]
      refine rz1 1 (fun K hK => ?_)
      go_simp
      refine hK.out _ _ (HH.out _ b_2) (fun hHeld => ?_)
      clear hK K
      try simp only [layz]
      refine rz1 9 (fun K hK => ?_)
      refine step_append_drow b_35 _ _ 53 b_35 wr (w.heap.size + 1 + 1 + 1) 127 info_CacheEntry rfl Try.underlying53 _ _ (keepE p (x.2.take k)) [(x.2)[k]] b_35 b_35 HR.out (bel_trans hwe b_2) ((Src.litE 127 (ow_CacheEntry_mk (d := (x.2)[k]) how2 eg1) (hfr2.mono b_18 (Nat.le_refl _)) b_24)) (by have := HL.out; rw [List.length_singleton]; omega) b_19 hs ?_
      intro v' w' hr' hg'
      obtain ⟨vn, An, cn, hvn⟩ : ∃ n A c, v' = .slice A n c := by obtain ⟨A, c, h⟩ := hr'.form; exact ⟨_, A, c, h⟩
      subst hvn
      have hBn := grow_blk (bel_trans hwe b_2) hg' hB (fun e => by have := (HR.out.block _ e.symm).1; omega)
      have hRn := grow_blk (bel_trans hwe b_2) hg' hR (fun e => by have := (HR.out.block _ e.symm).1; omega)
      have hOn := grow_blk (bel_trans hwe b_2) hg' hO (fun e => by have := (HR.out.block _ e.symm).1; omega)
      have hEn := grow_blk (w0 := WE) b_2 hg' hE (fun e => by have := (HR.out.block _ e.symm).2; omega)
      have hbn : Below w.heap.size w w' := grow_bel (bel_trans hw (bel_trans hwe b_2)) hg' (fun g hg => by have := (HR.out.block g hg).1; omega)
      have hszn : wr.heap.size ≤ w'.heap.size := grow_size (bel_trans hwe b_2) hg'
      have kOn1 : w'.cell? ⟨w.heap.size + 1 + 1, 1, none⟩ = some vo := hOn.cell 1
      have fOn1 : w'.frozen? ⟨w.heap.size + 1 + 1, 1, none⟩ = false := hOn.frozen 1
      have zOn : w.heap.size + 1 + 1 < w'.heap.size := hOn.lt
      refine hK.out _ _ (SB.out _ hbn hEn hBn) (fun hHeld => ?_)
      clear hK K
      try simp only [layz]
      refine tkz 10 ?_
      try simp only [layz]
      refine rz1 11 (fun K hK => ?_)
      go_simp
      refine hK.out _ _ (SB.out _ (bel_set hbn b_30 _) (hEn.far b_30 _) (hBn.far b_30 _)) (fun hHeld => ?_)
      clear hK K
      try simp only [layz]
      refine wpAnyH_done b_31 ?_ _
      refine NoPanic.normal ?_
      have HR2 := Lib.hid (hr'.far (p := ⟨w.heap.size + 1 + 1, 1, none⟩) b_30 (.slice An vn cn))
      have hO2 := hOn.set_ 1 (.slice An vn cn)
      have hB2 := hBn.far (p := ⟨w.heap.size + 1 + 1, 1, none⟩) b_30 (.slice An vn cn)
      have hR2 := hRn.far (p := ⟨w.heap.size + 1 + 1, 1, none⟩) b_30 (.slice An vn cn)
      have hb2 : Below w.heap.size w (w'.setCell ⟨w.heap.size + 1 + 1, 1, none⟩ (.slice An vn cn)) := bel_set hbn b_30 (.slice An vn cn)
      clear hr' hg' kOn1 fOn1 zOn
      go_wp2
      go_roundw
      case rel => exact ⟨k + 1, .slice An vn cn, by omega, by go_num, hB2, hR2, hO2, by rw [HY.out]; exact HR2.out, hb2, by rw [World.size_setCell]; omega⟩
      case measure => simp [intOf]; omega
  ·have HE : Hid (keepE p (x.2.take k) = keepE p x.2) := by unfold Hid; rw [List.take_of_length_le b_34]
   obtain ⟨A9, c9, hv9⟩ := HR.out.form
   subst hv9
   have hr9 := HR.out
   rw [HE.out] at hO hr9
   have HR9 := Lib.hid hr9
   clear hr9
   have zB : w.heap.size < wr.heap.size := hB.lt
   have hB1 := hB
   have hR1 := hR
   have hO1 := hO
   clear hB hR hO
   have kB_1_0 : wr.cell? ⟨w.heap.size, 0, none⟩ = some (.int .i64 x.1) := hB1.cell 0
   have fB_1_0 : wr.frozen? ⟨w.heap.size, 0, none⟩ = false := hB1.frozen 0
   have kB_1_1 : wr.cell? ⟨w.heap.size, 1, none⟩ = some (.slice Ax1 (List.length x.2) cx1) := hB1.cell 1
   have fB_1_1 : wr.frozen? ⟨w.heap.size, 1, none⟩ = false := hB1.frozen 1
   have zB_1 : w.heap.size < wr.heap.size := hB1.lt
   have kR_1_0 : wr.cell? ⟨w.heap.size + 1, 0, none⟩ = some (.int .i64 0) := hR1.cell 0
   have fR_1_0 : wr.frozen? ⟨w.heap.size + 1, 0, none⟩ = false := hR1.frozen 0
   have kR_1_1 : wr.cell? ⟨w.heap.size + 1, 1, none⟩ = some (.slice none 0 0) := hR1.cell 1
   have fR_1_1 : wr.frozen? ⟨w.heap.size + 1, 1, none⟩ = false := hR1.frozen 1
   have zR_1 : w.heap.size + 1 < wr.heap.size := hR1.lt
   have kO_1_0 : wr.cell? ⟨w.heap.size + 1 + 1, 0, none⟩ = some (.int .i64 x.1) := hO1.cell 0
   have fO_1_0 : wr.frozen? ⟨w.heap.size + 1 + 1, 0, none⟩ = false := hO1.frozen 0
   have kO_1_1 : wr.cell? ⟨w.heap.size + 1 + 1, 1, none⟩ = some (.slice A9 (List.length (keepE p x.2)) c9) := hO1.cell 1
   have fO_1_1 : wr.frozen? ⟨w.heap.size + 1 + 1, 1, none⟩ = false := hO1.frozen 1
   have zO_1 : w.heap.size + 1 + 1 < wr.heap.size := hO1.lt
   clear HR HE
   go_wp2
   refine bodyPost_ret (v := .agg #[.int .i64 x.1, .slice A9 (List.length (keepE p x.2)) c9]) (by simp [results, Try.results94, go_sem, kB_1_0, fB_1_0, kB_1_1, fB_1_1, kR_1_0, fR_1_0, kR_1_1, fR_1_1, kO_1_0, fO_1_0, kO_1_1, fO_1_1, zB_1, zR_1, zO_1]) rfl ?_
   exact ⟨_, rfl, ((HR9.out.far b_30 _).far b_30 _).mono b_34, b_6⟩
theorem C_impl_keepStore (w : World) (cs : List Value) (x : Ty.D tContentStore) (p : Ty.D tCacheEntry → Bool) (g : Nat) (lb : Array Value) (eg : ∀ args w, (callFunc g args).run Try.prog w = .ok (.enter g args) w) (h : Ty.rd w tContentStore cs x) (s0 : Ty.bulk tContentStore x ≤ 1048576) (hp : ∀ (W : World) (ds : List Value) (d : Ty.D tCacheEntry), d ∈ x.2 → Ty.rd W tCacheEntry ds d → Below w.heap.size w W → Calls Try.prog g (#[.agg ds.toArray] ++ lb) W (RetB W (p d))) :
  Calls Try.prog 94 #[.agg cs.toArray, .func (.func g) #[] lb] w (RetAgg w tContentStore (keepSt p x)) :=
 (C_impl_keepStoreR w cs x p g lb eg h s0 hp).mono (fun e w' hr => by have h0 := store_i0 h; exact hr.agg h0)
set_option maxRecDepth 100000 in
set_option maxHeartbeats 4000000 in
theorem C_spec_l12CopyR (w : World) (cs : List Value) (x : Ty.D tContentStore) (h : Ty.rd w tContentStore cs x) (s0 : Ty.bulk tContentStore x ≤ 1048576) :
  Calls Try.prog 102 #[.agg cs.toArray] w (RetStore w 127 (keepSt pAll x)) := by
 obtain ⟨Ax1, cx1, rfl, xg0, xg1⟩ := rd_ContentStore h
 have s0e := store_bulk' s0
 have hxl := Ty.bulk_len s0e
 obtain ⟨_, _, _, _, _, m9⟩ := Ty.rd_sl xg1
 have hB0 : Blk (((w.alloc (.cells #[.int .i64 x.1, .slice Ax1 (List.length x.2) cx1] 55)).alloc (.cells #[.int .i64 0, .slice none 0 0] 55)).alloc (.cells #[.int .i64 x.1, .slice none 0 0] 55)) w.heap.size 55 #[.int .i64 x.1, .slice Ax1 (List.length x.2) cx1] := ((Blk.new w _ _).alloc _).alloc _
 have hR0 : Blk (((w.alloc (.cells #[.int .i64 x.1, .slice Ax1 (List.length x.2) cx1] 55)).alloc (.cells #[.int .i64 0, .slice none 0 0] 55)).alloc (.cells #[.int .i64 x.1, .slice none 0 0] 55)) (w.heap.size + 1) 55 #[.int .i64 0, .slice none 0 0] := Blk.alloc (by have := Blk.new (w.alloc (.cells #[.int .i64 x.1, .slice Ax1 (List.length x.2) cx1] 55)) 55 #[.int .i64 0, .slice none 0 0]; rwa [World.size_alloc] at this) _
 have hO0 : Blk (((w.alloc (.cells #[.int .i64 x.1, .slice Ax1 (List.length x.2) cx1] 55)).alloc (.cells #[.int .i64 0, .slice none 0 0] 55)).alloc (.cells #[.int .i64 x.1, .slice none 0 0] 55)) (w.heap.size + 1 + 1) 55 #[.int .i64 x.1, .slice none 0 0] := b_10
 have hvb : Below w.heap.size w (((w.alloc (.cells #[.int .i64 x.1, .slice Ax1 (List.length x.2) cx1] 55)).alloc (.cells #[.int .i64 0, .slice none 0 0] 55)).alloc (.cells #[.int .i64 x.1, .slice none 0 0] 55)) := b_6
 have zb0 := Lib.hid (show (((w.alloc (.cells #[.int .i64 x.1, .slice Ax1 (List.length x.2) cx1] 55)).alloc (.cells #[.int .i64 0, .slice none 0 0] 55)).alloc (.cells #[.int .i64 x.1, .slice none 0 0] 55)).heap.size = w.heap.size + 1 + 1 + 1 from by simp only [World.size_alloc])
 go_enter Try.func102, Try.ntmps102
 go_wp2
 generalize (((w.alloc (.cells #[.int .i64 x.1, .slice Ax1 (List.length x.2) cx1] 55)).alloc (.cells #[.int .i64 0, .slice none 0 0] 55)).alloc (.cells #[.int .i64 x.1, .slice none 0 0] 55)) = WX at hB0 hR0 hO0 hvb zb0 ⊢
 go_loopw [4] (fun i wr => ∃ (k : Nat) (vo : Value), k ≤ List.length x.2 ∧ i = .int .i64 k ∧ Blk wr w.heap.size 55 #[.int .i64 x.1, .slice Ax1 (List.length x.2) cx1] ∧ Blk wr (w.heap.size + 1) 55 #[.int .i64 0, .slice none 0 0] ∧ Blk wr (w.heap.size + 1 + 1) 55 #[.int .i64 x.1, vo] ∧ DRow tCacheEntry wr (w.heap.size + 1 + 1 + 1) 127 vo (keepE pAll (x.2.take k)) ∧ Below w.heap.size w wr ∧ w.heap.size + 1 + 1 + 1 ≤ wr.heap.size) (fun i _ => List.length x.2 - (intOf i).toNat)
 case atStart => exact ⟨0, .slice none 0 0, by omega, rfl, hB0, hR0, hO0, DRow.nil _ _ _ _, hvb, by rw [zb0.out]; exact Nat.le_refl _⟩
 case round =>
  obtain ⟨k, vo, hk, rfl, hB, hR, hO, hr, hw, hs⟩ := hrel
  have HR := Lib.hid hr
  clear hr
  have hw' := Lib.hid hw
  have kB1 : wr.cell? ⟨w.heap.size, 1, none⟩ = some (.slice Ax1 (List.length x.2) cx1) := hB.cell 1
  have zB1 : w.heap.size < wr.heap.size := hB.lt
  by_cases hlt : k < List.length x.2
  ·have HL := Lib.hid (keepE_len pAll x.2 hk)
   obtain ⟨b, o, dse, rfl, hle, hcelle, hrde⟩ := Ty.rd_at (xg1) hlt
   have hrde' := hrde
   obtain ⟨Ae00, ce00, Ae01, ce01, Ae02, ce02, rfl, eg0, eg1⟩ := rd_CacheEntry hrde
   have e0 : w.cell? ⟨b, o + k * 6, none⟩ = some (.slice Ae00 (List.length (x.2)[k].1.1) ce00) := by simpa [Ty.sz] using hcelle 0 b_33
   have e1 : w.cell? ⟨b, o + k * 6 + 1, none⟩ = some (.slice Ae01 (List.length (x.2)[k].1.2.1) ce01) := by simpa [Ty.sz] using hcelle 1 b_33
   have e2 : w.cell? ⟨b, o + k * 6 + 2, none⟩ = some (.slice Ae02 (List.length (x.2)[k].1.2.2.1) ce02) := by simpa [Ty.sz] using hcelle 2 b_33
   have e3 : w.cell? ⟨b, o + k * 6 + 3, none⟩ = some (.int .i64 (x.2)[k].1.2.2.2.1) := by simpa [Ty.sz] using hcelle 3 b_33
   have e4 : w.cell? ⟨b, o + k * 6 + 4, none⟩ = some (.int .i64 (x.2)[k].1.2.2.2.2) := by simpa [Ty.sz] using hcelle 4 b_33
   have e5 : w.cell? ⟨b, o + k * 6 + 5, none⟩ = some (.int .i64 (x.2)[k].2) := by simpa [Ty.sz] using hcelle 5 b_33
   clear hcelle hle
   have hbk : Ty.bulk tData (x.2)[k].1 ≤ 1000000000 := Nat.le_trans (entry_bulk' (Ty.bulk_at s0e hlt)) b_33
   have hlb : b < w.heap.size := World.block_lt_of_cell? w _ e0
   have i8 : (0 : Int) ≤ (k : Int) := by omega
   have i9 : (k : Int) < (List.length x.2 : Int) := by omega
   have f0 : wr.cell? ⟨b, o + k * 6, none⟩ = some (.slice Ae00 (List.length (x.2)[k].1.1) ce00) := (hw.cell (p := ⟨b, o + k * 6, none⟩) hlb).trans e0
   have f1 : wr.cell? ⟨b, o + k * 6 + 1, none⟩ = some (.slice Ae01 (List.length (x.2)[k].1.2.1) ce01) := (hw.cell (p := ⟨b, o + k * 6 + 1, none⟩) hlb).trans e1
   have f2 : wr.cell? ⟨b, o + k * 6 + 2, none⟩ = some (.slice Ae02 (List.length (x.2)[k].1.2.2.1) ce02) := (hw.cell (p := ⟨b, o + k * 6 + 2, none⟩) hlb).trans e2
   have f3 : wr.cell? ⟨b, o + k * 6 + 3, none⟩ = some (.int .i64 (x.2)[k].1.2.2.2.1) := (hw.cell (p := ⟨b, o + k * 6 + 3, none⟩) hlb).trans e3
   have f4 : wr.cell? ⟨b, o + k * 6 + 4, none⟩ = some (.int .i64 (x.2)[k].1.2.2.2.2) := (hw.cell (p := ⟨b, o + k * 6 + 4, none⟩) hlb).trans e4
   have f5 : wr.cell? ⟨b, o + k * 6 + 5, none⟩ = some (.int .i64 (x.2)[k].2) := (hw.cell (p := ⟨b, o + k * 6 + 5, none⟩) hlb).trans e5
   have HY := Lib.hid (keepE_yes (p := pAll) hlt rfl)
   have hwf : Below wr.heap.size wr wr := Below.refl _ _
   go_wp2_with fail
   refine (C_spec_l8Copy _ _ (x.2)[k].1 (Ty.rd_below (bel_trans hw hwf) eg0) hbk).mono ?_
   rintro e w2 ⟨cs2, fp2, rfl, how2, hfr2, hb2⟩
   obtain ⟨Aq0, cq0, Aq1, cq1, Aq2, cq2, rfl⟩ := ow_Data how2
   have hz2 := hb2.size
   have hz1 := hwf.size
   have h2E : Below w2.heap.size w2 (w2.alloc (.cells #[.slice Aq0 (List.length (x.2)[k].1.1) cq0, .slice Aq1 (List.length (x.2)[k].1.2.1) cq1, .slice Aq2 (List.length (x.2)[k].1.2.2.1) cq2, .int .i64 (x.2)[k].1.2.2.2.1, .int .i64 (x.2)[k].1.2.2.2.2] 46)) := b_6
   have zE : w2.heap.size < (w2.alloc (.cells #[.slice Aq0 (List.length (x.2)[k].1.1) cq0, .slice Aq1 (List.length (x.2)[k].1.2.1) cq1, .slice Aq2 (List.length (x.2)[k].1.2.2.1) cq2, .int .i64 (x.2)[k].1.2.2.2.1, .int .i64 (x.2)[k].1.2.2.2.2] 46)).heap.size := by rw [World.size_alloc]; omega
   have hE : Blk (w2.alloc (.cells #[.slice Aq0 (List.length (x.2)[k].1.1) cq0, .slice Aq1 (List.length (x.2)[k].1.2.1) cq1, .slice Aq2 (List.length (x.2)[k].1.2.2.1) cq2, .int .i64 (x.2)[k].1.2.2.2.1, .int .i64 (x.2)[k].1.2.2.2.2] 46)) w2.heap.size 46 #[.slice Aq0 (List.length (x.2)[k].1.1) cq0, .slice Aq1 (List.length (x.2)[k].1.2.1) cq1, .slice Aq2 (List.length (x.2)[k].1.2.2.1) cq2, .int .i64 (x.2)[k].1.2.2.2.1, .int .i64 (x.2)[k].1.2.2.2.2] := Blk.new _ _ _
   go_wp2_with fail
   generalize (w2.alloc (.cells #[.slice Aq0 (List.length (x.2)[k].1.1) cq0, .slice Aq1 (List.length (x.2)[k].1.2.1) cq1, .slice Aq2 (List.length (x.2)[k].1.2.2.1) cq2, .int .i64 (x.2)[k].1.2.2.2.1, .int .i64 (x.2)[k].1.2.2.2.2] 46)) = WE at h2E zE hE ⊢
   have hwe : Below wr.heap.size wr WE := bel_trans hwf (bel_trans hb2 h2E)
   have hv0 : Below WE.heap.size WE WE := Below.refl _ _
   have hze := hwe.size
   clear kB1 zB1  f0 f1 f2 f3 f4 f5
   have SB : Hid (∀ V, Below w.heap.size w V → Blk V w2.heap.size 46 #[.slice Aq0 (List.length (x.2)[k].1.1) cq0, .slice Aq1 (List.length (x.2)[k].1.2.1) cq1, .slice Aq2 (List.length (x.2)[k].1.2.2.1) cq2, .int .i64 (x.2)[k].1.2.2.2.1, .int .i64 (x.2)[k].1.2.2.2.2] → Blk V w.heap.size 55 #[.int .i64 x.1, .slice (some ⟨b, o, none⟩) (List.length x.2) cx1] → Below w.heap.size w V ∧ V.cell? ⟨w2.heap.size, 0, none⟩ = some (.slice Aq0 (List.length (x.2)[k].1.1) cq0) ∧ V.cell? ⟨w2.heap.size, 1, none⟩ = some (.slice Aq1 (List.length (x.2)[k].1.2.1) cq1) ∧ V.cell? ⟨w2.heap.size, 2, none⟩ = some (.slice Aq2 (List.length (x.2)[k].1.2.2.1) cq2) ∧ V.cell? ⟨w2.heap.size, 3, none⟩ = some (.int .i64 (x.2)[k].1.2.2.2.1) ∧ V.cell? ⟨w2.heap.size, 4, none⟩ = some (.int .i64 (x.2)[k].1.2.2.2.2) ∧ V.cell? ⟨w.heap.size, 1, none⟩ = some (.slice (some ⟨b, o, none⟩) (List.length x.2) cx1) ∧ V.cell? ⟨b, o + k * 6 + 5, none⟩ = some (.int .i64 (x.2)[k].2)) := fun V h1 h2 h3 => ⟨h1, h2.cell 0, h2.cell 1, h2.cell 2, h2.cell 3, h2.cell 4, h3.cell 1, (h1.cell (p := ⟨b, o + k * 6 + 5, none⟩) hlb).trans e5⟩
   have HH : Hid (∀ V, Below WE.heap.size WE V → Below w.heap.size w V ∧ V.cell? ⟨w2.heap.size, 0, none⟩ = some (.slice Aq0 (List.length (x.2)[k].1.1) cq0) ∧ V.cell? ⟨w2.heap.size, 1, none⟩ = some (.slice Aq1 (List.length (x.2)[k].1.2.1) cq1) ∧ V.cell? ⟨w2.heap.size, 2, none⟩ = some (.slice Aq2 (List.length (x.2)[k].1.2.2.1) cq2) ∧ V.cell? ⟨w2.heap.size, 3, none⟩ = some (.int .i64 (x.2)[k].1.2.2.2.1) ∧ V.cell? ⟨w2.heap.size, 4, none⟩ = some (.int .i64 (x.2)[k].1.2.2.2.2) ∧ V.cell? ⟨w.heap.size, 1, none⟩ = some (.slice (some ⟨b, o, none⟩) (List.length x.2) cx1) ∧ V.cell? ⟨b, o + k * 6 + 5, none⟩ = some (.int .i64 (x.2)[k].2)) := fun V hV => SB.out V (bel_trans hw (bel_trans hwe hV)) (hE.below hV hE.lt) ((hB.below hwe hB.lt).below hV (hB.below hwe hB.lt).lt)
   have hO1 := hO.below hwe hO.lt
   have kO1 : WE.cell? ⟨w.heap.size + 1 + 1, 1, none⟩ = some vo := hO1.cell 1
   have zO1 : w.heap.size + 1 + 1 < WE.heap.size := hO1.lt
   refine wp_region_noPanic ?_
   refine wp_region_held_drew (S := (fun W => Below w.heap.size w W ∧ W.cell? ⟨w2.heap.size, 0, none⟩ = some (.slice Aq0 (List.length (x.2)[k].1.1) cq0) ∧ W.cell? ⟨w2.heap.size, 1, none⟩ = some (.slice Aq1 (List.length (x.2)[k].1.2.1) cq1) ∧ W.cell? ⟨w2.heap.size, 2, none⟩ = some (.slice Aq2 (List.length (x.2)[k].1.2.2.1) cq2) ∧ W.cell? ⟨w2.heap.size, 3, none⟩ = some (.int .i64 (x.2)[k].1.2.2.2.1) ∧ W.cell? ⟨w2.heap.size, 4, none⟩ = some (.int .i64 (x.2)[k].1.2.2.2.2) ∧ W.cell? ⟨w.heap.size, 1, none⟩ = some (.slice (some ⟨b, o, none⟩) (List.length x.2) cx1) ∧ W.cell? ⟨b, o + k * 6 + 5, none⟩ = some (.int .i64 (x.2)[k].2))) b_31 ?_ (fun hHeld => ?_)
   ·exact HH.out _ b_2
   refine tkz4 0 2 3 4 ?_
   try simp only [layz]
   refine tkz4 5 6 7 8 ?_
   try simp only [layz]
   refine tkz 9 ?_
   try simp only [layz]
   refine rz2 1 10 (fun K hK => ?_) (fun K hK => ?_)
   ·go_simp
    refine hK.out _ _ (HH.out _ b_2) (fun hHeld => ?_)
    clear hK K
    try simp only [layz]
    refine rz1 10 (fun K hK => ?_)
    go_simp
    refine hK.out _ _ (HH.out _ b_2) (fun hHeld => ?_)
    clear hK K
    try simp only [layz]
    refine rz1 11 (fun K hK => ?_)
    refine step_append_drow b_35 _ _ 53 b_35 wr (w.heap.size + 1 + 1 + 1) 127 info_CacheEntry rfl Try.underlying53 _ _ (keepE pAll (x.2.take k)) [(x.2)[k]] b_35 b_35 HR.out (bel_trans hwe b_2) b_0 (by have := HL.out; rw [List.length_singleton]; omega) b_19 hs ?_
    intro v' w' hr' hg'
    obtain ⟨vn, An, cn, hvn⟩ : ∃ n A c, v' = .slice A n c := by obtain ⟨A, c, h⟩ := hr'.form; exact ⟨_, A, c, h⟩
    subst hvn
    have hBn := grow_blk (bel_trans hwe b_2) hg' hB (fun e => by have := (HR.out.block _ e.symm).1; omega)
    have hRn := grow_blk (bel_trans hwe b_2) hg' hR (fun e => by have := (HR.out.block _ e.symm).1; omega)
    have hOn := grow_blk (bel_trans hwe b_2) hg' hO (fun e => by have := (HR.out.block _ e.symm).1; omega)
    have hEn := grow_blk (w0 := WE) b_2 hg' hE (fun e => by have := (HR.out.block _ e.symm).2; omega)
    have hbn : Below w.heap.size w w' := grow_bel (bel_trans hw (bel_trans hwe b_2)) hg' (fun g hg => by have := (HR.out.block g hg).1; omega)
    have hszn : wr.heap.size ≤ w'.heap.size := grow_size (bel_trans hwe b_2) hg'
    have kOn1 : w'.cell? ⟨w.heap.size + 1 + 1, 1, none⟩ = some vo := hOn.cell 1
    have fOn1 : w'.frozen? ⟨w.heap.size + 1 + 1, 1, none⟩ = false := hOn.frozen 1
    have zOn : w.heap.size + 1 + 1 < w'.heap.size := hOn.lt
    refine hK.out _ _ (SB.out _ hbn hEn hBn) (fun hHeld => ?_)
    clear hK K
    try simp only [layz]
    refine tkz 12 ?_
    try simp only [layz]
    refine rz1 13 (fun K hK => ?_)
    go_simp
    refine hK.out _ _ (SB.out _ (bel_set hbn b_30 _) (hEn.far b_30 _) (hBn.far b_30 _)) (fun hHeld => ?_)
    clear hK K
    try simp only [layz]
    refine wpAnyH_done b_31 ?_ _
    refine NoPanic.normal ?_
    have HR2 := Lib.hid (hr'.far (p := ⟨w.heap.size + 1 + 1, 1, none⟩) b_30 (.slice An vn cn))
    have hO2 := hOn.set_ 1 (.slice An vn cn)
    have hB2 := hBn.far (p := ⟨w.heap.size + 1 + 1, 1, none⟩) b_30 (.slice An vn cn)
    have hR2 := hRn.far (p := ⟨w.heap.size + 1 + 1, 1, none⟩) b_30 (.slice An vn cn)
    have hb2 : Below w.heap.size w (w'.setCell ⟨w.heap.size + 1 + 1, 1, none⟩ (.slice An vn cn)) := bel_set hbn b_30 (.slice An vn cn)
    clear hr' hg' kOn1 fOn1 zOn
    go_wp2
    go_roundw
    case rel => exact ⟨k + 1, .slice An vn cn, by omega, by go_num, hB2, hR2, hO2, by rw [HY.out]; exact HR2.out, hb2, by rw [World.size_setCell]; omega⟩
    case measure => simp [intOf]; omega
   ·go_simp
    refine hK.out _ _ (HH.out _ b_2) (fun hHeld => ?_)
    clear hK K
    try simp only [layz]
    refine rz1 1 (fun K hK => ?_)
    go_simp
    refine hK.out _ _ (HH.out _ b_2) (fun hHeld => ?_)
    clear hK K
    try simp only [layz]
    refine rz1 11 (fun K hK => ?_)
    refine step_append_drow b_35 _ _ 53 b_35 wr (w.heap.size + 1 + 1 + 1) 127 info_CacheEntry rfl Try.underlying53 _ _ (keepE pAll (x.2.take k)) [(x.2)[k]] b_35 b_35 HR.out (bel_trans hwe b_2) b_0 (by have := HL.out; rw [List.length_singleton]; omega) b_19 hs ?_
    intro v' w' hr' hg'
    obtain ⟨vn, An, cn, hvn⟩ : ∃ n A c, v' = .slice A n c := by obtain ⟨A, c, h⟩ := hr'.form; exact ⟨_, A, c, h⟩
    subst hvn
    have hBn := grow_blk (bel_trans hwe b_2) hg' hB (fun e => by have := (HR.out.block _ e.symm).1; omega)
    have hRn := grow_blk (bel_trans hwe b_2) hg' hR (fun e => by have := (HR.out.block _ e.symm).1; omega)
    have hOn := grow_blk (bel_trans hwe b_2) hg' hO (fun e => by have := (HR.out.block _ e.symm).1; omega)
    have hEn := grow_blk (w0 := WE) b_2 hg' hE (fun e => by have := (HR.out.block _ e.symm).2; omega)
    have hbn : Below w.heap.size w w' := grow_bel (bel_trans hw (bel_trans hwe b_2)) hg' (fun g hg => by have := (HR.out.block g hg).1; omega)
    have hszn : wr.heap.size ≤ w'.heap.size := grow_size (bel_trans hwe b_2) hg'
    have kOn1 : w'.cell? ⟨w.heap.size + 1 + 1, 1, none⟩ = some vo := hOn.cell 1
    have fOn1 : w'.frozen? ⟨w.heap.size + 1 + 1, 1, none⟩ = false := hOn.frozen 1
    have zOn : w.heap.size + 1 + 1 < w'.heap.size := hOn.lt
    refine hK.out _ _ (SB.out _ hbn hEn hBn) (fun hHeld => ?_)
    clear hK K
    try simp only [layz]
    refine tkz 12 ?_
    try simp only [layz]
    refine rz1 13 (fun K hK => ?_)
    go_simp
    refine hK.out _ _ (SB.out _ (bel_set hbn b_30 _) (hEn.far b_30 _) (hBn.far b_30 _)) (fun hHeld => ?_)
    clear hK K
    try simp only [layz]
    refine wpAnyH_done b_31 ?_ _
    refine NoPanic.normal ?_
    have HR2 := Lib.hid (hr'.far (p := ⟨w.heap.size + 1 + 1, 1, none⟩) b_30 (.slice An vn cn))
    have hO2 := hOn.set_ 1 (.slice An vn cn)
    have hB2 := hBn.far (p := ⟨w.heap.size + 1 + 1, 1, none⟩) b_30 (.slice An vn cn)
    have hR2 := hRn.far (p := ⟨w.heap.size + 1 + 1, 1, none⟩) b_30 (.slice An vn cn)
    have hb2 : Below w.heap.size w (w'.setCell ⟨w.heap.size + 1 + 1, 1, none⟩ (.slice An vn cn)) := bel_set hbn b_30 (.slice An vn cn)
    clear hr' hg' kOn1 fOn1 zOn
    go_wp2
    go_roundw
    case rel => exact ⟨k + 1, .slice An vn cn, by omega, by go_num, hB2, hR2, hO2, by rw [HY.out]; exact HR2.out, hb2, by rw [World.size_setCell]; omega⟩
    case measure => simp [intOf]; omega
  ·have HE : Hid (keepE pAll (x.2.take k) = keepE pAll x.2) := by unfold Hid; rw [List.take_of_length_le b_34]
   obtain ⟨A9, c9, hv9⟩ := HR.out.form
   subst hv9
   have hr9 := HR.out
   rw [HE.out] at hO hr9
   have HR9 := Lib.hid hr9
   clear hr9
   have zB9 : w.heap.size < wr.heap.size := hB.lt
   have hB1 := hB
   have hR1 := hR
   have hO1 := hO
   clear hB hR hO
   have kB_1_0 : wr.cell? ⟨w.heap.size, 0, none⟩ = some (.int .i64 x.1) := hB1.cell 0
   have fB_1_0 : wr.frozen? ⟨w.heap.size, 0, none⟩ = false := hB1.frozen 0
   have kB_1_1 : wr.cell? ⟨w.heap.size, 1, none⟩ = some (.slice Ax1 (List.length x.2) cx1) := hB1.cell 1
   have fB_1_1 : wr.frozen? ⟨w.heap.size, 1, none⟩ = false := hB1.frozen 1
   have zB_1 : w.heap.size < wr.heap.size := hB1.lt
   have kR_1_0 : wr.cell? ⟨w.heap.size + 1, 0, none⟩ = some (.int .i64 0) := hR1.cell 0
   have fR_1_0 : wr.frozen? ⟨w.heap.size + 1, 0, none⟩ = false := hR1.frozen 0
   have kR_1_1 : wr.cell? ⟨w.heap.size + 1, 1, none⟩ = some (.slice none 0 0) := hR1.cell 1
   have fR_1_1 : wr.frozen? ⟨w.heap.size + 1, 1, none⟩ = false := hR1.frozen 1
   have zR_1 : w.heap.size + 1 < wr.heap.size := hR1.lt
   have kO_1_0 : wr.cell? ⟨w.heap.size + 1 + 1, 0, none⟩ = some (.int .i64 x.1) := hO1.cell 0
   have fO_1_0 : wr.frozen? ⟨w.heap.size + 1 + 1, 0, none⟩ = false := hO1.frozen 0
   have kO_1_1 : wr.cell? ⟨w.heap.size + 1 + 1, 1, none⟩ = some (.slice A9 (List.length (keepE pAll x.2)) c9) := hO1.cell 1
   have fO_1_1 : wr.frozen? ⟨w.heap.size + 1 + 1, 1, none⟩ = false := hO1.frozen 1
   have zO_1 : w.heap.size + 1 + 1 < wr.heap.size := hO1.lt
   clear HR HE
   go_wp2
   refine bodyPost_ret (v := .agg #[.int .i64 x.1, .slice A9 (List.length (keepE pAll x.2)) c9]) (by simp [results, Try.results102, go_sem, kB_1_0, fB_1_0, kB_1_1, fB_1_1, kR_1_0, fR_1_0, kR_1_1, fR_1_1, kO_1_0, fO_1_0, kO_1_1, fO_1_1, zB_1, zR_1, zO_1]) rfl ?_
   exact ⟨_, rfl, ((HR9.out.far b_30 _).far b_30 _).mono b_34, b_6⟩
theorem C_spec_l12Copy (w : World) (cs : List Value) (x : Ty.D tContentStore) (h : Ty.rd w tContentStore cs x) (s0 : Ty.bulk tContentStore x ≤ 1048576) :
  Calls Try.prog 102 #[.agg cs.toArray] w (RetAgg w tContentStore (keepSt pAll x)) :=
 (C_spec_l12CopyR w cs x h s0).mono (fun e w' hr => by have h0 := store_i0 h; exact hr.agg h0)
set_option maxRecDepth 100000 in
set_option maxHeartbeats 4000000 in
theorem C_spec_EvictStale0R (w : World) (cs : List Value) (x : Ty.D tContentStore) (now : Int) (h : Ty.rd w tContentStore cs x) (s0 : Ty.bulk tContentStore x ≤ 1048576) (i1 : -9223372036854775808 ≤ now ∧ now ≤ 9223372036854775807) :
  Calls Try.prog 33 #[.agg cs.toArray, .int .i64 now] w (RetStore w 127 (keepSt (pFresh now) x)) := by
 obtain ⟨Ax1, cx1, rfl, xg0, xg1⟩ := rd_ContentStore h
 have s0e := store_bulk' s0
 have hxl := Ty.bulk_len s0e
 obtain ⟨_, _, _, _, _, m9⟩ := Ty.rd_sl xg1
 have hB0 : Blk (((w.alloc (.cells #[.int .i64 x.1, .slice Ax1 (List.length x.2) cx1] 55)).alloc (.cells #[.int .i64 0, .slice none 0 0] 55)).alloc (.cells #[.int .i64 x.1, .slice none 0 0] 55)) w.heap.size 55 #[.int .i64 x.1, .slice Ax1 (List.length x.2) cx1] := ((Blk.new w _ _).alloc _).alloc _
 have hR0 : Blk (((w.alloc (.cells #[.int .i64 x.1, .slice Ax1 (List.length x.2) cx1] 55)).alloc (.cells #[.int .i64 0, .slice none 0 0] 55)).alloc (.cells #[.int .i64 x.1, .slice none 0 0] 55)) (w.heap.size + 1) 55 #[.int .i64 0, .slice none 0 0] := Blk.alloc (by have := Blk.new (w.alloc (.cells #[.int .i64 x.1, .slice Ax1 (List.length x.2) cx1] 55)) 55 #[.int .i64 0, .slice none 0 0]; rwa [World.size_alloc] at this) _
 have hO0 : Blk (((w.alloc (.cells #[.int .i64 x.1, .slice Ax1 (List.length x.2) cx1] 55)).alloc (.cells #[.int .i64 0, .slice none 0 0] 55)).alloc (.cells #[.int .i64 x.1, .slice none 0 0] 55)) (w.heap.size + 1 + 1) 55 #[.int .i64 x.1, .slice none 0 0] := b_10
 have hvb : Below w.heap.size w (((w.alloc (.cells #[.int .i64 x.1, .slice Ax1 (List.length x.2) cx1] 55)).alloc (.cells #[.int .i64 0, .slice none 0 0] 55)).alloc (.cells #[.int .i64 x.1, .slice none 0 0] 55)) := b_6
 have zb0 := Lib.hid (show (((w.alloc (.cells #[.int .i64 x.1, .slice Ax1 (List.length x.2) cx1] 55)).alloc (.cells #[.int .i64 0, .slice none 0 0] 55)).alloc (.cells #[.int .i64 x.1, .slice none 0 0] 55)).heap.size = w.heap.size + 1 + 1 + 1 from by simp only [World.size_alloc])
 go_enter Try.func33, Try.ntmps33
 go_wp2
 generalize (((w.alloc (.cells #[.int .i64 x.1, .slice Ax1 (List.length x.2) cx1] 55)).alloc (.cells #[.int .i64 0, .slice none 0 0] 55)).alloc (.cells #[.int .i64 x.1, .slice none 0 0] 55)) = WX at hB0 hR0 hO0 hvb zb0 ⊢
 go_loopw [6] (fun i wr => ∃ (k : Nat) (vo : Value), k ≤ List.length x.2 ∧ i = .int .i64 k ∧ Blk wr w.heap.size 55 #[.int .i64 x.1, .slice Ax1 (List.length x.2) cx1] ∧ Blk wr (w.heap.size + 1) 55 #[.int .i64 0, .slice none 0 0] ∧ Blk wr (w.heap.size + 1 + 1) 55 #[.int .i64 x.1, vo] ∧ DRow tCacheEntry wr (w.heap.size + 1 + 1 + 1) 127 vo (keepE (pFresh now) (x.2.take k)) ∧ Below w.heap.size w wr ∧ w.heap.size + 1 + 1 + 1 ≤ wr.heap.size) (fun i _ => List.length x.2 - (intOf i).toNat)
 case atStart => exact ⟨0, .slice none 0 0, by omega, rfl, hB0, hR0, hO0, DRow.nil _ _ _ _, hvb, by rw [zb0.out]; exact Nat.le_refl _⟩
 case round =>
  obtain ⟨k, vo, hk, rfl, hB, hR, hO, hr, hw, hs⟩ := hrel
  have HR := Lib.hid hr
  clear hr
  have hw' := Lib.hid hw
  have kB1 : wr.cell? ⟨w.heap.size, 1, none⟩ = some (.slice Ax1 (List.length x.2) cx1) := hB.cell 1
  have zB1 : w.heap.size < wr.heap.size := hB.lt
  by_cases hlt : k < List.length x.2
  ·have HL := Lib.hid (keepE_len (pFresh now) x.2 hk)
   obtain ⟨b, o, dse, rfl, hle, hcelle, hrde⟩ := Ty.rd_at (xg1) hlt
   have hrde' := hrde
   obtain ⟨Ae00, ce00, Ae01, ce01, Ae02, ce02, rfl, eg0, eg1⟩ := rd_CacheEntry hrde
   have e0 : w.cell? ⟨b, o + k * 6, none⟩ = some (.slice Ae00 (List.length (x.2)[k].1.1) ce00) := by simpa [Ty.sz] using hcelle 0 b_33
   have e1 : w.cell? ⟨b, o + k * 6 + 1, none⟩ = some (.slice Ae01 (List.length (x.2)[k].1.2.1) ce01) := by simpa [Ty.sz] using hcelle 1 b_33
   have e2 : w.cell? ⟨b, o + k * 6 + 2, none⟩ = some (.slice Ae02 (List.length (x.2)[k].1.2.2.1) ce02) := by simpa [Ty.sz] using hcelle 2 b_33
   have e3 : w.cell? ⟨b, o + k * 6 + 3, none⟩ = some (.int .i64 (x.2)[k].1.2.2.2.1) := by simpa [Ty.sz] using hcelle 3 b_33
   have e4 : w.cell? ⟨b, o + k * 6 + 4, none⟩ = some (.int .i64 (x.2)[k].1.2.2.2.2) := by simpa [Ty.sz] using hcelle 4 b_33
   have e5 : w.cell? ⟨b, o + k * 6 + 5, none⟩ = some (.int .i64 (x.2)[k].2) := by simpa [Ty.sz] using hcelle 5 b_33
   clear hcelle hle
   have hbk : Ty.bulk tData (x.2)[k].1 ≤ 1000000000 := Nat.le_trans (entry_bulk' (Ty.bulk_at s0e hlt)) b_33
   have hlb : b < w.heap.size := World.block_lt_of_cell? w _ e0
   have i8 : (0 : Int) ≤ (k : Int) := by omega
   have i9 : (k : Int) < (List.length x.2 : Int) := by omega
   have f0 : wr.cell? ⟨b, o + k * 6, none⟩ = some (.slice Ae00 (List.length (x.2)[k].1.1) ce00) := (hw.cell (p := ⟨b, o + k * 6, none⟩) hlb).trans e0
   have f1 : wr.cell? ⟨b, o + k * 6 + 1, none⟩ = some (.slice Ae01 (List.length (x.2)[k].1.2.1) ce01) := (hw.cell (p := ⟨b, o + k * 6 + 1, none⟩) hlb).trans e1
   have f2 : wr.cell? ⟨b, o + k * 6 + 2, none⟩ = some (.slice Ae02 (List.length (x.2)[k].1.2.2.1) ce02) := (hw.cell (p := ⟨b, o + k * 6 + 2, none⟩) hlb).trans e2
   have f3 : wr.cell? ⟨b, o + k * 6 + 3, none⟩ = some (.int .i64 (x.2)[k].1.2.2.2.1) := (hw.cell (p := ⟨b, o + k * 6 + 3, none⟩) hlb).trans e3
   have f4 : wr.cell? ⟨b, o + k * 6 + 4, none⟩ = some (.int .i64 (x.2)[k].1.2.2.2.2) := (hw.cell (p := ⟨b, o + k * 6 + 4, none⟩) hlb).trans e4
   have f5 : wr.cell? ⟨b, o + k * 6 + 5, none⟩ = some (.int .i64 (x.2)[k].2) := (hw.cell (p := ⟨b, o + k * 6 + 5, none⟩) hlb).trans e5
   go_wp2_with fail
   refine (C_spec_FreshAt _ _ (x.2)[k].1 now (Ty.rd_below hw eg0) (entry_bulk' (Ty.bulk_at s0e hlt)) i1).mono ?_
   rintro e w1 ⟨rfl, hb1⟩
   have hwf : Below wr.heap.size wr w1 := hb1
   have kB2 : w1.cell? ⟨w.heap.size, 1, none⟩ = some (.slice (some ⟨b, o, none⟩) (List.length x.2) cx1) := (hwf.cell (p := ⟨w.heap.size, 1, none⟩) zB1).trans kB1
   have zB2 : w.heap.size < w1.heap.size := Nat.lt_of_lt_of_le zB1 hwf.size
   have g0 : w1.cell? ⟨b, o + k * 6, none⟩ = some (.slice Ae00 (List.length (x.2)[k].1.1) ce00) := (hwf.cell (p := ⟨b, o + k * 6, none⟩) (Nat.lt_of_lt_of_le hlb hw.size)).trans f0
   have g1 : w1.cell? ⟨b, o + k * 6 + 1, none⟩ = some (.slice Ae01 (List.length (x.2)[k].1.2.1) ce01) := (hwf.cell (p := ⟨b, o + k * 6 + 1, none⟩) (Nat.lt_of_lt_of_le hlb hw.size)).trans f1
   have g2 : w1.cell? ⟨b, o + k * 6 + 2, none⟩ = some (.slice Ae02 (List.length (x.2)[k].1.2.2.1) ce02) := (hwf.cell (p := ⟨b, o + k * 6 + 2, none⟩) (Nat.lt_of_lt_of_le hlb hw.size)).trans f2
   have g3 : w1.cell? ⟨b, o + k * 6 + 3, none⟩ = some (.int .i64 (x.2)[k].1.2.2.2.1) := (hwf.cell (p := ⟨b, o + k * 6 + 3, none⟩) (Nat.lt_of_lt_of_le hlb hw.size)).trans f3
   have g4 : w1.cell? ⟨b, o + k * 6 + 4, none⟩ = some (.int .i64 (x.2)[k].1.2.2.2.2) := (hwf.cell (p := ⟨b, o + k * 6 + 4, none⟩) (Nat.lt_of_lt_of_le hlb hw.size)).trans f4
   have g5 : w1.cell? ⟨b, o + k * 6 + 5, none⟩ = some (.int .i64 (x.2)[k].2) := (hwf.cell (p := ⟨b, o + k * 6 + 5, none⟩) (Nat.lt_of_lt_of_le hlb hw.size)).trans f5
   cases hq : f_FreshAt (x.2)[k].1 now
   ·have HY := Lib.hid (keepE_no (p := (pFresh now)) hlt hq)
    go_wp2
    go_roundw
    case rel => exact ⟨k + 1, vo, by omega, by go_num, hB.below hwf hB.lt, hR.below hwf hR.lt, hO.below hwf hO.lt, by rw [HY.out]; exact HR.out.below hwf, bel_trans hw hwf, Nat.le_trans hs hwf.size⟩
    case measure => simp [intOf]; omega
   have HY := Lib.hid (keepE_yes (p := (pFresh now)) hlt hq)
   clear hq
   go_wp2_with fail
   refine (C_spec_l8Copy _ _ (x.2)[k].1 (Ty.rd_below (bel_trans hw hwf) eg0) hbk).mono ?_
   rintro e w2 ⟨cs2, fp2, rfl, how2, hfr2, hb2⟩
   obtain ⟨Aq0, cq0, Aq1, cq1, Aq2, cq2, rfl⟩ := ow_Data how2
   have hz2 := hb2.size
   have hz1 := hwf.size
   have h2E : Below w2.heap.size w2 (w2.alloc (.cells #[.slice Aq0 (List.length (x.2)[k].1.1) cq0, .slice Aq1 (List.length (x.2)[k].1.2.1) cq1, .slice Aq2 (List.length (x.2)[k].1.2.2.1) cq2, .int .i64 (x.2)[k].1.2.2.2.1, .int .i64 (x.2)[k].1.2.2.2.2] 46)) := b_6
   have zE : w2.heap.size < (w2.alloc (.cells #[.slice Aq0 (List.length (x.2)[k].1.1) cq0, .slice Aq1 (List.length (x.2)[k].1.2.1) cq1, .slice Aq2 (List.length (x.2)[k].1.2.2.1) cq2, .int .i64 (x.2)[k].1.2.2.2.1, .int .i64 (x.2)[k].1.2.2.2.2] 46)).heap.size := by rw [World.size_alloc]; omega
   have hE : Blk (w2.alloc (.cells #[.slice Aq0 (List.length (x.2)[k].1.1) cq0, .slice Aq1 (List.length (x.2)[k].1.2.1) cq1, .slice Aq2 (List.length (x.2)[k].1.2.2.1) cq2, .int .i64 (x.2)[k].1.2.2.2.1, .int .i64 (x.2)[k].1.2.2.2.2] 46)) w2.heap.size 46 #[.slice Aq0 (List.length (x.2)[k].1.1) cq0, .slice Aq1 (List.length (x.2)[k].1.2.1) cq1, .slice Aq2 (List.length (x.2)[k].1.2.2.1) cq2, .int .i64 (x.2)[k].1.2.2.2.1, .int .i64 (x.2)[k].1.2.2.2.2] := Blk.new _ _ _
   go_wp2_with fail
   generalize (w2.alloc (.cells #[.slice Aq0 (List.length (x.2)[k].1.1) cq0, .slice Aq1 (List.length (x.2)[k].1.2.1) cq1, .slice Aq2 (List.length (x.2)[k].1.2.2.1) cq2, .int .i64 (x.2)[k].1.2.2.2.1, .int .i64 (x.2)[k].1.2.2.2.2] 46)) = WE at h2E zE hE ⊢
   have hwe : Below wr.heap.size wr WE := bel_trans hwf (bel_trans hb2 h2E)
   have hv0 : Below WE.heap.size WE WE := Below.refl _ _
   have hze := hwe.size
   clear kB1 zB1 kB2 zB2  f0 f1 f2 f3 f4 f5 g0 g1 g2 g3 g4 g5
   have SB : Hid (∀ V, Below w.heap.size w V → Blk V w2.heap.size 46 #[.slice Aq0 (List.length (x.2)[k].1.1) cq0, .slice Aq1 (List.length (x.2)[k].1.2.1) cq1, .slice Aq2 (List.length (x.2)[k].1.2.2.1) cq2, .int .i64 (x.2)[k].1.2.2.2.1, .int .i64 (x.2)[k].1.2.2.2.2] → Blk V w.heap.size 55 #[.int .i64 x.1, .slice (some ⟨b, o, none⟩) (List.length x.2) cx1] → Below w.heap.size w V ∧ V.cell? ⟨w2.heap.size, 0, none⟩ = some (.slice Aq0 (List.length (x.2)[k].1.1) cq0) ∧ V.cell? ⟨w2.heap.size, 1, none⟩ = some (.slice Aq1 (List.length (x.2)[k].1.2.1) cq1) ∧ V.cell? ⟨w2.heap.size, 2, none⟩ = some (.slice Aq2 (List.length (x.2)[k].1.2.2.1) cq2) ∧ V.cell? ⟨w2.heap.size, 3, none⟩ = some (.int .i64 (x.2)[k].1.2.2.2.1) ∧ V.cell? ⟨w2.heap.size, 4, none⟩ = some (.int .i64 (x.2)[k].1.2.2.2.2) ∧ V.cell? ⟨w.heap.size, 1, none⟩ = some (.slice (some ⟨b, o, none⟩) (List.length x.2) cx1) ∧ V.cell? ⟨b, o + k * 6 + 5, none⟩ = some (.int .i64 (x.2)[k].2)) := fun V h1 h2 h3 => ⟨h1, h2.cell 0, h2.cell 1, h2.cell 2, h2.cell 3, h2.cell 4, h3.cell 1, (h1.cell (p := ⟨b, o + k * 6 + 5, none⟩) hlb).trans e5⟩
   have HH : Hid (∀ V, Below WE.heap.size WE V → Below w.heap.size w V ∧ V.cell? ⟨w2.heap.size, 0, none⟩ = some (.slice Aq0 (List.length (x.2)[k].1.1) cq0) ∧ V.cell? ⟨w2.heap.size, 1, none⟩ = some (.slice Aq1 (List.length (x.2)[k].1.2.1) cq1) ∧ V.cell? ⟨w2.heap.size, 2, none⟩ = some (.slice Aq2 (List.length (x.2)[k].1.2.2.1) cq2) ∧ V.cell? ⟨w2.heap.size, 3, none⟩ = some (.int .i64 (x.2)[k].1.2.2.2.1) ∧ V.cell? ⟨w2.heap.size, 4, none⟩ = some (.int .i64 (x.2)[k].1.2.2.2.2) ∧ V.cell? ⟨w.heap.size, 1, none⟩ = some (.slice (some ⟨b, o, none⟩) (List.length x.2) cx1) ∧ V.cell? ⟨b, o + k * 6 + 5, none⟩ = some (.int .i64 (x.2)[k].2)) := fun V hV => SB.out V (bel_trans hw (bel_trans hwe hV)) (hE.below hV hE.lt) ((hB.below hwe hB.lt).below hV (hB.below hwe hB.lt).lt)
   have hO1 := hO.below hwe hO.lt
   have kO1 : WE.cell? ⟨w.heap.size + 1 + 1, 1, none⟩ = some vo := hO1.cell 1
   have zO1 : w.heap.size + 1 + 1 < WE.heap.size := hO1.lt
   refine wp_region_noPanic ?_
   refine wp_region_held_drew (S := (fun W => Below w.heap.size w W ∧ W.cell? ⟨w2.heap.size, 0, none⟩ = some (.slice Aq0 (List.length (x.2)[k].1.1) cq0) ∧ W.cell? ⟨w2.heap.size, 1, none⟩ = some (.slice Aq1 (List.length (x.2)[k].1.2.1) cq1) ∧ W.cell? ⟨w2.heap.size, 2, none⟩ = some (.slice Aq2 (List.length (x.2)[k].1.2.2.1) cq2) ∧ W.cell? ⟨w2.heap.size, 3, none⟩ = some (.int .i64 (x.2)[k].1.2.2.2.1) ∧ W.cell? ⟨w2.heap.size, 4, none⟩ = some (.int .i64 (x.2)[k].1.2.2.2.2) ∧ W.cell? ⟨w.heap.size, 1, none⟩ = some (.slice (some ⟨b, o, none⟩) (List.length x.2) cx1) ∧ W.cell? ⟨b, o + k * 6 + 5, none⟩ = some (.int .i64 (x.2)[k].2))) b_31 ?_ (fun hHeld => ?_)
   ·exact HH.out _ b_2
   refine tkz4 0 2 3 4 ?_
   try simp only [layz]
   refine tkz4 5 6 7 8 ?_
   try simp only [layz]
   refine tkz 9 ?_
   try simp only [layz]
   refine rz2 1 10 (fun K hK => ?_) (fun K hK => ?_)
   ·go_simp
    refine hK.out _ _ (HH.out _ b_2) (fun hHeld => ?_)
    clear hK K
    try simp only [layz]
    refine rz1 10 (fun K hK => ?_)
    go_simp
    refine hK.out _ _ (HH.out _ b_2) (fun hHeld => ?_)
    clear hK K
    try simp only [layz]
    refine rz1 11 (fun K hK => ?_)
    refine step_append_drow b_35 _ _ 53 b_35 wr (w.heap.size + 1 + 1 + 1) 127 info_CacheEntry rfl Try.underlying53 _ _ (keepE (pFresh now) (x.2.take k)) [(x.2)[k]] b_35 b_35 HR.out (bel_trans hwe b_2) b_0 (by have := HL.out; rw [List.length_singleton]; omega) b_19 hs ?_
    intro v' w' hr' hg'
    obtain ⟨vn, An, cn, hvn⟩ : ∃ n A c, v' = .slice A n c := by obtain ⟨A, c, h⟩ := hr'.form; exact ⟨_, A, c, h⟩
    subst hvn
    have hBn := grow_blk (bel_trans hwe b_2) hg' hB (fun e => by have := (HR.out.block _ e.symm).1; omega)
    have hRn := grow_blk (bel_trans hwe b_2) hg' hR (fun e => by have := (HR.out.block _ e.symm).1; omega)
    have hOn := grow_blk (bel_trans hwe b_2) hg' hO (fun e => by have := (HR.out.block _ e.symm).1; omega)
    have hEn := grow_blk (w0 := WE) b_2 hg' hE (fun e => by have := (HR.out.block _ e.symm).2; omega)
    have hbn : Below w.heap.size w w' := grow_bel (bel_trans hw (bel_trans hwe b_2)) hg' (fun g hg => by have := (HR.out.block g hg).1; omega)
    have hszn : wr.heap.size ≤ w'.heap.size := grow_size (bel_trans hwe b_2) hg'
    have kOn1 : w'.cell? ⟨w.heap.size + 1 + 1, 1, none⟩ = some vo := hOn.cell 1
    have fOn1 : w'.frozen? ⟨w.heap.size + 1 + 1, 1, none⟩ = false := hOn.frozen 1
    have zOn : w.heap.size + 1 + 1 < w'.heap.size := hOn.lt
    refine hK.out _ _ (SB.out _ hbn hEn hBn) (fun hHeld => ?_)
    clear hK K
    try simp only [layz]
    refine tkz 12 ?_
    try simp only [layz]
    refine rz1 13 (fun K hK => ?_)
    go_simp
    refine hK.out _ _ (SB.out _ (bel_set hbn b_30 _) (hEn.far b_30 _) (hBn.far b_30 _)) (fun hHeld => ?_)
    clear hK K
    try simp only [layz]
    refine wpAnyH_done b_31 ?_ _
    refine NoPanic.normal ?_
    have HR2 := Lib.hid (hr'.far (p := ⟨w.heap.size + 1 + 1, 1, none⟩) b_30 (.slice An vn cn))
    have hO2 := hOn.set_ 1 (.slice An vn cn)
    have hB2 := hBn.far (p := ⟨w.heap.size + 1 + 1, 1, none⟩) b_30 (.slice An vn cn)
    have hR2 := hRn.far (p := ⟨w.heap.size + 1 + 1, 1, none⟩) b_30 (.slice An vn cn)
    have hb2 : Below w.heap.size w (w'.setCell ⟨w.heap.size + 1 + 1, 1, none⟩ (.slice An vn cn)) := bel_set hbn b_30 (.slice An vn cn)
    clear hr' hg' kOn1 fOn1 zOn
    go_wp2
    go_roundw
    case rel => exact ⟨k + 1, .slice An vn cn, by omega, by go_num, hB2, hR2, hO2, by rw [HY.out]; exact HR2.out, hb2, by rw [World.size_setCell]; omega⟩
    case measure => simp [intOf]; omega
   ·go_simp
    refine hK.out _ _ (HH.out _ b_2) (fun hHeld => ?_)
    clear hK K
    try simp only [layz]
    refine rz1 1 (fun K hK => ?_)
    go_simp
    refine hK.out _ _ (HH.out _ b_2) (fun hHeld => ?_)
    clear hK K
    try simp only [layz]
    refine rz1 11 (fun K hK => ?_)
    refine step_append_drow b_35 _ _ 53 b_35 wr (w.heap.size + 1 + 1 + 1) 127 info_CacheEntry rfl Try.underlying53 _ _ (keepE (pFresh now) (x.2.take k)) [(x.2)[k]] b_35 b_35 HR.out (bel_trans hwe b_2) b_0 (by have := HL.out; rw [List.length_singleton]; omega) b_19 hs ?_
    intro v' w' hr' hg'
    obtain ⟨vn, An, cn, hvn⟩ : ∃ n A c, v' = .slice A n c := by obtain ⟨A, c, h⟩ := hr'.form; exact ⟨_, A, c, h⟩
    subst hvn
    have hBn := grow_blk (bel_trans hwe b_2) hg' hB (fun e => by have := (HR.out.block _ e.symm).1; omega)
    have hRn := grow_blk (bel_trans hwe b_2) hg' hR (fun e => by have := (HR.out.block _ e.symm).1; omega)
    have hOn := grow_blk (bel_trans hwe b_2) hg' hO (fun e => by have := (HR.out.block _ e.symm).1; omega)
    have hEn := grow_blk (w0 := WE) b_2 hg' hE (fun e => by have := (HR.out.block _ e.symm).2; omega)
    have hbn : Below w.heap.size w w' := grow_bel (bel_trans hw (bel_trans hwe b_2)) hg' (fun g hg => by have := (HR.out.block g hg).1; omega)
    have hszn : wr.heap.size ≤ w'.heap.size := grow_size (bel_trans hwe b_2) hg'
    have kOn1 : w'.cell? ⟨w.heap.size + 1 + 1, 1, none⟩ = some vo := hOn.cell 1
    have fOn1 : w'.frozen? ⟨w.heap.size + 1 + 1, 1, none⟩ = false := hOn.frozen 1
    have zOn : w.heap.size + 1 + 1 < w'.heap.size := hOn.lt
    refine hK.out _ _ (SB.out _ hbn hEn hBn) (fun hHeld => ?_)
    clear hK K
    try simp only [layz]
    refine tkz 12 ?_
    try simp only [layz]
    refine rz1 13 (fun K hK => ?_)
    go_simp
    refine hK.out _ _ (SB.out _ (bel_set hbn b_30 _) (hEn.far b_30 _) (hBn.far b_30 _)) (fun hHeld => ?_)
    clear hK K
    try simp only [layz]
    refine wpAnyH_done b_31 ?_ _
    refine NoPanic.normal ?_
    have HR2 := Lib.hid (hr'.far (p := ⟨w.heap.size + 1 + 1, 1, none⟩) b_30 (.slice An vn cn))
    have hO2 := hOn.set_ 1 (.slice An vn cn)
    have hB2 := hBn.far (p := ⟨w.heap.size + 1 + 1, 1, none⟩) b_30 (.slice An vn cn)
    have hR2 := hRn.far (p := ⟨w.heap.size + 1 + 1, 1, none⟩) b_30 (.slice An vn cn)
    have hb2 : Below w.heap.size w (w'.setCell ⟨w.heap.size + 1 + 1, 1, none⟩ (.slice An vn cn)) := bel_set hbn b_30 (.slice An vn cn)
    clear hr' hg' kOn1 fOn1 zOn
    go_wp2
    go_roundw
    case rel => exact ⟨k + 1, .slice An vn cn, by omega, by go_num, hB2, hR2, hO2, by rw [HY.out]; exact HR2.out, hb2, by rw [World.size_setCell]; omega⟩
    case measure => simp [intOf]; omega
  ·have HE : Hid (keepE (pFresh now) (x.2.take k) = keepE (pFresh now) x.2) := by unfold Hid; rw [List.take_of_length_le b_34]
   obtain ⟨A9, c9, hv9⟩ := HR.out.form
   subst hv9
   have hr9 := HR.out
   rw [HE.out] at hO hr9
   have HR9 := Lib.hid hr9
   clear hr9
   have zB9 : w.heap.size < wr.heap.size := hB.lt
   have hB1 := hB
   have hR1 := hR
   have hO1 := hO
   clear hB hR hO
   have kB_1_0 : wr.cell? ⟨w.heap.size, 0, none⟩ = some (.int .i64 x.1) := hB1.cell 0
   have fB_1_0 : wr.frozen? ⟨w.heap.size, 0, none⟩ = false := hB1.frozen 0
   have kB_1_1 : wr.cell? ⟨w.heap.size, 1, none⟩ = some (.slice Ax1 (List.length x.2) cx1) := hB1.cell 1
   have fB_1_1 : wr.frozen? ⟨w.heap.size, 1, none⟩ = false := hB1.frozen 1
   have zB_1 : w.heap.size < wr.heap.size := hB1.lt
   have kR_1_0 : wr.cell? ⟨w.heap.size + 1, 0, none⟩ = some (.int .i64 0) := hR1.cell 0
   have fR_1_0 : wr.frozen? ⟨w.heap.size + 1, 0, none⟩ = false := hR1.frozen 0
   have kR_1_1 : wr.cell? ⟨w.heap.size + 1, 1, none⟩ = some (.slice none 0 0) := hR1.cell 1
   have fR_1_1 : wr.frozen? ⟨w.heap.size + 1, 1, none⟩ = false := hR1.frozen 1
   have zR_1 : w.heap.size + 1 < wr.heap.size := hR1.lt
   have kO_1_0 : wr.cell? ⟨w.heap.size + 1 + 1, 0, none⟩ = some (.int .i64 x.1) := hO1.cell 0
   have fO_1_0 : wr.frozen? ⟨w.heap.size + 1 + 1, 0, none⟩ = false := hO1.frozen 0
   have kO_1_1 : wr.cell? ⟨w.heap.size + 1 + 1, 1, none⟩ = some (.slice A9 (List.length (keepE (pFresh now) x.2)) c9) := hO1.cell 1
   have fO_1_1 : wr.frozen? ⟨w.heap.size + 1 + 1, 1, none⟩ = false := hO1.frozen 1
   have zO_1 : w.heap.size + 1 + 1 < wr.heap.size := hO1.lt
   clear HR HE
   go_wp2
   refine bodyPost_ret (v := .agg #[.int .i64 x.1, .slice A9 (List.length (keepE (pFresh now) x.2)) c9]) (by simp [results, Try.results33, go_sem, kB_1_0, fB_1_0, kB_1_1, fB_1_1, kR_1_0, fR_1_0, kR_1_1, fR_1_1, kO_1_0, fO_1_0, kO_1_1, fO_1_1, zB_1, zR_1, zO_1]) rfl ?_
   exact ⟨_, rfl, ((HR9.out.far b_30 _).far b_30 _).mono b_34, b_6⟩
theorem C_spec_EvictStale0 (w : World) (cs : List Value) (x : Ty.D tContentStore) (now : Int) (h : Ty.rd w tContentStore cs x) (s0 : Ty.bulk tContentStore x ≤ 1048576) (i1 : -9223372036854775808 ≤ now ∧ now ≤ 9223372036854775807) :
  Calls Try.prog 33 #[.agg cs.toArray, .int .i64 now] w (RetAgg w tContentStore (keepSt (pFresh now) x)) :=
 (C_spec_EvictStale0R w cs x now h s0 i1).mono (fun e w' hr => by have h0 := store_i0 h; exact hr.agg h0)
set_option maxHeartbeats 1000000 in
theorem C_impl_copyStore1 (W : World) (ds : List Value) (d : Ty.D tCacheEntry) (hx : Ty.rd W tCacheEntry ds d) :
  Calls Try.prog 156 #[.agg ds.toArray] W (RetB W true) := by
 obtain ⟨Ad00, cd00, Ad01, cd01, Ad02, cd02, rfl, dg0, dg1⟩ := rd_CacheEntry hx
 go_enter Try.func156, Try.ntmps156
 go_wp2
 go_ret
 exact ⟨rfl, b_6⟩
set_option maxHeartbeats 1000000 in
theorem C_impl_EvictStale1 (W : World) (ds : List Value) (d : Ty.D tCacheEntry) (now : Int) (bo : Nat) (hx : Ty.rd W tCacheEntry ds d) (ko : W.cell? ⟨bo, 0, none⟩ = some (.int .i64 now)) (sx : Ty.bulk tCacheEntry d ≤ 1048576) (i1 : -9223372036854775808 ≤ now ∧ now ≤ 9223372036854775807) :
  Calls Try.prog 106 #[.agg ds.toArray, .pointer (some ⟨bo, 0, none⟩)] W (RetB W (f_FreshAt d.1 now)) := by
 obtain ⟨Ad00, cd00, Ad01, cd01, Ad02, cd02, rfl, dg0, dg1⟩ := rd_CacheEntry hx
 have lo : bo < W.heap.size := World.block_lt_of_cell? W _ ko
 go_enter Try.func106, Try.ntmps106
 go_wp2_with fail
 refine (C_impl_FreshAt _ _ d.1 now (Ty.rd_below b_6 dg0) (entry_bulk' sx) i1).mono ?_
 rintro e w1 ⟨rfl, hb1⟩
 go_wp2
 go_ret
 exact ⟨rfl, bel_trans b_6 hb1⟩
set_option maxRecDepth 100000 in
set_option maxHeartbeats 1000000 in
theorem C_impl_copyStore (w : World) (cs : List Value) (x : Ty.D tContentStore) (h : Ty.rd w tContentStore cs x) (s0 : Ty.bulk tContentStore x ≤ 1048576) :
  Calls Try.prog 93 #[.agg cs.toArray] w (RetAgg w tContentStore (keepSt pAll x)) := by
 obtain ⟨Ax1, cx1, rfl, xg0, xg1⟩ := rd_ContentStore h
 have s0e := store_bulk' s0
 have hxl := Ty.bulk_len s0e
 obtain ⟨_, _, _, _, _, m9⟩ := Ty.rd_sl xg1
 have kb0_0 : ((w.alloc (.cells #[.int .i64 x.1, .slice Ax1 (List.length x.2) cx1] 55)).alloc (.cells #[.int .i64 0, .slice none 0 0] 55)).cell? ⟨w.heap.size, 0, none⟩ = some (.int .i64 x.1) := ((World.cell?_alloc_lt _ _ _ b_26).trans (cell_new w _ _ 0 b_24))
 have kb0_1 : ((w.alloc (.cells #[.int .i64 x.1, .slice Ax1 (List.length x.2) cx1] 55)).alloc (.cells #[.int .i64 0, .slice none 0 0] 55)).cell? ⟨w.heap.size, 1, none⟩ = some (.slice Ax1 (List.length x.2) cx1) := ((World.cell?_alloc_lt _ _ _ b_26).trans (cell_new w _ _ 1 b_24))
 have kb1_0 : ((w.alloc (.cells #[.int .i64 x.1, .slice Ax1 (List.length x.2) cx1] 55)).alloc (.cells #[.int .i64 0, .slice none 0 0] 55)).cell? ⟨w.heap.size + 1, 0, none⟩ = some (.int .i64 0) := (cell_new (w.alloc (.cells #[.int .i64 x.1, .slice Ax1 (List.length x.2) cx1] 55)) _ _ 0 b_24)
 have kb1_1 : ((w.alloc (.cells #[.int .i64 x.1, .slice Ax1 (List.length x.2) cx1] 55)).alloc (.cells #[.int .i64 0, .slice none 0 0] 55)).cell? ⟨w.heap.size + 1, 1, none⟩ = some (.slice none 0 0) := (cell_new (w.alloc (.cells #[.int .i64 x.1, .slice Ax1 (List.length x.2) cx1] 55)) _ _ 1 b_24)
 have hvb : Below w.heap.size w ((w.alloc (.cells #[.int .i64 x.1, .slice Ax1 (List.length x.2) cx1] 55)).alloc (.cells #[.int .i64 0, .slice none 0 0] 55)) := b_6
 have zb0 := Lib.hid (show ((w.alloc (.cells #[.int .i64 x.1, .slice Ax1 (List.length x.2) cx1] 55)).alloc (.cells #[.int .i64 0, .slice none 0 0] 55)).heap.size = w.heap.size + 1 + 1 from by simp only [World.size_alloc])
 have zb : w.heap.size + 1 < ((w.alloc (.cells #[.int .i64 x.1, .slice Ax1 (List.length x.2) cx1] 55)).alloc (.cells #[.int .i64 0, .slice none 0 0] 55)).heap.size := by simp only [World.size_alloc]; omega
 have hR0 : Blk ((w.alloc (.cells #[.int .i64 x.1, .slice Ax1 (List.length x.2) cx1] 55)).alloc (.cells #[.int .i64 0, .slice none 0 0] 55)) (w.heap.size + 1) 55 #[.int .i64 0, .slice none 0 0] := by have := Blk.new (w.alloc (.cells #[.int .i64 x.1, .slice Ax1 (List.length x.2) cx1] 55)) 55 #[.int .i64 0, .slice none 0 0]; rwa [World.size_alloc] at this
 have hmf := hmf_ (P := Try.prog)
 go_enter Try.func93, Try.ntmps93
 go_wp2_with fail
 generalize ((w.alloc (.cells #[.int .i64 x.1, .slice Ax1 (List.length x.2) cx1] 55)).alloc (.cells #[.int .i64 0, .slice none 0 0] 55)) = WX at hR0 kb0_0 kb0_1 kb1_0 kb1_1 hvb zb zb0 ⊢
 have HC : Hid (∀ V, Below WX.heap.size WX V → V.cell? ⟨w.heap.size, 0, none⟩ = some (.int .i64 x.1) ∧ V.cell? ⟨w.heap.size, 1, none⟩ = some (.slice Ax1 (List.length x.2) cx1) ∧ V.cell? ⟨w.heap.size + 1, 0, none⟩ = some (.int .i64 0) ∧ V.cell? ⟨w.heap.size + 1, 1, none⟩ = some (.slice none 0 0)) := fun V hW => ⟨(hW.cell (p := ⟨w.heap.size, 0, none⟩) b_30).trans kb0_0, (hW.cell (p := ⟨w.heap.size, 1, none⟩) b_30).trans kb0_1, (hW.cell (p := ⟨w.heap.size + 1, 0, none⟩) b_30).trans kb1_0, (hW.cell (p := ⟨w.heap.size + 1, 1, none⟩) b_30).trans kb1_1⟩
 clear kb0_0 kb0_1 kb1_0 kb1_1
 refine (C_impl_keepStore _ _ x pAll 156 #[] (enters_of Try.func156 b_31 rfl) (Ty.rd_below hvb h) s0 (fun W ds d hd hr hW => ?_)).mono ?_
 ·rw [Array.append_empty]; exact C_impl_copyStore1 W ds d hr
 rintro e w1 ⟨cs1, fp1, rfl, how1, hfr1, hb1⟩
 obtain ⟨Aq1, cq1, rfl⟩ := ow_ContentStore how1
 have hz1 := hb1.size
 have hR1 := hR0.below hb1 hR0.lt
 have kR_1_0 : w1.cell? ⟨w.heap.size + 1, 0, none⟩ = some (.int .i64 0) := hR1.cell 0
 have fR_1_0 : w1.frozen? ⟨w.heap.size + 1, 0, none⟩ = false := hR1.frozen 0
 have kR_1_1 : w1.cell? ⟨w.heap.size + 1, 1, none⟩ = some (.slice none 0 0) := hR1.cell 1
 have fR_1_1 : w1.frozen? ⟨w.heap.size + 1, 1, none⟩ = false := hR1.frozen 1
 have zR_1 : w.heap.size + 1 < w1.heap.size := hR1.lt
 go_wp2
 refine bodyPost_ret (v := .agg #[.int .i64 (keepSt pAll x).1, .slice Aq1 (List.length (keepSt pAll x).2) cq1]) (by simp [results, Try.results93, go_sem, kR_1_0, fR_1_0, kR_1_1, fR_1_1, zR_1]) rfl ?_
 exact ⟨_, fp1, rfl, Ty.ow_keep b_5 how1, hfr1.mono b_34 b_23, b_2⟩
set_option maxRecDepth 100000 in
set_option maxHeartbeats 1000000 in
theorem C_impl_EvictStale0 (w : World) (cs : List Value) (x : Ty.D tContentStore) (now : Int) (h : Ty.rd w tContentStore cs x) (s0 : Ty.bulk tContentStore x ≤ 1048576) (i1 : -9223372036854775808 ≤ now ∧ now ≤ 9223372036854775807) :
  Calls Try.prog 32 #[.agg cs.toArray, .int .i64 now] w (RetAgg w tContentStore (keepSt (pFresh now) x)) := by
 obtain ⟨Ax1, cx1, rfl, xg0, xg1⟩ := rd_ContentStore h
 have s0e := store_bulk' s0
 have hxl := Ty.bulk_len s0e
 obtain ⟨_, _, _, _, _, m9⟩ := Ty.rd_sl xg1
 have kb0_0 : (((w.alloc (.cells #[.int .i64 x.1, .slice Ax1 (List.length x.2) cx1] 55)).alloc (.cells #[.int .i64 now] 3)).alloc (.cells #[.int .i64 0, .slice none 0 0] 55)).cell? ⟨w.heap.size, 0, none⟩ = some (.int .i64 x.1) := ((World.cell?_alloc_lt _ _ _ b_26).trans ((World.cell?_alloc_lt _ _ _ b_26).trans (cell_new w _ _ 0 b_24)))
 have kb0_1 : (((w.alloc (.cells #[.int .i64 x.1, .slice Ax1 (List.length x.2) cx1] 55)).alloc (.cells #[.int .i64 now] 3)).alloc (.cells #[.int .i64 0, .slice none 0 0] 55)).cell? ⟨w.heap.size, 1, none⟩ = some (.slice Ax1 (List.length x.2) cx1) := ((World.cell?_alloc_lt _ _ _ b_26).trans ((World.cell?_alloc_lt _ _ _ b_26).trans (cell_new w _ _ 1 b_24)))
 have kb1_0 : (((w.alloc (.cells #[.int .i64 x.1, .slice Ax1 (List.length x.2) cx1] 55)).alloc (.cells #[.int .i64 now] 3)).alloc (.cells #[.int .i64 0, .slice none 0 0] 55)).cell? ⟨w.heap.size + 1, 0, none⟩ = some (.int .i64 now) := ((World.cell?_alloc_lt _ _ _ b_26).trans (cell_new (w.alloc (.cells #[.int .i64 x.1, .slice Ax1 (List.length x.2) cx1] 55)) _ _ 0 b_24))
 have kb2_0 : (((w.alloc (.cells #[.int .i64 x.1, .slice Ax1 (List.length x.2) cx1] 55)).alloc (.cells #[.int .i64 now] 3)).alloc (.cells #[.int .i64 0, .slice none 0 0] 55)).cell? ⟨w.heap.size + 1 + 1, 0, none⟩ = some (.int .i64 0) := (cell_new ((w.alloc (.cells #[.int .i64 x.1, .slice Ax1 (List.length x.2) cx1] 55)).alloc (.cells #[.int .i64 now] 3)) _ _ 0 b_24)
 have kb2_1 : (((w.alloc (.cells #[.int .i64 x.1, .slice Ax1 (List.length x.2) cx1] 55)).alloc (.cells #[.int .i64 now] 3)).alloc (.cells #[.int .i64 0, .slice none 0 0] 55)).cell? ⟨w.heap.size + 1 + 1, 1, none⟩ = some (.slice none 0 0) := (cell_new ((w.alloc (.cells #[.int .i64 x.1, .slice Ax1 (List.length x.2) cx1] 55)).alloc (.cells #[.int .i64 now] 3)) _ _ 1 b_24)
 have hvb : Below w.heap.size w (((w.alloc (.cells #[.int .i64 x.1, .slice Ax1 (List.length x.2) cx1] 55)).alloc (.cells #[.int .i64 now] 3)).alloc (.cells #[.int .i64 0, .slice none 0 0] 55)) := b_6
 have zb0 := Lib.hid (show (((w.alloc (.cells #[.int .i64 x.1, .slice Ax1 (List.length x.2) cx1] 55)).alloc (.cells #[.int .i64 now] 3)).alloc (.cells #[.int .i64 0, .slice none 0 0] 55)).heap.size = w.heap.size + 1 + 1 + 1 from by simp only [World.size_alloc])
 have zb : w.heap.size + 1 + 1 < (((w.alloc (.cells #[.int .i64 x.1, .slice Ax1 (List.length x.2) cx1] 55)).alloc (.cells #[.int .i64 now] 3)).alloc (.cells #[.int .i64 0, .slice none 0 0] 55)).heap.size := by simp only [World.size_alloc]; omega
 have hR0 : Blk (((w.alloc (.cells #[.int .i64 x.1, .slice Ax1 (List.length x.2) cx1] 55)).alloc (.cells #[.int .i64 now] 3)).alloc (.cells #[.int .i64 0, .slice none 0 0] 55)) (w.heap.size + 1 + 1) 55 #[.int .i64 0, .slice none 0 0] := by have := Blk.new ((w.alloc (.cells #[.int .i64 x.1, .slice Ax1 (List.length x.2) cx1] 55)).alloc (.cells #[.int .i64 now] 3)) 55 #[.int .i64 0, .slice none 0 0]; rwa [World.size_alloc, World.size_alloc] at this
 have hmf := hmf_ (P := Try.prog)
 go_enter Try.func32, Try.ntmps32
 go_wp2_with fail
 generalize (((w.alloc (.cells #[.int .i64 x.1, .slice Ax1 (List.length x.2) cx1] 55)).alloc (.cells #[.int .i64 now] 3)).alloc (.cells #[.int .i64 0, .slice none 0 0] 55)) = WX at hR0 kb0_0 kb0_1 kb1_0 kb2_0 kb2_1 hvb zb zb0 ⊢
 have HC : Hid (∀ V, Below WX.heap.size WX V → V.cell? ⟨w.heap.size, 0, none⟩ = some (.int .i64 x.1) ∧ V.cell? ⟨w.heap.size, 1, none⟩ = some (.slice Ax1 (List.length x.2) cx1) ∧ V.cell? ⟨w.heap.size + 1, 0, none⟩ = some (.int .i64 now) ∧ V.cell? ⟨w.heap.size + 1 + 1, 0, none⟩ = some (.int .i64 0) ∧ V.cell? ⟨w.heap.size + 1 + 1, 1, none⟩ = some (.slice none 0 0)) := fun V hW => ⟨(hW.cell (p := ⟨w.heap.size, 0, none⟩) b_30).trans kb0_0, (hW.cell (p := ⟨w.heap.size, 1, none⟩) b_30).trans kb0_1, (hW.cell (p := ⟨w.heap.size + 1, 0, none⟩) b_30).trans kb1_0, (hW.cell (p := ⟨w.heap.size + 1 + 1, 0, none⟩) b_30).trans kb2_0, (hW.cell (p := ⟨w.heap.size + 1 + 1, 1, none⟩) b_30).trans kb2_1⟩
 clear kb0_0 kb0_1 kb1_0 kb2_0 kb2_1
 refine (C_impl_keepStore _ _ x (pFresh now) 106 #[.pointer (some ⟨w.heap.size + 1, 0, none⟩)] (enters_of Try.func106 b_31 rfl) (Ty.rd_below hvb h) s0 (fun W ds d hd hr hW => ?_)).mono ?_
 ·obtain ⟨i, hi, rfl⟩ := List.getElem_of_mem hd
  exact C_impl_EvictStale1 W ds _ now _ hr (HC.out W hW).2.2.1 (Ty.bulk_at s0e hi) i1
 rintro e w1 ⟨cs1, fp1, rfl, how1, hfr1, hb1⟩
 obtain ⟨Aq1, cq1, rfl⟩ := ow_ContentStore how1
 have hz1 := hb1.size
 have hR1 := hR0.below hb1 hR0.lt
 have kR_1_0 : w1.cell? ⟨w.heap.size + 1 + 1, 0, none⟩ = some (.int .i64 0) := hR1.cell 0
 have fR_1_0 : w1.frozen? ⟨w.heap.size + 1 + 1, 0, none⟩ = false := hR1.frozen 0
 have kR_1_1 : w1.cell? ⟨w.heap.size + 1 + 1, 1, none⟩ = some (.slice none 0 0) := hR1.cell 1
 have fR_1_1 : w1.frozen? ⟨w.heap.size + 1 + 1, 1, none⟩ = false := hR1.frozen 1
 have zR_1 : w.heap.size + 1 + 1 < w1.heap.size := hR1.lt
 go_wp2
 refine bodyPost_ret (v := .agg #[.int .i64 (keepSt (pFresh now) x).1, .slice Aq1 (List.length (keepSt (pFresh now) x).2) cq1]) (by simp [results, Try.results32, go_sem, kR_1_0, fR_1_0, kR_1_1, fR_1_1, zR_1]) rfl ?_
 exact ⟨_, fp1, rfl, Ty.ow_keep b_5 how1, hfr1.mono b_34 b_23, b_2⟩
def f_EvictStale (x : Ty.D tContentStore) (now : Int) : Ty.D tContentStore := keepSt (pFresh now) x
theorem C_impl_EvictStale (w : World) (cs : List Value) (x : Ty.D tContentStore) (now : Int) (h : Ty.rd w tContentStore cs x) (s0 : Ty.bulk tContentStore x ≤ 1048576) (i1 : -9223372036854775808 ≤ now ∧ now ≤ 9223372036854775807) :
  Calls Try.prog 32 #[.agg cs.toArray, .int .i64 now] w (RetAgg w tContentStore (f_EvictStale x now)) := C_impl_EvictStale0 w cs x now h s0 i1
theorem C_spec_EvictStale (w : World) (cs : List Value) (x : Ty.D tContentStore) (now : Int) (h : Ty.rd w tContentStore cs x) (s0 : Ty.bulk tContentStore x ≤ 1048576) (i1 : -9223372036854775808 ≤ now ∧ now ≤ 9223372036854775807) :
  Calls Try.prog 33 #[.agg cs.toArray, .int .i64 now] w (RetAgg w tContentStore (f_EvictStale x now)) := C_spec_EvictStale0 w cs x now h s0 i1
end Go.Proofs.Ytldgbnlcnlfmeaa
