/- Texts of this claim, merged by a program: Cdi. -/
import Derived.Test.YtldgbnlcnlfmeaaQcP
import Derived.Test.YtldgbnlcnlfmeaaQc6
import Derived.Test.YtldgbnlcnlfmeaaQc5
namespace Go.Proofs.Ytldgbnlcnlfmeaa
open Go.RowKit
set_option linter.unusedVariables false
set_option linter.unusedSimpArgs false
def notName (n : List (List UInt8)) (e : Ty.D tCacheEntry) : Bool := !entName n e
def usedAt (l : List (Ty.D tCacheEntry)) (i : Nat) : Int := match l[i]? with | some e => e.2 | none => 0
theorem usedAt_at {l : List (Ty.D tCacheEntry)} {i : Nat} (h : i < l.length) : usedAt l i = l[i].2 := by unfold usedAt; rw [List.getElem?_eq_getElem h]
def leastTo (l : List (Ty.D tCacheEntry)) : Nat → Nat
 | 0 => 0
 | k + 1 => if usedAt l k < usedAt l (leastTo l k) then k else leastTo l k
theorem leastTo_lt {l : List (Ty.D tCacheEntry)} (h : 0 < l.length) : ∀ {k : Nat}, k ≤ l.length → leastTo l k < l.length
 | 0, _ => h
 | k + 1, hk => by
  unfold leastTo
  split
  ·omega
  ·exact leastTo_lt h b_34
theorem leastTo_one (l : List (Ty.D tCacheEntry)) : leastTo l 1 = 0 := by unfold leastTo; rw [if_neg (by unfold leastTo; omega)]; rfl
def roomFor (c : Int) (l : List (Ty.D tCacheEntry)) : List (Ty.D tCacheEntry) := if c ≤ (l.length : Int) then dropAt l (leastTo l l.length) else l
def cacheE (x : Ty.D tContentStore) (d : Ty.D tData) (now : Int) : List (Ty.D tCacheEntry) := roomFor x.1 (keepE (notName d.1) x.2) ++ [(d, now)]
def f_CacheData (x : Ty.D tContentStore) (d : Ty.D tData) (now : Int) : Ty.D tContentStore := if decide (x.1 < 1) = true ∨ f_ValidData d = false then x else (x.1, cacheE x d now)
theorem dropAt_bulk (l : List (Ty.D tCacheEntry)) (k : Nat) : Ty.bulk (.sl tCacheEntry) (dropAt l k) ≤ Ty.bulk (.sl tCacheEntry) l := by
 unfold dropAt
 have h1 := bulk_app (e := tCacheEntry) (l.take k) (l.drop (k + 1))
 have h2 := bulk_app (e := tCacheEntry) (l.take k) (l.drop k)
 rw [List.take_append_drop] at h2
 have h3 := bulk_drop (e := tCacheEntry) (l.drop k) 1
 rw [List.drop_drop] at h3
 omega
theorem roomFor_bulk (c : Int) (l : List (Ty.D tCacheEntry)) : Ty.bulk (.sl tCacheEntry) (roomFor c l) ≤ Ty.bulk (.sl tCacheEntry) l := by
 unfold roomFor; split
 ·exact dropAt_bulk _ _
 ·exact Nat.le_refl _
theorem DRowF.form {e : Ty} {w : World} {base : Nat} {te : TypeId} {v : Value} {x : List e.D} {fp : List Nat} (h : DRowF e w base te v x fp) : ∃ A c, v = .slice A x.length c := by
 obtain ⟨css, fs, h1, _⟩ := h
 rcases h1.2 with ⟨rfl, hn⟩ | ⟨g, cap, cur, rfl, _⟩
 ·exact ⟨none, 0, by rw [hn]⟩
 ·exact ⟨_, cap, rfl⟩
theorem frI_sub {lo hi : Nat} {f g : List Nat} (h : FrI lo hi g) (hs : List.Sublist f g) : FrI lo hi f := ⟨hs.nodup h.1, fun b hb => h.2 b (hs.subset hb)⟩
theorem DRowF.far {e : Ty} {w : World} {base : Nat} {te : TypeId} {v : Value} {x : List e.D} {fp : List Nat} (h : DRowF e w base te v x fp) {p : Addr} (h1 : p.block ∉ fp) (h2 : ∀ g, v.ownBlock = some g → g ≠ p.block) (u : Value) : DRowF e (w.setCell p u) base te v x fp :=
 h.keep b_22 (fun b hb => Below.heap_setCell w p u b (fun e => h1 (by rw [← e]; exact hb))) (fun g hg => Below.heap_setCell w p u g (h2 g hg))
set_option maxHeartbeats 1000000 in
theorem C_impl_CacheData1 (W : World) (ds : List Value) (e : Ty.D tCacheEntry) (n : List (List UInt8)) (A : Option Addr) (c bo : Nat) (hx : Ty.rd W tCacheEntry ds e) (ko : W.cell? ⟨bo, 0, none⟩ = some (.slice A (List.length n) c)) (hn : (Ty.sl .str).rd W [.slice A (List.length n) c] n) :
  Calls Try.prog 95 #[.agg ds.toArray, .pointer (some ⟨bo, 0, none⟩)] W (RetB W (notName n e)) := by
 obtain ⟨Ae00, ce00, Ae01, ce01, Ae02, ce02, rfl, eg0, eg1⟩ := rd_CacheEntry hx
 have lo : bo < W.heap.size := World.block_lt_of_cell? W _ ko
 have hng : Ty.rd W (.sl .str) [.slice Ae00 (List.length e.1.1) ce00] e.1.1 := rd_pr_head eg0
 go_enter Try.func95, Try.ntmps95
 go_wp2_with fail
 refine (C_impl_EqualNames _ _ _ _ _ (Ty.rd_below b_6 hng) (Ty.rd_below b_6 hn)).mono ?_
 rintro e w1 ⟨rfl, hb1⟩
 go_wp2
 go_ret
 exact ⟨rfl, bel_trans b_6 hb1⟩
set_option maxRecDepth 100000 in
set_option maxHeartbeats 4000000 in
theorem C_impl_CacheData (w : World) (cs1 : List Value) (x : Ty.D tContentStore) (cs2 : List Value) (d : Ty.D tData) (now : Int) (h1 : Ty.rd w tContentStore cs1 x) (h2 : Ty.rd w tData cs2 d) (s0 : Ty.bulk tContentStore x ≤ 1048576) (s1 : Ty.bulk tData d ≤ 1048576) (i2 : -9223372036854775808 ≤ now ∧ now ≤ 9223372036854775807) :
  Calls Try.prog 20 #[.agg cs1.toArray, .agg cs2.toArray, .int .i64 now] w (RetAgg w tContentStore (f_CacheData x d now)) := by
 have h1' := h1
 have h2' := h2
 obtain ⟨Ax1, cx1, rfl, xg0, xg1⟩ := rd_ContentStore h1
 obtain ⟨Ad0, cd0, Ad1, cd1, Ad2, cd2, rfl, dg0, dg1, dg2, dg3, dg4⟩ := rd_Data h2
 have s0e := store_bulk' s0
 have hxl := Ty.bulk_len s0e
 have hbk : Ty.bulk tData d ≤ 1000000000 := Nat.le_trans s1 b_33
 have hF : f_CacheData x d now = if decide (x.1 < 1) = true ∨ f_ValidData d = false then x else (x.1, cacheE x d now) := rfl
 generalize f_CacheData x d now = F at hF ⊢
 have HF := Lib.hid hF
 clear hF
 have kb0_0 : (((w.alloc (.cells #[.int .i64 x.1, .slice Ax1 (List.length x.2) cx1] 55)).alloc (.cells #[.slice Ad0 (List.length d.1) cd0, .slice Ad1 (List.length d.2.1) cd1, .slice Ad2 (List.length d.2.2.1) cd2, .int .i64 d.2.2.2.1, .int .i64 d.2.2.2.2] 46)).alloc (.cells #[.int .i64 0, .slice none 0 0] 55)).cell? ⟨w.heap.size, 0, none⟩ = some (.int .i64 x.1) := ((World.cell?_alloc_lt _ _ _ b_26).trans ((World.cell?_alloc_lt _ _ _ b_26).trans (cell_new w _ _ 0 b_24)))
 have kb0_1 : (((w.alloc (.cells #[.int .i64 x.1, .slice Ax1 (List.length x.2) cx1] 55)).alloc (.cells #[.slice Ad0 (List.length d.1) cd0, .slice Ad1 (List.length d.2.1) cd1, .slice Ad2 (List.length d.2.2.1) cd2, .int .i64 d.2.2.2.1, .int .i64 d.2.2.2.2] 46)).alloc (.cells #[.int .i64 0, .slice none 0 0] 55)).cell? ⟨w.heap.size, 1, none⟩ = some (.slice Ax1 (List.length x.2) cx1) := ((World.cell?_alloc_lt _ _ _ b_26).trans ((World.cell?_alloc_lt _ _ _ b_26).trans (cell_new w _ _ 1 b_24)))
 have kb1_0 : (((w.alloc (.cells #[.int .i64 x.1, .slice Ax1 (List.length x.2) cx1] 55)).alloc (.cells #[.slice Ad0 (List.length d.1) cd0, .slice Ad1 (List.length d.2.1) cd1, .slice Ad2 (List.length d.2.2.1) cd2, .int .i64 d.2.2.2.1, .int .i64 d.2.2.2.2] 46)).alloc (.cells #[.int .i64 0, .slice none 0 0] 55)).cell? ⟨w.heap.size + 1, 0, none⟩ = some (.slice Ad0 (List.length d.1) cd0) := ((World.cell?_alloc_lt _ _ _ b_26).trans (cell_new (w.alloc (.cells #[.int .i64 x.1, .slice Ax1 (List.length x.2) cx1] 55)) _ _ 0 b_24))
 have kb1_1 : (((w.alloc (.cells #[.int .i64 x.1, .slice Ax1 (List.length x.2) cx1] 55)).alloc (.cells #[.slice Ad0 (List.length d.1) cd0, .slice Ad1 (List.length d.2.1) cd1, .slice Ad2 (List.length d.2.2.1) cd2, .int .i64 d.2.2.2.1, .int .i64 d.2.2.2.2] 46)).alloc (.cells #[.int .i64 0, .slice none 0 0] 55)).cell? ⟨w.heap.size + 1, 1, none⟩ = some (.slice Ad1 (List.length d.2.1) cd1) := ((World.cell?_alloc_lt _ _ _ b_26).trans (cell_new (w.alloc (.cells #[.int .i64 x.1, .slice Ax1 (List.length x.2) cx1] 55)) _ _ 1 b_24))
 have kb1_2 : (((w.alloc (.cells #[.int .i64 x.1, .slice Ax1 (List.length x.2) cx1] 55)).alloc (.cells #[.slice Ad0 (List.length d.1) cd0, .slice Ad1 (List.length d.2.1) cd1, .slice Ad2 (List.length d.2.2.1) cd2, .int .i64 d.2.2.2.1, .int .i64 d.2.2.2.2] 46)).alloc (.cells #[.int .i64 0, .slice none 0 0] 55)).cell? ⟨w.heap.size + 1, 2, none⟩ = some (.slice Ad2 (List.length d.2.2.1) cd2) := ((World.cell?_alloc_lt _ _ _ b_26).trans (cell_new (w.alloc (.cells #[.int .i64 x.1, .slice Ax1 (List.length x.2) cx1] 55)) _ _ 2 b_24))
 have kb1_3 : (((w.alloc (.cells #[.int .i64 x.1, .slice Ax1 (List.length x.2) cx1] 55)).alloc (.cells #[.slice Ad0 (List.length d.1) cd0, .slice Ad1 (List.length d.2.1) cd1, .slice Ad2 (List.length d.2.2.1) cd2, .int .i64 d.2.2.2.1, .int .i64 d.2.2.2.2] 46)).alloc (.cells #[.int .i64 0, .slice none 0 0] 55)).cell? ⟨w.heap.size + 1, 3, none⟩ = some (.int .i64 d.2.2.2.1) := ((World.cell?_alloc_lt _ _ _ b_26).trans (cell_new (w.alloc (.cells #[.int .i64 x.1, .slice Ax1 (List.length x.2) cx1] 55)) _ _ 3 b_24))
 have kb1_4 : (((w.alloc (.cells #[.int .i64 x.1, .slice Ax1 (List.length x.2) cx1] 55)).alloc (.cells #[.slice Ad0 (List.length d.1) cd0, .slice Ad1 (List.length d.2.1) cd1, .slice Ad2 (List.length d.2.2.1) cd2, .int .i64 d.2.2.2.1, .int .i64 d.2.2.2.2] 46)).alloc (.cells #[.int .i64 0, .slice none 0 0] 55)).cell? ⟨w.heap.size + 1, 4, none⟩ = some (.int .i64 d.2.2.2.2) := ((World.cell?_alloc_lt _ _ _ b_26).trans (cell_new (w.alloc (.cells #[.int .i64 x.1, .slice Ax1 (List.length x.2) cx1] 55)) _ _ 4 b_24))
 have kb2_0 : (((w.alloc (.cells #[.int .i64 x.1, .slice Ax1 (List.length x.2) cx1] 55)).alloc (.cells #[.slice Ad0 (List.length d.1) cd0, .slice Ad1 (List.length d.2.1) cd1, .slice Ad2 (List.length d.2.2.1) cd2, .int .i64 d.2.2.2.1, .int .i64 d.2.2.2.2] 46)).alloc (.cells #[.int .i64 0, .slice none 0 0] 55)).cell? ⟨w.heap.size + 1 + 1, 0, none⟩ = some (.int .i64 0) := (cell_new ((w.alloc (.cells #[.int .i64 x.1, .slice Ax1 (List.length x.2) cx1] 55)).alloc (.cells #[.slice Ad0 (List.length d.1) cd0, .slice Ad1 (List.length d.2.1) cd1, .slice Ad2 (List.length d.2.2.1) cd2, .int .i64 d.2.2.2.1, .int .i64 d.2.2.2.2] 46)) _ _ 0 b_24)
 have kb2_1 : (((w.alloc (.cells #[.int .i64 x.1, .slice Ax1 (List.length x.2) cx1] 55)).alloc (.cells #[.slice Ad0 (List.length d.1) cd0, .slice Ad1 (List.length d.2.1) cd1, .slice Ad2 (List.length d.2.2.1) cd2, .int .i64 d.2.2.2.1, .int .i64 d.2.2.2.2] 46)).alloc (.cells #[.int .i64 0, .slice none 0 0] 55)).cell? ⟨w.heap.size + 1 + 1, 1, none⟩ = some (.slice none 0 0) := (cell_new ((w.alloc (.cells #[.int .i64 x.1, .slice Ax1 (List.length x.2) cx1] 55)).alloc (.cells #[.slice Ad0 (List.length d.1) cd0, .slice Ad1 (List.length d.2.1) cd1, .slice Ad2 (List.length d.2.2.1) cd2, .int .i64 d.2.2.2.1, .int .i64 d.2.2.2.2] 46)) _ _ 1 b_24)
 have hvb : Below w.heap.size w (((w.alloc (.cells #[.int .i64 x.1, .slice Ax1 (List.length x.2) cx1] 55)).alloc (.cells #[.slice Ad0 (List.length d.1) cd0, .slice Ad1 (List.length d.2.1) cd1, .slice Ad2 (List.length d.2.2.1) cd2, .int .i64 d.2.2.2.1, .int .i64 d.2.2.2.2] 46)).alloc (.cells #[.int .i64 0, .slice none 0 0] 55)) := b_6
 have zb0 := Lib.hid (show (((w.alloc (.cells #[.int .i64 x.1, .slice Ax1 (List.length x.2) cx1] 55)).alloc (.cells #[.slice Ad0 (List.length d.1) cd0, .slice Ad1 (List.length d.2.1) cd1, .slice Ad2 (List.length d.2.2.1) cd2, .int .i64 d.2.2.2.1, .int .i64 d.2.2.2.2] 46)).alloc (.cells #[.int .i64 0, .slice none 0 0] 55)).heap.size = w.heap.size + 1 + 1 + 1 from by simp only [World.size_alloc])
 have zb : w.heap.size + 1 + 1 < (((w.alloc (.cells #[.int .i64 x.1, .slice Ax1 (List.length x.2) cx1] 55)).alloc (.cells #[.slice Ad0 (List.length d.1) cd0, .slice Ad1 (List.length d.2.1) cd1, .slice Ad2 (List.length d.2.2.1) cd2, .int .i64 d.2.2.2.1, .int .i64 d.2.2.2.2] 46)).alloc (.cells #[.int .i64 0, .slice none 0 0] 55)).heap.size := by simp only [World.size_alloc]; omega
 have hB0 : Blk (((w.alloc (.cells #[.int .i64 x.1, .slice Ax1 (List.length x.2) cx1] 55)).alloc (.cells #[.slice Ad0 (List.length d.1) cd0, .slice Ad1 (List.length d.2.1) cd1, .slice Ad2 (List.length d.2.2.1) cd2, .int .i64 d.2.2.2.1, .int .i64 d.2.2.2.2] 46)).alloc (.cells #[.int .i64 0, .slice none 0 0] 55)) w.heap.size 55 #[.int .i64 x.1, .slice Ax1 (List.length x.2) cx1] := ((Blk.new w _ _).alloc _).alloc _
 have hD0 : Blk (((w.alloc (.cells #[.int .i64 x.1, .slice Ax1 (List.length x.2) cx1] 55)).alloc (.cells #[.slice Ad0 (List.length d.1) cd0, .slice Ad1 (List.length d.2.1) cd1, .slice Ad2 (List.length d.2.2.1) cd2, .int .i64 d.2.2.2.1, .int .i64 d.2.2.2.2] 46)).alloc (.cells #[.int .i64 0, .slice none 0 0] 55)) (w.heap.size + 1) 46 #[.slice Ad0 (List.length d.1) cd0, .slice Ad1 (List.length d.2.1) cd1, .slice Ad2 (List.length d.2.2.1) cd2, .int .i64 d.2.2.2.1, .int .i64 d.2.2.2.2] := Blk.alloc (by have := Blk.new (w.alloc (.cells #[.int .i64 x.1, .slice Ax1 (List.length x.2) cx1] 55)) 46 #[.slice Ad0 (List.length d.1) cd0, .slice Ad1 (List.length d.2.1) cd1, .slice Ad2 (List.length d.2.2.1) cd2, .int .i64 d.2.2.2.1, .int .i64 d.2.2.2.2]; rwa [World.size_alloc] at this) _
 have hR0 : Blk (((w.alloc (.cells #[.int .i64 x.1, .slice Ax1 (List.length x.2) cx1] 55)).alloc (.cells #[.slice Ad0 (List.length d.1) cd0, .slice Ad1 (List.length d.2.1) cd1, .slice Ad2 (List.length d.2.2.1) cd2, .int .i64 d.2.2.2.1, .int .i64 d.2.2.2.2] 46)).alloc (.cells #[.int .i64 0, .slice none 0 0] 55)) (w.heap.size + 1 + 1) 55 #[.int .i64 0, .slice none 0 0] := by have := Blk.new ((w.alloc (.cells #[.int .i64 x.1, .slice Ax1 (List.length x.2) cx1] 55)).alloc (.cells #[.slice Ad0 (List.length d.1) cd0, .slice Ad1 (List.length d.2.1) cd1, .slice Ad2 (List.length d.2.2.1) cd2, .int .i64 d.2.2.2.1, .int .i64 d.2.2.2.2] 46)) 55 #[.int .i64 0, .slice none 0 0]; rwa [World.size_alloc, World.size_alloc] at this
 have hmf := hmf_ (P := Try.prog)
 by_cases hc : x.1 < 1
 ·have q0 : decide (x.1 < 1) = true := decide_eq_true hc
  have HZ := Lib.hid (show F = x from by rw [HF.out, if_pos (Or.inl q0)])
  go_enter Try.func20, Try.ntmps20
  go_wp2_with fail
  generalize (((w.alloc (.cells #[.int .i64 x.1, .slice Ax1 (List.length x.2) cx1] 55)).alloc (.cells #[.slice Ad0 (List.length d.1) cd0, .slice Ad1 (List.length d.2.1) cd1, .slice Ad2 (List.length d.2.2.1) cd2, .int .i64 d.2.2.2.1, .int .i64 d.2.2.2.2] 46)).alloc (.cells #[.int .i64 0, .slice none 0 0] 55)) = WX at hB0 hD0 hR0 kb0_0 kb0_1 kb1_0 kb1_1 kb1_2 kb1_3 kb1_4 kb2_0 kb2_1 hvb zb zb0 ⊢
  have HC : Hid (∀ V, Below WX.heap.size WX V → V.cell? ⟨w.heap.size, 0, none⟩ = some (.int .i64 x.1) ∧ V.cell? ⟨w.heap.size, 1, none⟩ = some (.slice Ax1 (List.length x.2) cx1) ∧ V.cell? ⟨w.heap.size + 1, 0, none⟩ = some (.slice Ad0 (List.length d.1) cd0) ∧ V.cell? ⟨w.heap.size + 1, 1, none⟩ = some (.slice Ad1 (List.length d.2.1) cd1) ∧ V.cell? ⟨w.heap.size + 1, 2, none⟩ = some (.slice Ad2 (List.length d.2.2.1) cd2) ∧ V.cell? ⟨w.heap.size + 1, 3, none⟩ = some (.int .i64 d.2.2.2.1) ∧ V.cell? ⟨w.heap.size + 1, 4, none⟩ = some (.int .i64 d.2.2.2.2) ∧ V.cell? ⟨w.heap.size + 1 + 1, 0, none⟩ = some (.int .i64 0) ∧ V.cell? ⟨w.heap.size + 1 + 1, 1, none⟩ = some (.slice none 0 0)) := fun V hW => ⟨(hW.cell (p := ⟨w.heap.size, 0, none⟩) b_30).trans kb0_0, (hW.cell (p := ⟨w.heap.size, 1, none⟩) b_30).trans kb0_1, (hW.cell (p := ⟨w.heap.size + 1, 0, none⟩) b_30).trans kb1_0, (hW.cell (p := ⟨w.heap.size + 1, 1, none⟩) b_30).trans kb1_1, (hW.cell (p := ⟨w.heap.size + 1, 2, none⟩) b_30).trans kb1_2, (hW.cell (p := ⟨w.heap.size + 1, 3, none⟩) b_30).trans kb1_3, (hW.cell (p := ⟨w.heap.size + 1, 4, none⟩) b_30).trans kb1_4, (hW.cell (p := ⟨w.heap.size + 1 + 1, 0, none⟩) b_30).trans kb2_0, (hW.cell (p := ⟨w.heap.size + 1 + 1, 1, none⟩) b_30).trans kb2_1⟩
  clear kb0_0 kb0_1 kb1_0 kb1_1 kb1_2 kb1_3 kb1_4 kb2_0 kb2_1
  have hcp := C_impl_copyStore WX _ x (Ty.rd_below (bel_trans hvb (Below.refl _ _)) h1') s0
  rw [keep_all] at hcp
  refine hcp.mono ?_
  rintro e w8 ⟨cs8, fp8, rfl, how8, hfr8, hb8⟩
  clear hcp
  obtain ⟨Aq1, cq1, rfl⟩ := ow_ContentStore how8
  have hx8 : Below WX.heap.size WX w8 := bel_trans (Below.refl _ _) hb8
  have hw8 : Below w.heap.size w w8 := bel_trans hvb hx8
  have hz8 := hb8.size
  have hzx := (show Below WX.heap.size WX WX from (Below.refl _ _)).size
  have hR8 := hR0.below hx8 hR0.lt
  have kR_8_0 : w8.cell? ⟨w.heap.size + 1 + 1, 0, none⟩ = some (.int .i64 0) := hR8.cell 0
  have fR_8_0 : w8.frozen? ⟨w.heap.size + 1 + 1, 0, none⟩ = false := hR8.frozen 0
  have kR_8_1 : w8.cell? ⟨w.heap.size + 1 + 1, 1, none⟩ = some (.slice none 0 0) := hR8.cell 1
  have fR_8_1 : w8.frozen? ⟨w.heap.size + 1 + 1, 1, none⟩ = false := hR8.frozen 1
  have zR_8 : w.heap.size + 1 + 1 < w8.heap.size := hR8.lt
  go_wp2
  refine bodyPost_ret (v := .agg #[.int .i64 x.1, .slice Aq1 (List.length x.2) cq1]) (by simp [results, Try.results20, go_sem, kR_8_0, fR_8_0, kR_8_1, fR_8_1, zR_8]) rfl ?_
  rw [HZ.out]
  exact ⟨_, fp8, rfl, Ty.ow_keep (by intro b hb'; have hb'' := (hfr8).2 b hb'; (try simp only [szz] at hb''); repeat (first | (with_reducible rfl) | (rw [Below.heap_setCell _ _ _ _ b_29]) | (rw [Below.heap_alloc _ _ _ b_20]))) how8, hfr8.mono b_34 b_23, b_6⟩
 have q0 : decide (x.1 < 1) = false := decide_eq_false hc
 cases q1 : f_ValidData d
 ·have HZ := Lib.hid (show F = x from by rw [HF.out, if_pos (Or.inr q1)])
  go_enter Try.func20, Try.ntmps20
  go_wp2_with fail
  generalize (((w.alloc (.cells #[.int .i64 x.1, .slice Ax1 (List.length x.2) cx1] 55)).alloc (.cells #[.slice Ad0 (List.length d.1) cd0, .slice Ad1 (List.length d.2.1) cd1, .slice Ad2 (List.length d.2.2.1) cd2, .int .i64 d.2.2.2.1, .int .i64 d.2.2.2.2] 46)).alloc (.cells #[.int .i64 0, .slice none 0 0] 55)) = WX at hB0 hD0 hR0 kb0_0 kb0_1 kb1_0 kb1_1 kb1_2 kb1_3 kb1_4 kb2_0 kb2_1 hvb zb zb0 ⊢
  have HC : Hid (∀ V, Below WX.heap.size WX V → V.cell? ⟨w.heap.size, 0, none⟩ = some (.int .i64 x.1) ∧ V.cell? ⟨w.heap.size, 1, none⟩ = some (.slice Ax1 (List.length x.2) cx1) ∧ V.cell? ⟨w.heap.size + 1, 0, none⟩ = some (.slice Ad0 (List.length d.1) cd0) ∧ V.cell? ⟨w.heap.size + 1, 1, none⟩ = some (.slice Ad1 (List.length d.2.1) cd1) ∧ V.cell? ⟨w.heap.size + 1, 2, none⟩ = some (.slice Ad2 (List.length d.2.2.1) cd2) ∧ V.cell? ⟨w.heap.size + 1, 3, none⟩ = some (.int .i64 d.2.2.2.1) ∧ V.cell? ⟨w.heap.size + 1, 4, none⟩ = some (.int .i64 d.2.2.2.2) ∧ V.cell? ⟨w.heap.size + 1 + 1, 0, none⟩ = some (.int .i64 0) ∧ V.cell? ⟨w.heap.size + 1 + 1, 1, none⟩ = some (.slice none 0 0)) := fun V hW => ⟨(hW.cell (p := ⟨w.heap.size, 0, none⟩) b_30).trans kb0_0, (hW.cell (p := ⟨w.heap.size, 1, none⟩) b_30).trans kb0_1, (hW.cell (p := ⟨w.heap.size + 1, 0, none⟩) b_30).trans kb1_0, (hW.cell (p := ⟨w.heap.size + 1, 1, none⟩) b_30).trans kb1_1, (hW.cell (p := ⟨w.heap.size + 1, 2, none⟩) b_30).trans kb1_2, (hW.cell (p := ⟨w.heap.size + 1, 3, none⟩) b_30).trans kb1_3, (hW.cell (p := ⟨w.heap.size + 1, 4, none⟩) b_30).trans kb1_4, (hW.cell (p := ⟨w.heap.size + 1 + 1, 0, none⟩) b_30).trans kb2_0, (hW.cell (p := ⟨w.heap.size + 1 + 1, 1, none⟩) b_30).trans kb2_1⟩
  clear kb0_0 kb0_1 kb1_0 kb1_1 kb1_2 kb1_3 kb1_4 kb2_0 kb2_1
  refine (C_impl_ValidData _ _ d (Ty.rd_below hvb h2') s1).mono ?_
  rw [q1]
  rintro e w1 ⟨rfl, hb1⟩
  obtain ⟨j0, j1, j2, j3, j4, j5, j6, j7, j8⟩ := HC.out _ (hb1)
  have zw1 : w.heap.size < w1.heap.size := by have := hb1.size; omega
  go_wp2_with fail
  have hcp := C_impl_copyStore w1 _ x (Ty.rd_below (bel_trans hvb hb1) h1') s0
  rw [keep_all] at hcp
  refine hcp.mono ?_
  rintro e w8 ⟨cs8, fp8, rfl, how8, hfr8, hb8⟩
  clear hcp
  obtain ⟨Aq1, cq1, rfl⟩ := ow_ContentStore how8
  have hx8 : Below WX.heap.size WX w8 := bel_trans hb1 hb8
  have hw8 : Below w.heap.size w w8 := bel_trans hvb hx8
  have hz8 := hb8.size
  have hzx := (show Below WX.heap.size WX w1 from hb1).size
  have hR8 := hR0.below hx8 hR0.lt
  have kR_8_0 : w8.cell? ⟨w.heap.size + 1 + 1, 0, none⟩ = some (.int .i64 0) := hR8.cell 0
  have fR_8_0 : w8.frozen? ⟨w.heap.size + 1 + 1, 0, none⟩ = false := hR8.frozen 0
  have kR_8_1 : w8.cell? ⟨w.heap.size + 1 + 1, 1, none⟩ = some (.slice none 0 0) := hR8.cell 1
  have fR_8_1 : w8.frozen? ⟨w.heap.size + 1 + 1, 1, none⟩ = false := hR8.frozen 1
  have zR_8 : w.heap.size + 1 + 1 < w8.heap.size := hR8.lt
  go_wp2
  refine bodyPost_ret (v := .agg #[.int .i64 x.1, .slice Aq1 (List.length x.2) cq1]) (by simp [results, Try.results20, go_sem, kR_8_0, fR_8_0, kR_8_1, fR_8_1, zR_8]) rfl ?_
  rw [HZ.out]
  exact ⟨_, fp8, rfl, Ty.ow_keep (by intro b hb'; have hb'' := (hfr8).2 b hb'; (try simp only [szz] at hb''); repeat (first | (with_reducible rfl) | (rw [Below.heap_setCell _ _ _ _ b_29]) | (rw [Below.heap_alloc _ _ _ b_20]))) how8, hfr8.mono b_34 b_23, b_6⟩
 have HZ := Lib.hid (show F = (x.1, cacheE x d now) from by rw [HF.out, if_neg (by rw [q0, q1]; simp)])
 go_enter Try.func20, Try.ntmps20
 go_wp2_with fail
 generalize (((w.alloc (.cells #[.int .i64 x.1, .slice Ax1 (List.length x.2) cx1] 55)).alloc (.cells #[.slice Ad0 (List.length d.1) cd0, .slice Ad1 (List.length d.2.1) cd1, .slice Ad2 (List.length d.2.2.1) cd2, .int .i64 d.2.2.2.1, .int .i64 d.2.2.2.2] 46)).alloc (.cells #[.int .i64 0, .slice none 0 0] 55)) = WX at hB0 hD0 hR0 kb0_0 kb0_1 kb1_0 kb1_1 kb1_2 kb1_3 kb1_4 kb2_0 kb2_1 hvb zb zb0 ⊢
 have HC : Hid (∀ V, Below WX.heap.size WX V → V.cell? ⟨w.heap.size, 0, none⟩ = some (.int .i64 x.1) ∧ V.cell? ⟨w.heap.size, 1, none⟩ = some (.slice Ax1 (List.length x.2) cx1) ∧ V.cell? ⟨w.heap.size + 1, 0, none⟩ = some (.slice Ad0 (List.length d.1) cd0) ∧ V.cell? ⟨w.heap.size + 1, 1, none⟩ = some (.slice Ad1 (List.length d.2.1) cd1) ∧ V.cell? ⟨w.heap.size + 1, 2, none⟩ = some (.slice Ad2 (List.length d.2.2.1) cd2) ∧ V.cell? ⟨w.heap.size + 1, 3, none⟩ = some (.int .i64 d.2.2.2.1) ∧ V.cell? ⟨w.heap.size + 1, 4, none⟩ = some (.int .i64 d.2.2.2.2) ∧ V.cell? ⟨w.heap.size + 1 + 1, 0, none⟩ = some (.int .i64 0) ∧ V.cell? ⟨w.heap.size + 1 + 1, 1, none⟩ = some (.slice none 0 0)) := fun V hW => ⟨(hW.cell (p := ⟨w.heap.size, 0, none⟩) b_30).trans kb0_0, (hW.cell (p := ⟨w.heap.size, 1, none⟩) b_30).trans kb0_1, (hW.cell (p := ⟨w.heap.size + 1, 0, none⟩) b_30).trans kb1_0, (hW.cell (p := ⟨w.heap.size + 1, 1, none⟩) b_30).trans kb1_1, (hW.cell (p := ⟨w.heap.size + 1, 2, none⟩) b_30).trans kb1_2, (hW.cell (p := ⟨w.heap.size + 1, 3, none⟩) b_30).trans kb1_3, (hW.cell (p := ⟨w.heap.size + 1, 4, none⟩) b_30).trans kb1_4, (hW.cell (p := ⟨w.heap.size + 1 + 1, 0, none⟩) b_30).trans kb2_0, (hW.cell (p := ⟨w.heap.size + 1 + 1, 1, none⟩) b_30).trans kb2_1⟩
 clear kb0_0 kb0_1 kb1_0 kb1_1 kb1_2 kb1_3 kb1_4 kb2_0 kb2_1
 refine (C_impl_ValidData _ _ d (Ty.rd_below hvb h2') s1).mono ?_
 rw [q1]
 rintro e w1 ⟨rfl, hb1⟩
 obtain ⟨j0, j1, j2, j3, j4, j5, j6, j7, j8⟩ := HC.out _ (hb1)
 have hzz1 := hb1.size
 have zw1 : w.heap.size + 1 + 1 < w1.heap.size := by omega
 have zw0 : w.heap.size < w1.heap.size := by omega
 go_wp2_with fail
 have hks := C_impl_keepStoreR w1 [.int .i64 x.1, .slice Ax1 (List.length x.2) cx1] x (notName d.1) 95 #[.pointer (some ⟨w.heap.size + 1, 0, none⟩)] (enters_of Try.func95 b_31 rfl) (Ty.rd_below (bel_trans hvb hb1) h1') s0 (fun W ds e he hr hW => C_impl_CacheData1 W ds e d.1 _ _ _ hr (HC.out W (bel_trans hb1 hW)).2.2.1 (Ty.rd_below (bel_trans hvb (bel_trans hb1 hW)) dg0))
 change Calls _ _ _ _ (RetStore w1 127 (x.1, keepE (notName d.1) x.2)) at hks
 refine hks.mono ?_
 rintro e w2 ⟨v2, rfl, hr2, hb2⟩
 dsimp only at hr2 ⊢
 clear hks
 clear j0 j1 j2 j3 j4 j5 j6 j7 j8 zw0
 obtain ⟨l, hl⟩ : ∃ l, l = keepE (notName d.1) x.2 := ⟨_, rfl⟩
 have hr2' : DRow tCacheEntry w2 w1.heap.size 127 v2 l := by rw [hl]; exact hr2
 clear hr2
 have hll : l.length ≤ 1048576 := by
  have := keepE_len (notName d.1) x.2 (Nat.le_refl (List.length x.2))
  rw [List.take_length] at this
  rw [hl]; omega
 have HCE := Lib.hid (show cacheE x d now = roomFor x.1 l ++ [(d, now)] from by rw [hl]; rfl)
 clear hl
 obtain ⟨A2, c2, hv2⟩ := hr2'.form
 subst hv2
 obtain ⟨fp2, hf2, hfr2⟩ := hr2'.toF
 have HR2 := Lib.hid hf2
 have HRD2 := Lib.hid hr2'.rd
 clear hf2 hr2'
 have hz2 := hb2.size
 have hx2 : Below WX.heap.size WX w2 := bel_trans hb1 hb2
 have hO0 : Blk (w2.alloc (.cells #[.int .i64 x.1, .slice A2 (List.length l) c2] 55)) w2.heap.size 55 #[.int .i64 x.1, .slice A2 (List.length l) c2] := Blk.new _ _ _
 have hvo : Below w2.heap.size w2 (w2.alloc (.cells #[.int .i64 x.1, .slice A2 (List.length l) c2] 55)) := b_6
 have hD2 := hD0.below hx2 hD0.lt
 have hR2 := hR0.below hx2 hR0.lt
 have hB2 := hB0.below hx2 hB0.lt
 have kB0 : w2.cell? ⟨w.heap.size, 0, none⟩ = some (.int .i64 x.1) := hB2.cell 0
 have zB0 : w.heap.size < w2.heap.size := by omega
 by_cases hcap : x.1 ≤ (l.length : Int)
 rotate_left
 ·have q2 : decide (x.1 ≤ (l.length : Int)) = false := decide_eq_false hcap
  have HL2 := Lib.hid (show cacheE x d now = l ++ [(d, now)] from by rw [HCE.out]; unfold roomFor; rw [if_neg hcap])
  clear hcap
  go_wp2_with fail
  clear q2 kB0 zB0
  generalize (w2.alloc (.cells #[.int .i64 x.1, .slice A2 (List.length l) c2] 55)) = wr at hO0 hvo ⊢
  have hO := hO0
  have hD := hD2.below hvo hD2.lt
  have hR := hR2.below hvo hR2.lt
  have HR := Lib.hid (HR2.out.below hvo)
  have hw : Below w.heap.size w wr := bel_trans hvb (bel_trans hx2 hvo)
  have hsr := hvo.size
  have hno : ∀ g, (Value.slice A2 (List.length l) c2).ownBlock = some g → g ≠ w2.heap.size := fun g hg => by have := (HR2.out.block g hg).2; omega
  have hfpx := hfr2
  obtain ⟨l2, hl2⟩ : ∃ l2, l2 = l := ⟨_, rfl⟩
  obtain ⟨Av, hAv⟩ : ∃ Av, Av = A2 := ⟨_, rfl⟩
  obtain ⟨cv, hcv⟩ : ∃ cv, cv = c2 := ⟨_, rfl⟩
  obtain ⟨nv, hnv⟩ : ∃ nv, nv = List.length l := ⟨_, rfl⟩
  obtain ⟨fpx, hfp⟩ : ∃ fpx, fpx = fp2 := ⟨_, rfl⟩
  rw [← hnv, ← hAv, ← hcv] at hO HR hno ⊢
  rw [← hl2, ← hfp] at HR
  rw [← hl2] at HL2 hll
  rw [← hfp] at hfpx
  clear hO0 HR2 HRD2 hD2 hR2 hB2 HCE hl2 hAv hcv hnv hfp
  have SB : Hid (∀ V, Below w.heap.size w V → Blk V (w.heap.size + 1) 46 #[.slice Ad0 (List.length d.1) cd0, .slice Ad1 (List.length d.2.1) cd1, .slice Ad2 (List.length d.2.2.1) cd2, .int .i64 d.2.2.2.1, .int .i64 d.2.2.2.2] → Below w.heap.size w V ∧ V.cell? ⟨w.heap.size + 1, 0, none⟩ = some (.slice Ad0 (List.length d.1) cd0) ∧ V.cell? ⟨w.heap.size + 1, 1, none⟩ = some (.slice Ad1 (List.length d.2.1) cd1) ∧ V.cell? ⟨w.heap.size + 1, 2, none⟩ = some (.slice Ad2 (List.length d.2.2.1) cd2) ∧ V.cell? ⟨w.heap.size + 1, 3, none⟩ = some (.int .i64 d.2.2.2.1) ∧ V.cell? ⟨w.heap.size + 1, 4, none⟩ = some (.int .i64 d.2.2.2.2)) := fun V h1 h2 => ⟨h1, h2.cell 0, h2.cell 1, h2.cell 2, h2.cell 3, h2.cell 4⟩
  have HH : Hid (∀ V, Below wr.heap.size wr V → Below w.heap.size w V ∧ V.cell? ⟨w.heap.size + 1, 0, none⟩ = some (.slice Ad0 (List.length d.1) cd0) ∧ V.cell? ⟨w.heap.size + 1, 1, none⟩ = some (.slice Ad1 (List.length d.2.1) cd1) ∧ V.cell? ⟨w.heap.size + 1, 2, none⟩ = some (.slice Ad2 (List.length d.2.2.1) cd2) ∧ V.cell? ⟨w.heap.size + 1, 3, none⟩ = some (.int .i64 d.2.2.2.1) ∧ V.cell? ⟨w.heap.size + 1, 4, none⟩ = some (.int .i64 d.2.2.2.2)) := fun V hV => SB.out V (bel_trans hw hV) (hD.below hV hD.lt)
  have hv0 : Below wr.heap.size wr wr := Below.refl _ _
  have kO1 : wr.cell? ⟨w2.heap.size, 1, none⟩ = some (.slice Av nv cv) := hO.cell 1
  have zO1 : w2.heap.size < wr.heap.size := hO.lt
  refine wp_region_noPanic ?_
  refine wp_region_held_drew (S := (fun W => Below w.heap.size w W ∧ W.cell? ⟨w.heap.size + 1, 0, none⟩ = some (.slice Ad0 (List.length d.1) cd0) ∧ W.cell? ⟨w.heap.size + 1, 1, none⟩ = some (.slice Ad1 (List.length d.2.1) cd1) ∧ W.cell? ⟨w.heap.size + 1, 2, none⟩ = some (.slice Ad2 (List.length d.2.2.1) cd2) ∧ W.cell? ⟨w.heap.size + 1, 3, none⟩ = some (.int .i64 d.2.2.2.1) ∧ W.cell? ⟨w.heap.size + 1, 4, none⟩ = some (.int .i64 d.2.2.2.2))) b_31 ?_ (fun hHeld => ?_)
  ·exact HH.out _ b_2
  refine tkz3 0 2 4 ?_
  try simp only [layz]
  refine rz2 1 3 (fun K hK => ?_) (fun K hK => ?_)
  ·go_simp
   refine hK.out _ _ (HH.out _ b_2) (fun hHeld => ?_)
   clear hK K
   try simp only [layz]
   refine rz1 3 (fun K hK => ?_)
   go_simp
   go_at_call 97
   refine (C_impl_copyData _ _ d (Ty.rd_below (bel_trans hw b_2) h2') hbk).mono ?_
   rintro e w6 ⟨cs6, fp6, rfl, how6, hfr6, hb6⟩
   obtain ⟨Aq0, cq0, Aq1, cq1, Aq2, cq2, rfl⟩ := ow_Data how6
   have hz6 := hb6.size
   (try simp only [World.size_alloc, World.size_drew, size_drewN] at hz6)
   have kO6 : w6.cell? ⟨w2.heap.size, 1, none⟩ = some (.slice Av nv cv) := (hb6.cell (p := ⟨w2.heap.size, 1, none⟩) b_18).trans kO1
   have zO6 : w2.heap.size < w6.heap.size := by omega
   refine hK.out _ _ (HH.out _ b_2) (fun hHeld => ?_)
   clear hK K
   try simp only [layz]
   refine tkz 5 ?_
   try simp only [layz]
   refine rz1 6 (fun K hK => ?_)
   go_simp
   refine hK.out _ _ (HH.out _ b_2) (fun hHeld => ?_)
   clear hK K
   try simp only [layz]
   refine rz1 7 (fun K hK => ?_)
   refine step_append_drowF b_35 _ _ 53 b_35 w1.heap.size 127 info_CacheEntry rfl Try.underlying53 _ _ l2 [(d, now)] fpx fp6 b_35 b_35 (HR.out.below b_2) (SrcF.lit 127 (ow_CacheEntry_mk (d := (d, now)) how6 i2) b_24) (fun g hg hm => by have := (HR.out.block g hg).2; have := (hfr6.2 g hm).1; (try simp only [World.size_alloc, World.size_drew, size_drewN] at this); omega) (by rw [List.length_singleton]; omega) (by rw [List.length_singleton]; unfold maxLen; omega) b_18 ?_
   intro v' w' hr' hg' ho'
   obtain ⟨nn, An, cn, hvn⟩ : ∃ n A c, v' = .slice A n c := by obtain ⟨A, c, h⟩ := hr'.form; exact ⟨_, A, c, h⟩
   subst hvn
   have hDn := grow_blk (w0 := wr) b_2 hg' hD (fun e => by have := (HR.out.block _ e.symm).1; omega)
   have hRn := grow_blk (w0 := wr) b_2 hg' hR (fun e => by have := (HR.out.block _ e.symm).1; omega)
   have hOn := grow_blk (w0 := wr) b_2 hg' hO (fun e => hno _ e.symm rfl)
   have hbn : Below w.heap.size w w' := grow_bel (bel_trans hw b_2) hg' (fun g hg => by have := (HR.out.block g hg).1; omega)
   have hszn : wr.heap.size ≤ w'.heap.size := grow_size (w0 := wr) b_2 hg'
   have hnon : ∀ g, (Value.slice An nn cn).ownBlock = some g → w1.heap.size ≤ g ∧ g ≠ w2.heap.size := fun g hg => by
    rcases ho' with ho' | ho'
    ·rw [ho'] at hg; exact ⟨(HR.out.block g hg).1, hno g hg⟩
    ·rw [ho'] at hg
     simp only [Option.some.injEq] at hg
     (try simp only [World.size_alloc, World.size_drew, size_drewN] at hg)
     omega
   have kOn1 : w'.cell? ⟨w2.heap.size, 1, none⟩ = some (.slice Av nv cv) := hOn.cell 1
   have fOn1 : w'.frozen? ⟨w2.heap.size, 1, none⟩ = false := hOn.frozen 1
   have zOn : w2.heap.size < w'.heap.size := hOn.lt
   refine hK.out _ _ (SB.out _ hbn hDn) (fun hHeld => ?_)
   clear hK K
   try simp only [layz]
   refine tkz 8 ?_
   try simp only [layz]
   refine rz1 9 (fun K hK => ?_)
   go_simp
   refine hK.out _ _ (SB.out _ (bel_set hbn b_30 _) (hDn.far b_30 _)) (fun hHeld => ?_)
   clear hK K
   try simp only [layz]
   refine wpAnyH_done b_31 ?_ _
   refine NoPanic.normal ?_
   have hO9 := hOn.set_ 1 (.slice An nn cn)
   have hR9 := hRn.far (p := ⟨w2.heap.size, 1, none⟩) b_30 (.slice An nn cn)
   have hr9 := hr'.far (p := ⟨w2.heap.size, 1, none⟩) b_11 (fun g hg => (hnon g hg).2) (.slice An nn cn)
   have HR9 := Lib.hid hr9
   have hw9 : Below w.heap.size w (w'.setCell ⟨w2.heap.size, 1, none⟩ (.slice An nn cn)) := bel_set hbn b_30 _
   have hs9 : wr.heap.size ≤ (w'.setCell ⟨w2.heap.size, 1, none⟩ (.slice An nn cn)).heap.size := by rw [World.size_setCell]; omega
   have hlt6 : w6.heap.size ≤ (w'.setCell ⟨w2.heap.size, 1, none⟩ (.slice An nn cn)).heap.size := by have := hg'.size; rw [World.size_setCell]; (try simp only [World.size_alloc, World.size_drew, size_drewN] at this); omega
   clear hr9 hr' hg' kOn1 fOn1 zOn ho'
   generalize (w'.setCell ⟨w2.heap.size, 1, none⟩ (.slice An nn cn)) = wf at hO9 hR9 HR9 hw9 hs9 hlt6 ⊢
   have kR_9_0 : wf.cell? ⟨w.heap.size + 1 + 1, 0, none⟩ = some (.int .i64 0) := hR9.cell 0
   have fR_9_0 : wf.frozen? ⟨w.heap.size + 1 + 1, 0, none⟩ = false := hR9.frozen 0
   have kR_9_1 : wf.cell? ⟨w.heap.size + 1 + 1, 1, none⟩ = some (.slice none 0 0) := hR9.cell 1
   have fR_9_1 : wf.frozen? ⟨w.heap.size + 1 + 1, 1, none⟩ = false := hR9.frozen 1
   have zR_9 : w.heap.size + 1 + 1 < wf.heap.size := hR9.lt
   have kO_9_0 : wf.cell? ⟨w2.heap.size, 0, none⟩ = some (.int .i64 x.1) := hO9.cell 0
   have fO_9_0 : wf.frozen? ⟨w2.heap.size, 0, none⟩ = false := hO9.frozen 0
   have kO_9_1 : wf.cell? ⟨w2.heap.size, 1, none⟩ = some (.slice An nn cn) := hO9.cell 1
   have fO_9_1 : wf.frozen? ⟨w2.heap.size, 1, none⟩ = false := hO9.frozen 1
   have zO_9 : w2.heap.size < wf.heap.size := hO9.lt
   go_wp2
   refine bodyPost_ret (v := .agg #[.int .i64 x.1, .slice An nn cn]) b_16 rfl ?_
   have hfin := (HR9.out.drow (FrI.app hfpx (hfr6.mono (show w2.heap.size ≤ _ by (try simp only [World.size_alloc, World.size_drew, size_drewN]); omega) hlt6) (Nat.le_refl _) b_34 b_34)).far (p := ⟨w.heap.size + 1 + 1, 0, none⟩) b_30 (.int .i64 x.1)
   have hfin2 := hfin.far (p := ⟨w.heap.size + 1 + 1, 1, none⟩) b_30 (.slice An nn cn)
   rw [HZ.out, HL2.out]
   exact RetStore.agg (x := (x.1, l2 ++ [(d, now)])) xg0 ⟨_, rfl, hfin2.mono b_34, b_6⟩
  ·go_simp
   go_at_call 97
   refine (C_impl_copyData _ _ d (Ty.rd_below (bel_trans hw b_2) h2') hbk).mono ?_
   rintro e w6 ⟨cs6, fp6, rfl, how6, hfr6, hb6⟩
   obtain ⟨Aq0, cq0, Aq1, cq1, Aq2, cq2, rfl⟩ := ow_Data how6
   have hz6 := hb6.size
   (try simp only [World.size_alloc, World.size_drew, size_drewN] at hz6)
   have kO6 : w6.cell? ⟨w2.heap.size, 1, none⟩ = some (.slice Av nv cv) := (hb6.cell (p := ⟨w2.heap.size, 1, none⟩) b_18).trans kO1
   have zO6 : w2.heap.size < w6.heap.size := by omega
   refine hK.out _ _ (HH.out _ b_2) (fun hHeld => ?_)
   clear hK K
   try simp only [layz]
   refine tkz 5 ?_
   try simp only [layz]
   refine rz2 1 6 (fun K hK => ?_) (fun K hK => ?_)
   ·go_simp
    refine hK.out _ _ (HH.out _ b_2) (fun hHeld => ?_)
    clear hK K
    try simp only [layz]
    refine rz1 6 (fun K hK => ?_)
    go_simp
    refine hK.out _ _ (HH.out _ b_2) (fun hHeld => ?_)
    clear hK K
    try simp only [layz]
    refine rz1 7 (fun K hK => ?_)
    refine step_append_drowF b_35 _ _ 53 b_35 w1.heap.size 127 info_CacheEntry rfl Try.underlying53 _ _ l2 [(d, now)] fpx fp6 b_35 b_35 (HR.out.below b_2) (SrcF.lit 127 (ow_CacheEntry_mk (d := (d, now)) how6 i2) b_24) (fun g hg hm => by have := (HR.out.block g hg).2; have := (hfr6.2 g hm).1; (try simp only [World.size_alloc, World.size_drew, size_drewN] at this); omega) (by rw [List.length_singleton]; omega) (by rw [List.length_singleton]; unfold maxLen; omega) b_18 ?_
    intro v' w' hr' hg' ho'
    obtain ⟨nn, An, cn, hvn⟩ : ∃ n A c, v' = .slice A n c := by obtain ⟨A, c, h⟩ := hr'.form; exact ⟨_, A, c, h⟩
    subst hvn
    have hDn := grow_blk (w0 := wr) b_2 hg' hD (fun e => by have := (HR.out.block _ e.symm).1; omega)
    have hRn := grow_blk (w0 := wr) b_2 hg' hR (fun e => by have := (HR.out.block _ e.symm).1; omega)
    have hOn := grow_blk (w0 := wr) b_2 hg' hO (fun e => hno _ e.symm rfl)
    have hbn : Below w.heap.size w w' := grow_bel (bel_trans hw b_2) hg' (fun g hg => by have := (HR.out.block g hg).1; omega)
    have hszn : wr.heap.size ≤ w'.heap.size := grow_size (w0 := wr) b_2 hg'
    have hnon : ∀ g, (Value.slice An nn cn).ownBlock = some g → w1.heap.size ≤ g ∧ g ≠ w2.heap.size := fun g hg => by
     rcases ho' with ho' | ho'
     ·rw [ho'] at hg; exact ⟨(HR.out.block g hg).1, hno g hg⟩
     ·rw [ho'] at hg
      simp only [Option.some.injEq] at hg
      (try simp only [World.size_alloc, World.size_drew, size_drewN] at hg)
      omega
    have kOn1 : w'.cell? ⟨w2.heap.size, 1, none⟩ = some (.slice Av nv cv) := hOn.cell 1
    have fOn1 : w'.frozen? ⟨w2.heap.size, 1, none⟩ = false := hOn.frozen 1
    have zOn : w2.heap.size < w'.heap.size := hOn.lt
    refine hK.out _ _ (SB.out _ hbn hDn) (fun hHeld => ?_)
    clear hK K
    try simp only [layz]
    refine tkz 8 ?_
    try simp only [layz]
    refine rz1 9 (fun K hK => ?_)
    go_simp
    refine hK.out _ _ (SB.out _ (bel_set hbn b_30 _) (hDn.far b_30 _)) (fun hHeld => ?_)
    clear hK K
    try simp only [layz]
    refine wpAnyH_done b_31 ?_ _
    refine NoPanic.normal ?_
    have hO9 := hOn.set_ 1 (.slice An nn cn)
    have hR9 := hRn.far (p := ⟨w2.heap.size, 1, none⟩) b_30 (.slice An nn cn)
    have hr9 := hr'.far (p := ⟨w2.heap.size, 1, none⟩) b_11 (fun g hg => (hnon g hg).2) (.slice An nn cn)
    have HR9 := Lib.hid hr9
    have hw9 : Below w.heap.size w (w'.setCell ⟨w2.heap.size, 1, none⟩ (.slice An nn cn)) := bel_set hbn b_30 _
    have hs9 : wr.heap.size ≤ (w'.setCell ⟨w2.heap.size, 1, none⟩ (.slice An nn cn)).heap.size := by rw [World.size_setCell]; omega
    have hlt6 : w6.heap.size ≤ (w'.setCell ⟨w2.heap.size, 1, none⟩ (.slice An nn cn)).heap.size := by have := hg'.size; rw [World.size_setCell]; (try simp only [World.size_alloc, World.size_drew, size_drewN] at this); omega
    clear hr9 hr' hg' kOn1 fOn1 zOn ho'
    generalize (w'.setCell ⟨w2.heap.size, 1, none⟩ (.slice An nn cn)) = wf at hO9 hR9 HR9 hw9 hs9 hlt6 ⊢
    have kR_9_0 : wf.cell? ⟨w.heap.size + 1 + 1, 0, none⟩ = some (.int .i64 0) := hR9.cell 0
    have fR_9_0 : wf.frozen? ⟨w.heap.size + 1 + 1, 0, none⟩ = false := hR9.frozen 0
    have kR_9_1 : wf.cell? ⟨w.heap.size + 1 + 1, 1, none⟩ = some (.slice none 0 0) := hR9.cell 1
    have fR_9_1 : wf.frozen? ⟨w.heap.size + 1 + 1, 1, none⟩ = false := hR9.frozen 1
    have zR_9 : w.heap.size + 1 + 1 < wf.heap.size := hR9.lt
    have kO_9_0 : wf.cell? ⟨w2.heap.size, 0, none⟩ = some (.int .i64 x.1) := hO9.cell 0
    have fO_9_0 : wf.frozen? ⟨w2.heap.size, 0, none⟩ = false := hO9.frozen 0
    have kO_9_1 : wf.cell? ⟨w2.heap.size, 1, none⟩ = some (.slice An nn cn) := hO9.cell 1
    have fO_9_1 : wf.frozen? ⟨w2.heap.size, 1, none⟩ = false := hO9.frozen 1
    have zO_9 : w2.heap.size < wf.heap.size := hO9.lt
    go_wp2
    refine bodyPost_ret (v := .agg #[.int .i64 x.1, .slice An nn cn]) b_16 rfl ?_
    have hfin := (HR9.out.drow (FrI.app hfpx (hfr6.mono (show w2.heap.size ≤ _ by (try simp only [World.size_alloc, World.size_drew, size_drewN]); omega) hlt6) (Nat.le_refl _) b_34 b_34)).far (p := ⟨w.heap.size + 1 + 1, 0, none⟩) b_30 (.int .i64 x.1)
    have hfin2 := hfin.far (p := ⟨w.heap.size + 1 + 1, 1, none⟩) b_30 (.slice An nn cn)
    rw [HZ.out, HL2.out]
    exact RetStore.agg (x := (x.1, l2 ++ [(d, now)])) xg0 ⟨_, rfl, hfin2.mono b_34, b_6⟩
   ·go_simp
    refine hK.out _ _ (HH.out _ b_2) (fun hHeld => ?_)
    clear hK K
    try simp only [layz]
    refine rz1 1 (fun K hK => ?_)
    go_simp
    refine hK.out _ _ (HH.out _ b_2) (fun hHeld => ?_)
    clear hK K
    try simp only [layz]
    refine rz1 7 (fun K hK => ?_)
    refine step_append_drowF b_35 _ _ 53 b_35 w1.heap.size 127 info_CacheEntry rfl Try.underlying53 _ _ l2 [(d, now)] fpx fp6 b_35 b_35 (HR.out.below b_2) (SrcF.lit 127 (ow_CacheEntry_mk (d := (d, now)) how6 i2) b_24) (fun g hg hm => by have := (HR.out.block g hg).2; have := (hfr6.2 g hm).1; (try simp only [World.size_alloc, World.size_drew, size_drewN] at this); omega) (by rw [List.length_singleton]; omega) (by rw [List.length_singleton]; unfold maxLen; omega) b_18 ?_
    intro v' w' hr' hg' ho'
    obtain ⟨nn, An, cn, hvn⟩ : ∃ n A c, v' = .slice A n c := by obtain ⟨A, c, h⟩ := hr'.form; exact ⟨_, A, c, h⟩
    subst hvn
    have hDn := grow_blk (w0 := wr) b_2 hg' hD (fun e => by have := (HR.out.block _ e.symm).1; omega)
    have hRn := grow_blk (w0 := wr) b_2 hg' hR (fun e => by have := (HR.out.block _ e.symm).1; omega)
    have hOn := grow_blk (w0 := wr) b_2 hg' hO (fun e => hno _ e.symm rfl)
    have hbn : Below w.heap.size w w' := grow_bel (bel_trans hw b_2) hg' (fun g hg => by have := (HR.out.block g hg).1; omega)
    have hszn : wr.heap.size ≤ w'.heap.size := grow_size (w0 := wr) b_2 hg'
    have hnon : ∀ g, (Value.slice An nn cn).ownBlock = some g → w1.heap.size ≤ g ∧ g ≠ w2.heap.size := fun g hg => by
     rcases ho' with ho' | ho'
     ·rw [ho'] at hg; exact ⟨(HR.out.block g hg).1, hno g hg⟩
     ·rw [ho'] at hg
      simp only [Option.some.injEq] at hg
      (try simp only [World.size_alloc, World.size_drew, size_drewN] at hg)
      omega
    have kOn1 : w'.cell? ⟨w2.heap.size, 1, none⟩ = some (.slice Av nv cv) := hOn.cell 1
    have fOn1 : w'.frozen? ⟨w2.heap.size, 1, none⟩ = false := hOn.frozen 1
    have zOn : w2.heap.size < w'.heap.size := hOn.lt
    refine hK.out _ _ (SB.out _ hbn hDn) (fun hHeld => ?_)
    clear hK K
    try simp only [layz]
    refine tkz 8 ?_
    try simp only [layz]
    refine rz1 9 (fun K hK => ?_)
    go_simp
    refine hK.out _ _ (SB.out _ (bel_set hbn b_30 _) (hDn.far b_30 _)) (fun hHeld => ?_)
    clear hK K
    try simp only [layz]
    refine wpAnyH_done b_31 ?_ _
    refine NoPanic.normal ?_
    have hO9 := hOn.set_ 1 (.slice An nn cn)
    have hR9 := hRn.far (p := ⟨w2.heap.size, 1, none⟩) b_30 (.slice An nn cn)
    have hr9 := hr'.far (p := ⟨w2.heap.size, 1, none⟩) b_11 (fun g hg => (hnon g hg).2) (.slice An nn cn)
    have HR9 := Lib.hid hr9
    have hw9 : Below w.heap.size w (w'.setCell ⟨w2.heap.size, 1, none⟩ (.slice An nn cn)) := bel_set hbn b_30 _
    have hs9 : wr.heap.size ≤ (w'.setCell ⟨w2.heap.size, 1, none⟩ (.slice An nn cn)).heap.size := by rw [World.size_setCell]; omega
    have hlt6 : w6.heap.size ≤ (w'.setCell ⟨w2.heap.size, 1, none⟩ (.slice An nn cn)).heap.size := by have := hg'.size; rw [World.size_setCell]; (try simp only [World.size_alloc, World.size_drew, size_drewN] at this); omega
    clear hr9 hr' hg' kOn1 fOn1 zOn ho'
    generalize (w'.setCell ⟨w2.heap.size, 1, none⟩ (.slice An nn cn)) = wf at hO9 hR9 HR9 hw9 hs9 hlt6 ⊢
    have kR_9_0 : wf.cell? ⟨w.heap.size + 1 + 1, 0, none⟩ = some (.int .i64 0) := hR9.cell 0
    have fR_9_0 : wf.frozen? ⟨w.heap.size + 1 + 1, 0, none⟩ = false := hR9.frozen 0
    have kR_9_1 : wf.cell? ⟨w.heap.size + 1 + 1, 1, none⟩ = some (.slice none 0 0) := hR9.cell 1
    have fR_9_1 : wf.frozen? ⟨w.heap.size + 1 + 1, 1, none⟩ = false := hR9.frozen 1
    have zR_9 : w.heap.size + 1 + 1 < wf.heap.size := hR9.lt
    have kO_9_0 : wf.cell? ⟨w2.heap.size, 0, none⟩ = some (.int .i64 x.1) := hO9.cell 0
    have fO_9_0 : wf.frozen? ⟨w2.heap.size, 0, none⟩ = false := hO9.frozen 0
    have kO_9_1 : wf.cell? ⟨w2.heap.size, 1, none⟩ = some (.slice An nn cn) := hO9.cell 1
    have fO_9_1 : wf.frozen? ⟨w2.heap.size, 1, none⟩ = false := hO9.frozen 1
    have zO_9 : w2.heap.size < wf.heap.size := hO9.lt
    go_wp2
    refine bodyPost_ret (v := .agg #[.int .i64 x.1, .slice An nn cn]) b_16 rfl ?_
    have hfin := (HR9.out.drow (FrI.app hfpx (hfr6.mono (show w2.heap.size ≤ _ by (try simp only [World.size_alloc, World.size_drew, size_drewN]); omega) hlt6) (Nat.le_refl _) b_34 b_34)).far (p := ⟨w.heap.size + 1 + 1, 0, none⟩) b_30 (.int .i64 x.1)
    have hfin2 := hfin.far (p := ⟨w.heap.size + 1 + 1, 1, none⟩) b_30 (.slice An nn cn)
    rw [HZ.out, HL2.out]
    exact RetStore.agg (x := (x.1, l2 ++ [(d, now)])) xg0 ⟨_, rfl, hfin2.mono b_34, b_6⟩
 have q2 : decide (x.1 ≤ (l.length : Int)) = true := decide_eq_true hcap
 have hpos : 0 < l.length := by
  rcases Nat.eq_zero_or_pos l.length with h0 | h0
  ·exfalso
   have h3 : x.1 ≤ ((l.length : Nat) : Int) := hcap
   rw [h0] at h3
   exact absurd (Int.le_trans hc h3) b_33
  ·exact h0
 have HL2 := Lib.hid (show cacheE x d now = dropAt l (leastTo l l.length) ++ [(d, now)] from by rw [HCE.out]; unfold roomFor; rw [if_pos hcap])
 clear hcap
 go_wp2
 clear q2 kB0 zB0
 generalize (w2.alloc (.cells #[.int .i64 x.1, .slice A2 (List.length l) c2] 55)) = WO at hO0 hvo ⊢
 have hzo := hvo.size
 go_loopw [8, 33] (fun old i wr => ∃ k : Nat, k ≤ l.length ∧ old = .int .i64 ((leastTo l k : Nat) : Int) ∧ i = .int .i64 k ∧ Below WO.heap.size WO wr) (fun _ i _ => l.length - (intOf i).toNat)
 case atStart => exact ⟨0, by omega, rfl, rfl, Below.refl _ _⟩
 case round =>
  obtain ⟨k, hk, rfl, rfl, hb⟩ := hrel
  have h2r : Below w2.heap.size w2 wr := bel_trans hvo hb
  have hOr := hO0.below hb hO0.lt
  have kO1 : wr.cell? ⟨w2.heap.size, 1, none⟩ = some (.slice A2 (List.length l) c2) := hOr.cell 1
  have fO1 : wr.frozen? ⟨w2.heap.size, 1, none⟩ = false := hOr.frozen 1
  have zO1 : w2.heap.size < wr.heap.size := hOr.lt
  obtain ⟨m, hm⟩ : ∃ m, m = leastTo l k := ⟨_, rfl⟩
  have hml : m < l.length := by rw [hm]; exact leastTo_lt hpos hk
  rw [← hm]
  have HM := Lib.hid hm
  clear hm
  by_cases hlt : k < l.length
  ·have HST := Lib.hid (show leastTo l (k + 1) = if usedAt l k < usedAt l m then k else m from by rw [HM.out]; rfl)
   rw [usedAt_at hlt, usedAt_at hml] at HST
   obtain ⟨b, o, dse, rfl, hle, hcelle, hrde⟩ := Ty.rd_at (Ty.rd_below h2r HRD2.out) hlt
   have hrde' := hrde
   obtain ⟨Ae00, ce00, Ae01, ce01, Ae02, ce02, rfl, eg0, eg1⟩ := rd_CacheEntry hrde
   have e0 : wr.cell? ⟨b, o + k * 6, none⟩ = some (.slice Ae00 (List.length (l)[k].1.1) ce00) := by simpa [Ty.sz] using hcelle 0 b_33
   have e1 : wr.cell? ⟨b, o + k * 6 + 1, none⟩ = some (.slice Ae01 (List.length (l)[k].1.2.1) ce01) := by simpa [Ty.sz] using hcelle 1 b_33
   have e2 : wr.cell? ⟨b, o + k * 6 + 2, none⟩ = some (.slice Ae02 (List.length (l)[k].1.2.2.1) ce02) := by simpa [Ty.sz] using hcelle 2 b_33
   have e3 : wr.cell? ⟨b, o + k * 6 + 3, none⟩ = some (.int .i64 (l)[k].1.2.2.2.1) := by simpa [Ty.sz] using hcelle 3 b_33
   have e4 : wr.cell? ⟨b, o + k * 6 + 4, none⟩ = some (.int .i64 (l)[k].1.2.2.2.2) := by simpa [Ty.sz] using hcelle 4 b_33
   have e5 : wr.cell? ⟨b, o + k * 6 + 5, none⟩ = some (.int .i64 (l)[k].2) := by simpa [Ty.sz] using hcelle 5 b_33
   clear hcelle hle
   obtain ⟨b', o', ds', hA', hl', hcell', hrd'⟩ := Ty.rd_at (Ty.rd_below h2r HRD2.out) hml
   injection hA' with hA'
   injection hA' with hA1 hA2
   subst hA1; subst hA2
   obtain ⟨Am00, cm00, Am01, cm01, Am02, cm02, rfl, mg0, mg1⟩ := rd_CacheEntry hrd'
   have g5 : wr.cell? ⟨b, o + m * 6 + 5, none⟩ = some (.int .i64 (l)[m].2) := by simpa [Ty.sz] using hcell' 5 b_33
   clear hcell' hl'
   have hlb : b < wr.heap.size := World.block_lt_of_cell? wr _ e0
   have i0 : (0 : Int) ≤ (m : Int) := by omega
   have i1 : (m : Int) < (l.length : Int) := by omega
   have kb0_0 : (wr.alloc (.cells #[.slice Ae00 (List.length (l)[k].1.1) ce00, .slice Ae01 (List.length (l)[k].1.2.1) ce01, .slice Ae02 (List.length (l)[k].1.2.2.1) ce02, .int .i64 (l)[k].1.2.2.2.1, .int .i64 (l)[k].1.2.2.2.2, .int .i64 (l)[k].2] 127)).cell? ⟨wr.heap.size, 0, none⟩ = some (.slice Ae00 (List.length (l)[k].1.1) ce00) := (cell_new wr _ _ 0 b_24)
   have kb0_1 : (wr.alloc (.cells #[.slice Ae00 (List.length (l)[k].1.1) ce00, .slice Ae01 (List.length (l)[k].1.2.1) ce01, .slice Ae02 (List.length (l)[k].1.2.2.1) ce02, .int .i64 (l)[k].1.2.2.2.1, .int .i64 (l)[k].1.2.2.2.2, .int .i64 (l)[k].2] 127)).cell? ⟨wr.heap.size, 1, none⟩ = some (.slice Ae01 (List.length (l)[k].1.2.1) ce01) := (cell_new wr _ _ 1 b_24)
   have kb0_2 : (wr.alloc (.cells #[.slice Ae00 (List.length (l)[k].1.1) ce00, .slice Ae01 (List.length (l)[k].1.2.1) ce01, .slice Ae02 (List.length (l)[k].1.2.2.1) ce02, .int .i64 (l)[k].1.2.2.2.1, .int .i64 (l)[k].1.2.2.2.2, .int .i64 (l)[k].2] 127)).cell? ⟨wr.heap.size, 2, none⟩ = some (.slice Ae02 (List.length (l)[k].1.2.2.1) ce02) := (cell_new wr _ _ 2 b_24)
   have kb0_3 : (wr.alloc (.cells #[.slice Ae00 (List.length (l)[k].1.1) ce00, .slice Ae01 (List.length (l)[k].1.2.1) ce01, .slice Ae02 (List.length (l)[k].1.2.2.1) ce02, .int .i64 (l)[k].1.2.2.2.1, .int .i64 (l)[k].1.2.2.2.2, .int .i64 (l)[k].2] 127)).cell? ⟨wr.heap.size, 3, none⟩ = some (.int .i64 (l)[k].1.2.2.2.1) := (cell_new wr _ _ 3 b_24)
   have kb0_4 : (wr.alloc (.cells #[.slice Ae00 (List.length (l)[k].1.1) ce00, .slice Ae01 (List.length (l)[k].1.2.1) ce01, .slice Ae02 (List.length (l)[k].1.2.2.1) ce02, .int .i64 (l)[k].1.2.2.2.1, .int .i64 (l)[k].1.2.2.2.2, .int .i64 (l)[k].2] 127)).cell? ⟨wr.heap.size, 4, none⟩ = some (.int .i64 (l)[k].1.2.2.2.2) := (cell_new wr _ _ 4 b_24)
   have kb0_5 : (wr.alloc (.cells #[.slice Ae00 (List.length (l)[k].1.1) ce00, .slice Ae01 (List.length (l)[k].1.2.1) ce01, .slice Ae02 (List.length (l)[k].1.2.2.1) ce02, .int .i64 (l)[k].1.2.2.2.1, .int .i64 (l)[k].1.2.2.2.2, .int .i64 (l)[k].2] 127)).cell? ⟨wr.heap.size, 5, none⟩ = some (.int .i64 (l)[k].2) := (cell_new wr _ _ 5 b_24)
   have hve : Below wr.heap.size wr (wr.alloc (.cells #[.slice Ae00 (List.length (l)[k].1.1) ce00, .slice Ae01 (List.length (l)[k].1.2.1) ce01, .slice Ae02 (List.length (l)[k].1.2.2.1) ce02, .int .i64 (l)[k].1.2.2.2.1, .int .i64 (l)[k].1.2.2.2.2, .int .i64 (l)[k].2] 127)) := b_6
   have ze0 := Lib.hid (show (wr.alloc (.cells #[.slice Ae00 (List.length (l)[k].1.1) ce00, .slice Ae01 (List.length (l)[k].1.2.1) ce01, .slice Ae02 (List.length (l)[k].1.2.2.1) ce02, .int .i64 (l)[k].1.2.2.2.1, .int .i64 (l)[k].1.2.2.2.2, .int .i64 (l)[k].2] 127)).heap.size = wr.heap.size + 1 from by simp only [World.size_alloc])
   have ze : wr.heap.size < (wr.alloc (.cells #[.slice Ae00 (List.length (l)[k].1.1) ce00, .slice Ae01 (List.length (l)[k].1.2.1) ce01, .slice Ae02 (List.length (l)[k].1.2.2.1) ce02, .int .i64 (l)[k].1.2.2.2.1, .int .i64 (l)[k].1.2.2.2.2, .int .i64 (l)[k].2] 127)).heap.size := by simp only [World.size_alloc]; omega
   go_wp2_with fail
   generalize (wr.alloc (.cells #[.slice Ae00 (List.length (l)[k].1.1) ce00, .slice Ae01 (List.length (l)[k].1.2.1) ce01, .slice Ae02 (List.length (l)[k].1.2.2.1) ce02, .int .i64 (l)[k].1.2.2.2.1, .int .i64 (l)[k].1.2.2.2.2, .int .i64 (l)[k].2] 127)) = WE at kb0_0 kb0_1 kb0_2 kb0_3 kb0_4 kb0_5 hve ze ze0 ⊢
   have HD_ : Hid (∀ V, Below WE.heap.size WE V → V.cell? ⟨wr.heap.size, 0, none⟩ = some (.slice Ae00 (List.length (l)[k].1.1) ce00) ∧ V.cell? ⟨wr.heap.size, 1, none⟩ = some (.slice Ae01 (List.length (l)[k].1.2.1) ce01) ∧ V.cell? ⟨wr.heap.size, 2, none⟩ = some (.slice Ae02 (List.length (l)[k].1.2.2.1) ce02) ∧ V.cell? ⟨wr.heap.size, 3, none⟩ = some (.int .i64 (l)[k].1.2.2.2.1) ∧ V.cell? ⟨wr.heap.size, 4, none⟩ = some (.int .i64 (l)[k].1.2.2.2.2) ∧ V.cell? ⟨wr.heap.size, 5, none⟩ = some (.int .i64 (l)[k].2)) := fun V hW => ⟨(hW.cell (p := ⟨wr.heap.size, 0, none⟩) b_30).trans kb0_0, (hW.cell (p := ⟨wr.heap.size, 1, none⟩) b_30).trans kb0_1, (hW.cell (p := ⟨wr.heap.size, 2, none⟩) b_30).trans kb0_2, (hW.cell (p := ⟨wr.heap.size, 3, none⟩) b_30).trans kb0_3, (hW.cell (p := ⟨wr.heap.size, 4, none⟩) b_30).trans kb0_4, (hW.cell (p := ⟨wr.heap.size, 5, none⟩) b_30).trans kb0_5⟩
   clear kb0_0 kb0_1 kb0_2 kb0_3 kb0_4 kb0_5
   obtain ⟨y0, y1, y2, y3, y4, y5⟩ := HD_.out _ (Below.refl _ _)
   have kO2 : WE.cell? ⟨w2.heap.size, 1, none⟩ = some (.slice (some ⟨b, o, none⟩) (List.length l) c2) := (hve.cell (p := ⟨w2.heap.size, 1, none⟩) zO1).trans kO1
   have g52 : WE.cell? ⟨b, o + m * 6 + 5, none⟩ = some (.int .i64 (l)[m].2) := (hve.cell (p := ⟨b, o + m * 6 + 5, none⟩) hlb).trans g5
   have zO2 : w2.heap.size < WE.heap.size := Nat.lt_of_lt_of_le zO1 hve.size
   have zb2 : b < WE.heap.size := Nat.lt_of_lt_of_le hlb hve.size
   clear kO1 zO1 fO1 e0 e1 e2 e3 e4 e5 g5
   cases q3 : decide ((l)[k].2 < (l)[m].2)
   ·have HN := Lib.hid (show leastTo l (k + 1) = m from by rw [HST.out, if_neg (by simpa using q3)])
    go_quiet (fail)
    go_wp2
    go_roundw
    case rel => exact ⟨k + 1, by omega, by rw [HN.out], by go_num, bel_trans hb (bel_drewN hve _)⟩
    case measure => simp [intOf]; omega
   ·have HN := Lib.hid (show leastTo l (k + 1) = k from by rw [HST.out, if_pos (by simpa using q3)])
    go_quiet (fail)
    go_wp2
    go_roundw
    case rel => exact ⟨k + 1, by omega, by rw [HN.out], by go_num, bel_trans hb (bel_drewN hve _)⟩
    case measure => simp [intOf]; omega
  ·have HL3 := Lib.hid (show cacheE x d now = dropAt l m ++ [(d, now)] from by rw [HL2.out, HM.out, show k = l.length from by omega])
   clear HL2
   have i7 : IntKind.i64.wrap ((m : Int) + 1) = (m : Int) + 1 := IntWalk.i64_in _ b_34
   have HRr := HR2.out.below h2r
   obtain ⟨wo, hwo⟩ : ∃ wo, wo = wr := ⟨_, rfl⟩
   subst hwo
   go_wp2_with fail
   refine (C_slices_Delete_CE _ _ l m w1.heap.size fp2 HRr hml b_34).mono ?_
   rintro e w4 ⟨v4, fp4, rfl, hr4, hsub4, hown4, hg4⟩
   have hbl4 := HRr.block
   have hnoo : ∀ g, (Value.slice A2 (List.length l) c2).ownBlock = some g → g ≠ w2.heap.size := fun g hg => by have := (HR2.out.block g hg).2; omega
   have hO4 := hOr.grown hg4 (fun e => hnoo _ e.symm rfl)
   have hwr0 : Below w.heap.size w wo := bel_trans hvb (bel_trans hx2 h2r)
   have hD4 := (hD2.below h2r hD2.lt).grown hg4 (fun e => by have := (hbl4 _ e.symm).1; omega)
   have hR4 := (hR2.below h2r hR2.lt).grown hg4 (fun e => by have := (hbl4 _ e.symm).1; omega)
   have hw4 : Below w.heap.size w w4 := bel_grown hwr0 hwr0.size hg4 (fun g hg => by have := (hbl4 g hg).1; omega)
   have hsz4 := hg4.size
   obtain ⟨n4, A4, c4, hv4⟩ : ∃ n A c, v4 = .slice A n c := by obtain ⟨A, c, h⟩ := hr4.form; exact ⟨_, A, c, h⟩
   subst hv4
   have hno4 : ∀ g, (Value.slice A4 n4 c4).ownBlock = some g → g ≠ w2.heap.size := fun g hg => hnoo g (by rw [← hown4]; exact hg)
   have hfp4 := frI_sub hfr2 hsub4
   have HR4 := Lib.hid (hr4.far (p := ⟨w2.heap.size, 1, none⟩) (by dsimp only; intro hm; have := (hfp4.2 _ hm).2; omega) (fun g hg => hno4 g hg) (.slice A4 n4 c4))
   have kO4 : w4.cell? ⟨w2.heap.size, 1, none⟩ = some (.slice A2 (List.length l) c2) := hO4.cell 1
   have fO4 : w4.frozen? ⟨w2.heap.size, 1, none⟩ = false := hO4.frozen 1
   have zO4 : w2.heap.size < w4.heap.size := hO4.lt
   have hll4 := dropAt_len hml
   clear hr4 hg4 hsub4 hown4 HRr kO1 fO1
   go_wp2_with fail
   have hO := hO4.set_ 1 (.slice A4 n4 c4)
   have hD := hD4.far (p := ⟨w2.heap.size, 1, none⟩) b_30 (.slice A4 n4 c4)
   have hR := hR4.far (p := ⟨w2.heap.size, 1, none⟩) b_30 (.slice A4 n4 c4)
   have hw : Below w.heap.size w (w4.setCell ⟨w2.heap.size, 1, none⟩ (.slice A4 n4 c4)) := bel_set hw4 b_30 _
   have hsr : w2.heap.size ≤ (w4.setCell ⟨w2.heap.size, 1, none⟩ (.slice A4 n4 c4)).heap.size := by rw [World.size_setCell]; omega
   clear kO4 fO4 zO4 hO4 hD4 hR4 hw4 zO1
   generalize (w4.setCell ⟨w2.heap.size, 1, none⟩ (.slice A4 n4 c4)) = wr at HR4 hO hD hR hw hsr ⊢
   have HR := HR4
   obtain ⟨Av, hAv⟩ : ∃ Av, Av = A4 := ⟨_, rfl⟩
   obtain ⟨cv, hcv⟩ : ∃ cv, cv = c4 := ⟨_, rfl⟩
   obtain ⟨nv, hnv⟩ : ∃ nv, nv = n4 := ⟨_, rfl⟩
   obtain ⟨fpx, hfpx_⟩ : ∃ fpx, fpx = fp4 := ⟨_, rfl⟩
   obtain ⟨l2, hl2⟩ : ∃ l2, l2 = dropAt l m := ⟨_, rfl⟩
   rw [← hnv, ← hAv, ← hcv] at hO HR hno4 ⊢
   rw [← hl2, ← hfpx_] at HR
   rw [← hl2] at HL3 hll4
   rw [← hfpx_] at hfp4
   have hno := hno4
   have hfpx := hfp4
   have HL2 := HL3
   have hll : l2.length ≤ 1048576 := by omega
   clear hO0 HR2 HRD2 hD2 hR2 hB2 HCE HL3 HM hl2 hAv hcv hnv hfpx_ HR4 hno4 hfp4
   have SB : Hid (∀ V, Below w.heap.size w V → Blk V (w.heap.size + 1) 46 #[.slice Ad0 (List.length d.1) cd0, .slice Ad1 (List.length d.2.1) cd1, .slice Ad2 (List.length d.2.2.1) cd2, .int .i64 d.2.2.2.1, .int .i64 d.2.2.2.2] → Below w.heap.size w V ∧ V.cell? ⟨w.heap.size + 1, 0, none⟩ = some (.slice Ad0 (List.length d.1) cd0) ∧ V.cell? ⟨w.heap.size + 1, 1, none⟩ = some (.slice Ad1 (List.length d.2.1) cd1) ∧ V.cell? ⟨w.heap.size + 1, 2, none⟩ = some (.slice Ad2 (List.length d.2.2.1) cd2) ∧ V.cell? ⟨w.heap.size + 1, 3, none⟩ = some (.int .i64 d.2.2.2.1) ∧ V.cell? ⟨w.heap.size + 1, 4, none⟩ = some (.int .i64 d.2.2.2.2)) := fun V h1 h2 => ⟨h1, h2.cell 0, h2.cell 1, h2.cell 2, h2.cell 3, h2.cell 4⟩
   have HH : Hid (∀ V, Below wr.heap.size wr V → Below w.heap.size w V ∧ V.cell? ⟨w.heap.size + 1, 0, none⟩ = some (.slice Ad0 (List.length d.1) cd0) ∧ V.cell? ⟨w.heap.size + 1, 1, none⟩ = some (.slice Ad1 (List.length d.2.1) cd1) ∧ V.cell? ⟨w.heap.size + 1, 2, none⟩ = some (.slice Ad2 (List.length d.2.2.1) cd2) ∧ V.cell? ⟨w.heap.size + 1, 3, none⟩ = some (.int .i64 d.2.2.2.1) ∧ V.cell? ⟨w.heap.size + 1, 4, none⟩ = some (.int .i64 d.2.2.2.2)) := fun V hV => SB.out V (bel_trans hw hV) (hD.below hV hD.lt)
   have hv0 : Below wr.heap.size wr wr := Below.refl _ _
   have kO1 : wr.cell? ⟨w2.heap.size, 1, none⟩ = some (.slice Av nv cv) := hO.cell 1
   have zO1 : w2.heap.size < wr.heap.size := hO.lt
   refine wp_region_noPanic ?_
   refine wp_region_held_drew (S := (fun W => Below w.heap.size w W ∧ W.cell? ⟨w.heap.size + 1, 0, none⟩ = some (.slice Ad0 (List.length d.1) cd0) ∧ W.cell? ⟨w.heap.size + 1, 1, none⟩ = some (.slice Ad1 (List.length d.2.1) cd1) ∧ W.cell? ⟨w.heap.size + 1, 2, none⟩ = some (.slice Ad2 (List.length d.2.2.1) cd2) ∧ W.cell? ⟨w.heap.size + 1, 3, none⟩ = some (.int .i64 d.2.2.2.1) ∧ W.cell? ⟨w.heap.size + 1, 4, none⟩ = some (.int .i64 d.2.2.2.2))) b_31 ?_ (fun hHeld => ?_)
   ·exact HH.out _ b_2
   refine tkz3 0 2 4 ?_
   try simp only [layz]
   refine rz2 1 3 (fun K hK => ?_) (fun K hK => ?_)
   ·go_simp
    refine hK.out _ _ (HH.out _ b_2) (fun hHeld => ?_)
    clear hK K
    try simp only [layz]
    refine rz1 3 (fun K hK => ?_)
    go_simp
    go_at_call 97
    refine (C_impl_copyData _ _ d (Ty.rd_below (bel_trans hw b_2) h2') hbk).mono ?_
    rintro e w6 ⟨cs6, fp6, rfl, how6, hfr6, hb6⟩
    obtain ⟨Aq0, cq0, Aq1, cq1, Aq2, cq2, rfl⟩ := ow_Data how6
    have hz6 := hb6.size
    (try simp only [World.size_alloc, World.size_drew, size_drewN] at hz6)
    have kO6 : w6.cell? ⟨w2.heap.size, 1, none⟩ = some (.slice Av nv cv) := (hb6.cell (p := ⟨w2.heap.size, 1, none⟩) b_18).trans kO1
    have zO6 : w2.heap.size < w6.heap.size := by omega
    refine hK.out _ _ (HH.out _ b_2) (fun hHeld => ?_)
    clear hK K
    try simp only [layz]
    refine tkz 5 ?_
    try simp only [layz]
    refine rz1 6 (fun K hK => ?_)
    go_simp
    refine hK.out _ _ (HH.out _ b_2) (fun hHeld => ?_)
    clear hK K
    try simp only [layz]
    refine rz1 7 (fun K hK => ?_)
    refine step_append_drowF b_35 _ _ 53 b_35 w1.heap.size 127 info_CacheEntry rfl Try.underlying53 _ _ l2 [(d, now)] fpx fp6 b_35 b_35 (HR.out.below b_2) (SrcF.lit 127 (ow_CacheEntry_mk (d := (d, now)) how6 i2) b_24) (fun g hg hm => by have := (HR.out.block g hg).2; have := (hfr6.2 g hm).1; (try simp only [World.size_alloc, World.size_drew, size_drewN] at this); omega) (by rw [List.length_singleton]; omega) (by rw [List.length_singleton]; unfold maxLen; omega) b_18 ?_
    intro v' w' hr' hg' ho'
    obtain ⟨nn, An, cn, hvn⟩ : ∃ n A c, v' = .slice A n c := by obtain ⟨A, c, h⟩ := hr'.form; exact ⟨_, A, c, h⟩
    subst hvn
    have hDn := grow_blk (w0 := wr) b_2 hg' hD (fun e => by have := (HR.out.block _ e.symm).1; omega)
    have hRn := grow_blk (w0 := wr) b_2 hg' hR (fun e => by have := (HR.out.block _ e.symm).1; omega)
    have hOn := grow_blk (w0 := wr) b_2 hg' hO (fun e => hno _ e.symm rfl)
    have hbn : Below w.heap.size w w' := grow_bel (bel_trans hw b_2) hg' (fun g hg => by have := (HR.out.block g hg).1; omega)
    have hszn : wr.heap.size ≤ w'.heap.size := grow_size (w0 := wr) b_2 hg'
    have hnon : ∀ g, (Value.slice An nn cn).ownBlock = some g → w1.heap.size ≤ g ∧ g ≠ w2.heap.size := fun g hg => by
     rcases ho' with ho' | ho'
     ·rw [ho'] at hg; exact ⟨(HR.out.block g hg).1, hno g hg⟩
     ·rw [ho'] at hg
      simp only [Option.some.injEq] at hg
      (try simp only [World.size_alloc, World.size_drew, size_drewN] at hg)
      omega
    have kOn1 : w'.cell? ⟨w2.heap.size, 1, none⟩ = some (.slice Av nv cv) := hOn.cell 1
    have fOn1 : w'.frozen? ⟨w2.heap.size, 1, none⟩ = false := hOn.frozen 1
    have zOn : w2.heap.size < w'.heap.size := hOn.lt
    refine hK.out _ _ (SB.out _ hbn hDn) (fun hHeld => ?_)
    clear hK K
    try simp only [layz]
    refine tkz 8 ?_
    try simp only [layz]
    refine rz1 9 (fun K hK => ?_)
    go_simp
    refine hK.out _ _ (SB.out _ (bel_set hbn b_30 _) (hDn.far b_30 _)) (fun hHeld => ?_)
    clear hK K
    try simp only [layz]
    refine wpAnyH_done b_31 ?_ _
    refine NoPanic.normal ?_
    have hO9 := hOn.set_ 1 (.slice An nn cn)
    have hR9 := hRn.far (p := ⟨w2.heap.size, 1, none⟩) b_30 (.slice An nn cn)
    have hr9 := hr'.far (p := ⟨w2.heap.size, 1, none⟩) b_11 (fun g hg => (hnon g hg).2) (.slice An nn cn)
    have HR9 := Lib.hid hr9
    have hw9 : Below w.heap.size w (w'.setCell ⟨w2.heap.size, 1, none⟩ (.slice An nn cn)) := bel_set hbn b_30 _
    have hs9 : wr.heap.size ≤ (w'.setCell ⟨w2.heap.size, 1, none⟩ (.slice An nn cn)).heap.size := by rw [World.size_setCell]; omega
    have hlt6 : w6.heap.size ≤ (w'.setCell ⟨w2.heap.size, 1, none⟩ (.slice An nn cn)).heap.size := by have := hg'.size; rw [World.size_setCell]; (try simp only [World.size_alloc, World.size_drew, size_drewN] at this); omega
    clear hr9 hr' hg' kOn1 fOn1 zOn ho'
    generalize (w'.setCell ⟨w2.heap.size, 1, none⟩ (.slice An nn cn)) = wf at hO9 hR9 HR9 hw9 hs9 hlt6 ⊢
    have kR_9_0 : wf.cell? ⟨w.heap.size + 1 + 1, 0, none⟩ = some (.int .i64 0) := hR9.cell 0
    have fR_9_0 : wf.frozen? ⟨w.heap.size + 1 + 1, 0, none⟩ = false := hR9.frozen 0
    have kR_9_1 : wf.cell? ⟨w.heap.size + 1 + 1, 1, none⟩ = some (.slice none 0 0) := hR9.cell 1
    have fR_9_1 : wf.frozen? ⟨w.heap.size + 1 + 1, 1, none⟩ = false := hR9.frozen 1
    have zR_9 : w.heap.size + 1 + 1 < wf.heap.size := hR9.lt
    have kO_9_0 : wf.cell? ⟨w2.heap.size, 0, none⟩ = some (.int .i64 x.1) := hO9.cell 0
    have fO_9_0 : wf.frozen? ⟨w2.heap.size, 0, none⟩ = false := hO9.frozen 0
    have kO_9_1 : wf.cell? ⟨w2.heap.size, 1, none⟩ = some (.slice An nn cn) := hO9.cell 1
    have fO_9_1 : wf.frozen? ⟨w2.heap.size, 1, none⟩ = false := hO9.frozen 1
    have zO_9 : w2.heap.size < wf.heap.size := hO9.lt
    go_wp2
    refine bodyPost_ret (v := .agg #[.int .i64 x.1, .slice An nn cn]) b_16 rfl ?_
    have hfin := (HR9.out.drow (FrI.app hfpx (hfr6.mono (show w2.heap.size ≤ _ by (try simp only [World.size_alloc, World.size_drew, size_drewN]); omega) hlt6) (Nat.le_refl _) b_34 b_34)).far (p := ⟨w.heap.size + 1 + 1, 0, none⟩) b_30 (.int .i64 x.1)
    have hfin2 := hfin.far (p := ⟨w.heap.size + 1 + 1, 1, none⟩) b_30 (.slice An nn cn)
    rw [HZ.out, HL2.out]
    exact RetStore.agg (x := (x.1, l2 ++ [(d, now)])) xg0 ⟨_, rfl, hfin2.mono b_34, b_6⟩
   ·go_simp
    go_at_call 97
    refine (C_impl_copyData _ _ d (Ty.rd_below (bel_trans hw b_2) h2') hbk).mono ?_
    rintro e w6 ⟨cs6, fp6, rfl, how6, hfr6, hb6⟩
    obtain ⟨Aq0, cq0, Aq1, cq1, Aq2, cq2, rfl⟩ := ow_Data how6
    have hz6 := hb6.size
    (try simp only [World.size_alloc, World.size_drew, size_drewN] at hz6)
    have kO6 : w6.cell? ⟨w2.heap.size, 1, none⟩ = some (.slice Av nv cv) := (hb6.cell (p := ⟨w2.heap.size, 1, none⟩) b_18).trans kO1
    have zO6 : w2.heap.size < w6.heap.size := by omega
    refine hK.out _ _ (HH.out _ b_2) (fun hHeld => ?_)
    clear hK K
    try simp only [layz]
    refine tkz 5 ?_
    try simp only [layz]
    refine rz2 1 6 (fun K hK => ?_) (fun K hK => ?_)
    ·go_simp
     refine hK.out _ _ (HH.out _ b_2) (fun hHeld => ?_)
     clear hK K
     try simp only [layz]
     refine rz1 6 (fun K hK => ?_)
     go_simp
     refine hK.out _ _ (HH.out _ b_2) (fun hHeld => ?_)
     clear hK K
     try simp only [layz]
     refine rz1 7 (fun K hK => ?_)
     refine step_append_drowF b_35 _ _ 53 b_35 w1.heap.size 127 info_CacheEntry rfl Try.underlying53 _ _ l2 [(d, now)] fpx fp6 b_35 b_35 (HR.out.below b_2) (SrcF.lit 127 (ow_CacheEntry_mk (d := (d, now)) how6 i2) b_24) (fun g hg hm => by have := (HR.out.block g hg).2; have := (hfr6.2 g hm).1; (try simp only [World.size_alloc, World.size_drew, size_drewN] at this); omega) (by rw [List.length_singleton]; omega) (by rw [List.length_singleton]; unfold maxLen; omega) b_18 ?_
     intro v' w' hr' hg' ho'
     obtain ⟨nn, An, cn, hvn⟩ : ∃ n A c, v' = .slice A n c := by obtain ⟨A, c, h⟩ := hr'.form; exact ⟨_, A, c, h⟩
     subst hvn
     have hDn := grow_blk (w0 := wr) b_2 hg' hD (fun e => by have := (HR.out.block _ e.symm).1; omega)
     have hRn := grow_blk (w0 := wr) b_2 hg' hR (fun e => by have := (HR.out.block _ e.symm).1; omega)
     have hOn := grow_blk (w0 := wr) b_2 hg' hO (fun e => hno _ e.symm rfl)
     have hbn : Below w.heap.size w w' := grow_bel (bel_trans hw b_2) hg' (fun g hg => by have := (HR.out.block g hg).1; omega)
     have hszn : wr.heap.size ≤ w'.heap.size := grow_size (w0 := wr) b_2 hg'
     have hnon : ∀ g, (Value.slice An nn cn).ownBlock = some g → w1.heap.size ≤ g ∧ g ≠ w2.heap.size := fun g hg => by
      rcases ho' with ho' | ho'
      ·rw [ho'] at hg; exact ⟨(HR.out.block g hg).1, hno g hg⟩
      ·rw [ho'] at hg
       simp only [Option.some.injEq] at hg
       (try simp only [World.size_alloc, World.size_drew, size_drewN] at hg)
       omega
     have kOn1 : w'.cell? ⟨w2.heap.size, 1, none⟩ = some (.slice Av nv cv) := hOn.cell 1
     have fOn1 : w'.frozen? ⟨w2.heap.size, 1, none⟩ = false := hOn.frozen 1
     have zOn : w2.heap.size < w'.heap.size := hOn.lt
     refine hK.out _ _ (SB.out _ hbn hDn) (fun hHeld => ?_)
     clear hK K
     try simp only [layz]
     refine tkz 8 ?_
     try simp only [layz]
     refine rz1 9 (fun K hK => ?_)
     go_simp
     refine hK.out _ _ (SB.out _ (bel_set hbn b_30 _) (hDn.far b_30 _)) (fun hHeld => ?_)
     clear hK K
     try simp only [layz]
     refine wpAnyH_done b_31 ?_ _
     refine NoPanic.normal ?_
     have hO9 := hOn.set_ 1 (.slice An nn cn)
     have hR9 := hRn.far (p := ⟨w2.heap.size, 1, none⟩) b_30 (.slice An nn cn)
     have hr9 := hr'.far (p := ⟨w2.heap.size, 1, none⟩) b_11 (fun g hg => (hnon g hg).2) (.slice An nn cn)
     have HR9 := Lib.hid hr9
     have hw9 : Below w.heap.size w (w'.setCell ⟨w2.heap.size, 1, none⟩ (.slice An nn cn)) := bel_set hbn b_30 _
     have hs9 : wr.heap.size ≤ (w'.setCell ⟨w2.heap.size, 1, none⟩ (.slice An nn cn)).heap.size := by rw [World.size_setCell]; omega
     have hlt6 : w6.heap.size ≤ (w'.setCell ⟨w2.heap.size, 1, none⟩ (.slice An nn cn)).heap.size := by have := hg'.size; rw [World.size_setCell]; (try simp only [World.size_alloc, World.size_drew, size_drewN] at this); omega
     clear hr9 hr' hg' kOn1 fOn1 zOn ho'
     generalize (w'.setCell ⟨w2.heap.size, 1, none⟩ (.slice An nn cn)) = wf at hO9 hR9 HR9 hw9 hs9 hlt6 ⊢
     have kR_9_0 : wf.cell? ⟨w.heap.size + 1 + 1, 0, none⟩ = some (.int .i64 0) := hR9.cell 0
     have fR_9_0 : wf.frozen? ⟨w.heap.size + 1 + 1, 0, none⟩ = false := hR9.frozen 0
     have kR_9_1 : wf.cell? ⟨w.heap.size + 1 + 1, 1, none⟩ = some (.slice none 0 0) := hR9.cell 1
     have fR_9_1 : wf.frozen? ⟨w.heap.size + 1 + 1, 1, none⟩ = false := hR9.frozen 1
     have zR_9 : w.heap.size + 1 + 1 < wf.heap.size := hR9.lt
     have kO_9_0 : wf.cell? ⟨w2.heap.size, 0, none⟩ = some (.int .i64 x.1) := hO9.cell 0
     have fO_9_0 : wf.frozen? ⟨w2.heap.size, 0, none⟩ = false := hO9.frozen 0
     have kO_9_1 : wf.cell? ⟨w2.heap.size, 1, none⟩ = some (.slice An nn cn) := hO9.cell 1
     have fO_9_1 : wf.frozen? ⟨w2.heap.size, 1, none⟩ = false := hO9.frozen 1
     have zO_9 : w2.heap.size < wf.heap.size := hO9.lt
     go_wp2
     refine bodyPost_ret (v := .agg #[.int .i64 x.1, .slice An nn cn]) b_16 rfl ?_
     have hfin := (HR9.out.drow (FrI.app hfpx (hfr6.mono (show w2.heap.size ≤ _ by (try simp only [World.size_alloc, World.size_drew, size_drewN]); omega) hlt6) (Nat.le_refl _) b_34 b_34)).far (p := ⟨w.heap.size + 1 + 1, 0, none⟩) b_30 (.int .i64 x.1)
     have hfin2 := hfin.far (p := ⟨w.heap.size + 1 + 1, 1, none⟩) b_30 (.slice An nn cn)
     rw [HZ.out, HL2.out]
     exact RetStore.agg (x := (x.1, l2 ++ [(d, now)])) xg0 ⟨_, rfl, hfin2.mono b_34, b_6⟩
    ·go_simp
     refine hK.out _ _ (HH.out _ b_2) (fun hHeld => ?_)
     clear hK K
     try simp only [layz]
     refine rz1 1 (fun K hK => ?_)
     go_simp
     refine hK.out _ _ (HH.out _ b_2) (fun hHeld => ?_)
     clear hK K
     try simp only [layz]
     refine rz1 7 (fun K hK => ?_)
     refine step_append_drowF b_35 _ _ 53 b_35 w1.heap.size 127 info_CacheEntry rfl Try.underlying53 _ _ l2 [(d, now)] fpx fp6 b_35 b_35 (HR.out.below b_2) (SrcF.lit 127 (ow_CacheEntry_mk (d := (d, now)) how6 i2) b_24) (fun g hg hm => by have := (HR.out.block g hg).2; have := (hfr6.2 g hm).1; (try simp only [World.size_alloc, World.size_drew, size_drewN] at this); omega) (by rw [List.length_singleton]; omega) (by rw [List.length_singleton]; unfold maxLen; omega) b_18 ?_
     intro v' w' hr' hg' ho'
     obtain ⟨nn, An, cn, hvn⟩ : ∃ n A c, v' = .slice A n c := by obtain ⟨A, c, h⟩ := hr'.form; exact ⟨_, A, c, h⟩
     subst hvn
     have hDn := grow_blk (w0 := wr) b_2 hg' hD (fun e => by have := (HR.out.block _ e.symm).1; omega)
     have hRn := grow_blk (w0 := wr) b_2 hg' hR (fun e => by have := (HR.out.block _ e.symm).1; omega)
     have hOn := grow_blk (w0 := wr) b_2 hg' hO (fun e => hno _ e.symm rfl)
     have hbn : Below w.heap.size w w' := grow_bel (bel_trans hw b_2) hg' (fun g hg => by have := (HR.out.block g hg).1; omega)
     have hszn : wr.heap.size ≤ w'.heap.size := grow_size (w0 := wr) b_2 hg'
     have hnon : ∀ g, (Value.slice An nn cn).ownBlock = some g → w1.heap.size ≤ g ∧ g ≠ w2.heap.size := fun g hg => by
      rcases ho' with ho' | ho'
      ·rw [ho'] at hg; exact ⟨(HR.out.block g hg).1, hno g hg⟩
      ·rw [ho'] at hg
       simp only [Option.some.injEq] at hg
       (try simp only [World.size_alloc, World.size_drew, size_drewN] at hg)
       omega
     have kOn1 : w'.cell? ⟨w2.heap.size, 1, none⟩ = some (.slice Av nv cv) := hOn.cell 1
     have fOn1 : w'.frozen? ⟨w2.heap.size, 1, none⟩ = false := hOn.frozen 1
     have zOn : w2.heap.size < w'.heap.size := hOn.lt
     refine hK.out _ _ (SB.out _ hbn hDn) (fun hHeld => ?_)
     clear hK K
     try simp only [layz]
     refine tkz 8 ?_
     try simp only [layz]
     refine rz1 9 (fun K hK => ?_)
     go_simp
     refine hK.out _ _ (SB.out _ (bel_set hbn b_30 _) (hDn.far b_30 _)) (fun hHeld => ?_)
     clear hK K
     try simp only [layz]
     refine wpAnyH_done b_31 ?_ _
     refine NoPanic.normal ?_
     have hO9 := hOn.set_ 1 (.slice An nn cn)
     have hR9 := hRn.far (p := ⟨w2.heap.size, 1, none⟩) b_30 (.slice An nn cn)
     have hr9 := hr'.far (p := ⟨w2.heap.size, 1, none⟩) b_11 (fun g hg => (hnon g hg).2) (.slice An nn cn)
     have HR9 := Lib.hid hr9
     have hw9 : Below w.heap.size w (w'.setCell ⟨w2.heap.size, 1, none⟩ (.slice An nn cn)) := bel_set hbn b_30 _
     have hs9 : wr.heap.size ≤ (w'.setCell ⟨w2.heap.size, 1, none⟩ (.slice An nn cn)).heap.size := by rw [World.size_setCell]; omega
     have hlt6 : w6.heap.size ≤ (w'.setCell ⟨w2.heap.size, 1, none⟩ (.slice An nn cn)).heap.size := by have := hg'.size; rw [World.size_setCell]; (try simp only [World.size_alloc, World.size_drew, size_drewN] at this); omega
     clear hr9 hr' hg' kOn1 fOn1 zOn ho'
     generalize (w'.setCell ⟨w2.heap.size, 1, none⟩ (.slice An nn cn)) = wf at hO9 hR9 HR9 hw9 hs9 hlt6 ⊢
     have kR_9_0 : wf.cell? ⟨w.heap.size + 1 + 1, 0, none⟩ = some (.int .i64 0) := hR9.cell 0
     have fR_9_0 : wf.frozen? ⟨w.heap.size + 1 + 1, 0, none⟩ = false := hR9.frozen 0
     have kR_9_1 : wf.cell? ⟨w.heap.size + 1 + 1, 1, none⟩ = some (.slice none 0 0) := hR9.cell 1
     have fR_9_1 : wf.frozen? ⟨w.heap.size + 1 + 1, 1, none⟩ = false := hR9.frozen 1
     have zR_9 : w.heap.size + 1 + 1 < wf.heap.size := hR9.lt
     have kO_9_0 : wf.cell? ⟨w2.heap.size, 0, none⟩ = some (.int .i64 x.1) := hO9.cell 0
     have fO_9_0 : wf.frozen? ⟨w2.heap.size, 0, none⟩ = false := hO9.frozen 0
     have kO_9_1 : wf.cell? ⟨w2.heap.size, 1, none⟩ = some (.slice An nn cn) := hO9.cell 1
     have fO_9_1 : wf.frozen? ⟨w2.heap.size, 1, none⟩ = false := hO9.frozen 1
     have zO_9 : w2.heap.size < wf.heap.size := hO9.lt
     go_wp2
     refine bodyPost_ret (v := .agg #[.int .i64 x.1, .slice An nn cn]) b_16 rfl ?_
     have hfin := (HR9.out.drow (FrI.app hfpx (hfr6.mono (show w2.heap.size ≤ _ by (try simp only [World.size_alloc, World.size_drew, size_drewN]); omega) hlt6) (Nat.le_refl _) b_34 b_34)).far (p := ⟨w.heap.size + 1 + 1, 0, none⟩) b_30 (.int .i64 x.1)
     have hfin2 := hfin.far (p := ⟨w.heap.size + 1 + 1, 1, none⟩) b_30 (.slice An nn cn)
     rw [HZ.out, HL2.out]
     exact RetStore.agg (x := (x.1, l2 ++ [(d, now)])) xg0 ⟨_, rfl, hfin2.mono b_34, b_6⟩
end Go.Proofs.Ytldgbnlcnlfmeaa
