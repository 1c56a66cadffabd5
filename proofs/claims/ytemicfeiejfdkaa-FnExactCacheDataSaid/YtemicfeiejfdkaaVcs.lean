/- Stores are right. Printed by gen32.py. -/
import Derived.Test.YtemicfeiejfdkaaKst
import Derived.Test.YtemicfeiejfdkaaVky
import Derived.Test.YtemicfeiejfdkaaKey
import Derived.Test.YtemicfeiejfdkaaMrk
namespace Go.Proofs.Ytemicfeiejfdkaa
open Go.RowKit
set_option linter.unusedVariables false
set_option linter.unusedSimpArgs false

def entName (n : List (List UInt8)) (e : Ty.D tCacheEntry) : Bool := decide (e.1.1 = n)
def entAt (l : List (Ty.D tCacheEntry)) (i : Nat) (e : Ty.D tCacheEntry) : Bool := f_ValidData e.1 && !(l.take i).any (entName e.1.1)
def entP (l : List (Ty.D tCacheEntry)) (i : Nat) : Bool := match l[i]? with | some e => entAt l i e | none => true
theorem entP_at {l : List (Ty.D tCacheEntry)} {i : Nat} (h : i < l.length) : entP l i = entAt l i l[i] := by unfold entP; rw [List.getElem?_eq_getElem h]
def f_ValidContentStore (x : Ty.D tContentStore) : Bool := (inR x.1 0 8 && decide ((List.length x.2 : Int) ≤ x.1)) && (List.range (List.length x.2)).all (entP x.2)
set_option maxRecDepth 100000 in
set_option maxHeartbeats 1000000 in
theorem C_spec_l12Find (w : World) (v : Value) (x : List (Ty.D tCacheEntry)) (cs2 : List Value) (n : List (List UInt8)) (h1 : (Ty.sl tCacheEntry).rd w [v] x) (h2 : (Ty.sl .str).rd w cs2 n) :
    Calls Try.prog 72 #[v, .agg cs2.toArray] w (RetI w (ixf (entName n) x)) := by
  obtain ⟨A1, c1, rfl, hc1, hm1, hn1⟩ := Ty.rd_sl h1
  obtain ⟨An0, cn0, rfl⟩ := Ty.rd_slv h2
  have kb0_0 : (w.alloc (.cells #[.slice An0 (List.length n) cn0] 47)).cell? ⟨w.heap.size, 0, none⟩ = some (.slice An0 (List.length n) cn0) := (cell_new w _ _ 0 (by first | rfl | simp only [World.size_alloc]))
  have hvb : Below w.heap.size w (w.alloc (.cells #[.slice An0 (List.length n) cn0] 47)) := (by repeat' (first | (with_reducible exact Below.refl _ _) | (with_reducible assumption) | (with_reducible refine bel_set ?_ (by (try dsimp only); omega) _) | (with_reducible refine bel_alloc ?_ _) | (with_reducible refine bel_drewN ?_ _) | (with_reducible refine bel_drew ?_)))
  have zb0 := Lib.hid (show (w.alloc (.cells #[.slice An0 (List.length n) cn0] 47)).heap.size = w.heap.size + 1 from by simp only [World.size_alloc])
  have zb : w.heap.size < (w.alloc (.cells #[.slice An0 (List.length n) cn0] 47)).heap.size := by simp only [World.size_alloc]; omega
  go_enter Try.func72, Try.ntmps72
  go_wp2
  generalize (w.alloc (.cells #[.slice An0 (List.length n) cn0] 47)) = WX at kb0_0 hvb zb zb0 ⊢
  have HC : Hid (∀ V, Below WX.heap.size WX V → V.cell? ⟨w.heap.size, 0, none⟩ = some (.slice An0 (List.length n) cn0)) := fun V hW => (hW.cell (p := ⟨w.heap.size, 0, none⟩) (by dsimp only; omega)).trans kb0_0
  clear kb0_0
  go_loopw [5] (fun i wr => ∃ k : Nat, k ≤ x.length ∧ i = .int .i64 k ∧ (x.take k).any (entName n) = false ∧ Below WX.heap.size WX wr) (fun i _ => x.length - (intOf i).toNat)
  case atStart => exact ⟨0, by omega, rfl, by first | rfl | simp, Below.refl _ _⟩
  case round =>
    obtain ⟨k, hk, rfl, ht, hb⟩ := hrel
    have hw : Below w.heap.size w wr := bel_trans hvb hb
    have HT := Lib.hid ht
    clear ht
    have j0 := HC.out _ (hb)
    have zw0 : w.heap.size < wr.heap.size := by have := hb.size; omega
    by_cases hlt : k < x.length
    · have HS := Lib.hid (any_take_succ (entName n) x hlt)
      obtain ⟨b, o, dse, rfl, hle, hcelle, hrde⟩ := Ty.rd_at (Ty.rd_below hw h1) hlt
      have hrde' := hrde
      obtain ⟨Ae00, ce00, Ae01, ce01, Ae02, ce02, rfl, eg0, eg1⟩ := rd_CacheEntry hrde
      have e0 : wr.cell? ⟨b, o + k * 6, none⟩ = some (.slice Ae00 (List.length x[k].1.1) ce00) := by simpa [Ty.sz] using hcelle 0 (by decide)
      have e1 : wr.cell? ⟨b, o + k * 6 + 1, none⟩ = some (.slice Ae01 (List.length x[k].1.2.1) ce01) := by simpa [Ty.sz] using hcelle 1 (by decide)
      have e2 : wr.cell? ⟨b, o + k * 6 + 2, none⟩ = some (.slice Ae02 (List.length x[k].1.2.2.1) ce02) := by simpa [Ty.sz] using hcelle 2 (by decide)
      have e3 : wr.cell? ⟨b, o + k * 6 + 3, none⟩ = some (.int .i64 x[k].1.2.2.2.1) := by simpa [Ty.sz] using hcelle 3 (by decide)
      have e4 : wr.cell? ⟨b, o + k * 6 + 4, none⟩ = some (.int .i64 x[k].1.2.2.2.2) := by simpa [Ty.sz] using hcelle 4 (by decide)
      have e5 : wr.cell? ⟨b, o + k * 6 + 5, none⟩ = some (.int .i64 x[k].2) := by simpa [Ty.sz] using hcelle 5 (by decide)
      clear hcelle hle
      have hng : Ty.rd wr (.sl .str) [.slice Ae00 (List.length x[k].1.1) ce00] x[k].1.1 := rd_pr_head eg0
      go_wp2_with fail
      set_option maxRecDepth 100000 in go_still_tail 7, (by kernel_rfl)
      go_wp2_with fail
      refine (C_spec_EqualNames _ _ _ _ _ (Ty.rd_below (bel_drew (Below.refl _ _)) hng) (Ty.rd_below (bel_drew hw) h2)).mono ?_
      rintro e w1 ⟨rfl, hb1⟩
      have hb2 := bel_trans (bel_drew hb) hb1
      have hw1 : Below w.heap.size w w1 := bel_trans hvb hb2
      cases hq : decide (x[k].1.1 = n)
      · have HQ := Lib.hid hq
        go_wp2
        go_roundw
        case rel => exact ⟨k + 1, by omega, by go_num, by rw [HS.out, HT.out, show entName n x[k] = false from HQ.out]; rfl, hb2⟩
        case measure => simp [intOf]; omega
      · have HQ := Lib.hid hq
        go_wp2
        go_ret
        exact ⟨ret_int (ixf_hit (entName n) x hlt HT.out HQ.out).symm, hw1⟩
    · have HE : Hid (x.any (entName n) = false) := by have := HT.out; rwa [List.take_of_length_le (by omega)] at this
      go_wp2
      go_ret
      exact ⟨ret_int (ixf_miss (entName n) x HE.out).symm, hw⟩
set_option maxHeartbeats 1000000 in
theorem C_impl_ValidContentStore1 (W : World) (ds : List Value) (d : Ty.D tCacheEntry) (n : List (List UInt8)) (A : Option Addr) (c bo : Nat) (hx : Ty.rd W tCacheEntry ds d) (ko : W.cell? ⟨bo, 0, none⟩ = some (.slice A (List.length n) c)) (hn : (Ty.sl .str).rd W [.slice A (List.length n) c] n) :
    Calls Try.prog 75 #[.agg ds.toArray, .pointer (some ⟨bo, 0, none⟩)] W (RetB W (entName n d)) := by
  obtain ⟨Ad00, cd00, Ad01, cd01, Ad02, cd02, rfl, dg0, dg1⟩ := rd_CacheEntry hx
  have lo : bo < W.heap.size := World.block_lt_of_cell? W _ ko
  have hng : Ty.rd W (.sl .str) [.slice Ad00 (List.length d.1.1) cd00] d.1.1 := rd_pr_head dg0
  go_enter Try.func75, Try.ntmps75
  go_wp2_with fail
  refine (C_impl_EqualNames _ _ _ _ _ (Ty.rd_below (by repeat' (first | (with_reducible exact Below.refl _ _) | (with_reducible assumption) | (with_reducible refine bel_set ?_ (by (try dsimp only); omega) _) | (with_reducible refine bel_alloc ?_ _) | (with_reducible refine bel_drewN ?_ _) | (with_reducible refine bel_drew ?_))) hng) (Ty.rd_below (by repeat' (first | (with_reducible exact Below.refl _ _) | (with_reducible assumption) | (with_reducible refine bel_set ?_ (by (try dsimp only); omega) _) | (with_reducible refine bel_alloc ?_ _) | (with_reducible refine bel_drewN ?_ _) | (with_reducible refine bel_drew ?_))) hn)).mono ?_
  rintro e w1 ⟨rfl, hb1⟩
  go_wp2
  go_ret
  exact ⟨rfl, bel_trans (by repeat' (first | (with_reducible exact Below.refl _ _) | (with_reducible assumption) | (with_reducible refine bel_set ?_ (by (try dsimp only); omega) _) | (with_reducible refine bel_alloc ?_ _) | (with_reducible refine bel_drewN ?_ _) | (with_reducible refine bel_drew ?_))) hb1⟩
set_option maxRecDepth 100000 in
set_option maxHeartbeats 2000000 in
theorem C_impl_ValidContentStore (w : World) (cs : List Value) (x : Ty.D tContentStore) (h : Ty.rd w tContentStore cs x) (s0 : Ty.bulk tContentStore x ≤ 1048576) :
    Calls Try.prog 29 #[.agg cs.toArray] w (RetB w (f_ValidContentStore x)) := by
  obtain ⟨Ax1, cx1, rfl, xg0, xg1⟩ := rd_ContentStore h
  have s0e := store_bulk' s0
  have hxl := Ty.bulk_len s0e
  obtain ⟨_, _, _, m7, _, m9⟩ := Ty.rd_sl xg1
  have hF : f_ValidContentStore x = ((inR x.1 0 8 && decide ((List.length x.2 : Int) ≤ x.1)) && (List.range (List.length x.2)).all (entP x.2)) := rfl
  generalize f_ValidContentStore x = F at hF ⊢
  have HF := Lib.hid hF
  clear hF
  have kb0_0 : (w.alloc (.cells #[.int .i64 x.1, .slice Ax1 (List.length x.2) cx1] 24)).cell? ⟨w.heap.size, 0, none⟩ = some (.int .i64 x.1) := (cell_new w _ _ 0 (by first | rfl | simp only [World.size_alloc]))
  have kb0_1 : (w.alloc (.cells #[.int .i64 x.1, .slice Ax1 (List.length x.2) cx1] 24)).cell? ⟨w.heap.size, 1, none⟩ = some (.slice Ax1 (List.length x.2) cx1) := (cell_new w _ _ 1 (by first | rfl | simp only [World.size_alloc]))
  have hvb : Below w.heap.size w (w.alloc (.cells #[.int .i64 x.1, .slice Ax1 (List.length x.2) cx1] 24)) := (by repeat' (first | (with_reducible exact Below.refl _ _) | (with_reducible assumption) | (with_reducible refine bel_set ?_ (by (try dsimp only); omega) _) | (with_reducible refine bel_alloc ?_ _) | (with_reducible refine bel_drewN ?_ _) | (with_reducible refine bel_drew ?_)))
  have zb0 := Lib.hid (show (w.alloc (.cells #[.int .i64 x.1, .slice Ax1 (List.length x.2) cx1] 24)).heap.size = w.heap.size + 1 from by simp only [World.size_alloc])
  have zb : w.heap.size < (w.alloc (.cells #[.int .i64 x.1, .slice Ax1 (List.length x.2) cx1] 24)).heap.size := by simp only [World.size_alloc]; omega
  have hmf := hmf_ (P := Try.prog)
  cases q0 : inR x.1 0 8
  · have HZ := Lib.hid (show F = false from by rw [HF.out, q0]; rfl)
    go_enter Try.func29, Try.ntmps29
    go_wp2_with fail
    generalize (w.alloc (.cells #[.int .i64 x.1, .slice Ax1 (List.length x.2) cx1] 24)) = WX at kb0_0 kb0_1 hvb zb zb0 ⊢
    have HC : Hid (∀ V, Below WX.heap.size WX V → V.cell? ⟨w.heap.size, 0, none⟩ = some (.int .i64 x.1) ∧ V.cell? ⟨w.heap.size, 1, none⟩ = some (.slice Ax1 (List.length x.2) cx1)) := fun V hW => ⟨(hW.cell (p := ⟨w.heap.size, 0, none⟩) (by dsimp only; omega)).trans kb0_0, (hW.cell (p := ⟨w.heap.size, 1, none⟩) (by dsimp only; omega)).trans kb0_1⟩
    clear kb0_0 kb0_1
    refine (C_impl_InRange _ _ _ _).mono ?_
    rw [q0]
    rintro e w1 ⟨rfl, hw1⟩
    subst hw1
    go_wp2
    go_ret
    exact ⟨ret_bool (by rw [HZ.out]), hvb⟩
  by_cases hl : (List.length x.2 : Int) ≤ x.1
  rotate_left
  · have HZ := Lib.hid (show F = false from by rw [HF.out, decide_eq_false hl]; simp)
    have q1 : decide (x.1 < (List.length x.2 : Int)) = true := by simpa using hl
    go_enter Try.func29, Try.ntmps29
    go_wp2_with fail
    generalize (w.alloc (.cells #[.int .i64 x.1, .slice Ax1 (List.length x.2) cx1] 24)) = WX at kb0_0 kb0_1 hvb zb zb0 ⊢
    have HC : Hid (∀ V, Below WX.heap.size WX V → V.cell? ⟨w.heap.size, 0, none⟩ = some (.int .i64 x.1) ∧ V.cell? ⟨w.heap.size, 1, none⟩ = some (.slice Ax1 (List.length x.2) cx1)) := fun V hW => ⟨(hW.cell (p := ⟨w.heap.size, 0, none⟩) (by dsimp only; omega)).trans kb0_0, (hW.cell (p := ⟨w.heap.size, 1, none⟩) (by dsimp only; omega)).trans kb0_1⟩
    clear kb0_0 kb0_1
    refine (C_impl_InRange _ _ _ _).mono ?_
    rw [q0]
    rintro e w1 ⟨rfl, hw1⟩
    subst hw1
    obtain ⟨j0, j1⟩ := HC.out _ ((Below.refl _ _))
    have zw0 : w.heap.size < w1.heap.size := by omega
    go_wp2
    go_ret
    exact ⟨ret_bool (by rw [HZ.out]), hvb⟩
  have HF2 := Lib.hid (show F = (List.range (List.length x.2)).all (entP x.2) from by rw [HF.out, q0, decide_eq_true hl]; rfl)
  have q1 : decide (x.1 < (List.length x.2 : Int)) = false := by simpa using hl
  go_enter Try.func29, Try.ntmps29
  go_wp2_with fail
  generalize (w.alloc (.cells #[.int .i64 x.1, .slice Ax1 (List.length x.2) cx1] 24)) = WX at kb0_0 kb0_1 hvb zb zb0 ⊢
  have HC : Hid (∀ V, Below WX.heap.size WX V → V.cell? ⟨w.heap.size, 0, none⟩ = some (.int .i64 x.1) ∧ V.cell? ⟨w.heap.size, 1, none⟩ = some (.slice Ax1 (List.length x.2) cx1)) := fun V hW => ⟨(hW.cell (p := ⟨w.heap.size, 0, none⟩) (by dsimp only; omega)).trans kb0_0, (hW.cell (p := ⟨w.heap.size, 1, none⟩) (by dsimp only; omega)).trans kb0_1⟩
  clear kb0_0 kb0_1
  refine (C_impl_InRange _ _ _ _).mono ?_
  rw [q0]
  rintro e w1 ⟨rfl, hw1⟩
  subst hw1
  obtain ⟨j0, j1⟩ := HC.out _ ((Below.refl _ _))
  have zw0 : w.heap.size < w1.heap.size := by omega
  go_wp2
  clear j0 j1 zw0 q0 q1
  go_loopw [20] (fun i wr => ∃ k : Nat, k ≤ List.length x.2 ∧ i = .int .i64 k ∧ (List.range k).all (entP x.2) = true ∧ Below w1.heap.size w1 wr) (fun i _ => List.length x.2 - (intOf i).toNat)
  case atStart => exact ⟨0, by omega, by first | rfl | simp, rfl, Below.refl _ _⟩
  case round =>
    obtain ⟨k, hk, rfl, ht, hb⟩ := hrel
    have HT := Lib.hid ht
    clear ht
    have hw : Below w.heap.size w wr := bel_trans hvb hb
    obtain ⟨j0, j1⟩ := HC.out _ (hb)
    have zw0 : w.heap.size < wr.heap.size := by have := hb.size; omega
    by_cases hlt : k < List.length x.2
    · have HSX := Lib.hid (rangeAll_succ (entP x.2) k)
      have HK := Lib.hid (entP_at hlt)
      have HE := Lib.hid (show entAt x.2 k (x.2)[k] = (f_ValidData (x.2)[k].1 && !(x.2.take k).any (entName (x.2)[k].1.1)) from rfl)
      obtain ⟨b, o, dse, rfl, hle, hcelle, hrde⟩ := Ty.rd_at (Ty.rd_below hw xg1) hlt
      have hrde' := hrde
      obtain ⟨Ae00, ce00, Ae01, ce01, Ae02, ce02, rfl, eg0, eg1⟩ := rd_CacheEntry hrde
      have e0 : wr.cell? ⟨b, o + k * 6, none⟩ = some (.slice Ae00 (List.length (x.2)[k].1.1) ce00) := by simpa [Ty.sz] using hcelle 0 (by decide)
      have e1 : wr.cell? ⟨b, o + k * 6 + 1, none⟩ = some (.slice Ae01 (List.length (x.2)[k].1.2.1) ce01) := by simpa [Ty.sz] using hcelle 1 (by decide)
      have e2 : wr.cell? ⟨b, o + k * 6 + 2, none⟩ = some (.slice Ae02 (List.length (x.2)[k].1.2.2.1) ce02) := by simpa [Ty.sz] using hcelle 2 (by decide)
      have e3 : wr.cell? ⟨b, o + k * 6 + 3, none⟩ = some (.int .i64 (x.2)[k].1.2.2.2.1) := by simpa [Ty.sz] using hcelle 3 (by decide)
      have e4 : wr.cell? ⟨b, o + k * 6 + 4, none⟩ = some (.int .i64 (x.2)[k].1.2.2.2.2) := by simpa [Ty.sz] using hcelle 4 (by decide)
      have e5 : wr.cell? ⟨b, o + k * 6 + 5, none⟩ = some (.int .i64 (x.2)[k].2) := by simpa [Ty.sz] using hcelle 5 (by decide)
      clear hcelle hle
      have hng : Ty.rd wr (.sl .str) [.slice Ae00 (List.length (x.2)[k].1.1) ce00] (x.2)[k].1.1 := rd_pr_head eg0
      have hlb : b < wr.heap.size := World.block_lt_of_cell? wr _ e0
      have HTK := Lib.hid (Ty.rd_take (Ty.rd_below hw xg1) (Nat.le_of_lt hlt))
      have i0 : (0 : Int) ≤ (k : Int) := by omega
      have i1 : (k : Int) < (List.length x.2 : Int) := by omega
      have i2 : (k : Int) ≤ (cx1 : Int) := by omega
      have hno : Hid (entAt x.2 k (x.2)[k] = false → F = false) := fun h2 => by rw [HF.out, rangeAll_not hlt (by rw [HK.out, h2])]; simp
      have kb0_0 : (wr.alloc (.cells #[.slice Ae00 (List.length (x.2)[k].1.1) ce00, .slice Ae01 (List.length (x.2)[k].1.2.1) ce01, .slice Ae02 (List.length (x.2)[k].1.2.2.1) ce02, .int .i64 (x.2)[k].1.2.2.2.1, .int .i64 (x.2)[k].1.2.2.2.2, .int .i64 (x.2)[k].2] 91)).cell? ⟨wr.heap.size, 0, none⟩ = some (.slice Ae00 (List.length (x.2)[k].1.1) ce00) := (cell_new wr _ _ 0 (by first | rfl | simp only [World.size_alloc]))
      have kb0_1 : (wr.alloc (.cells #[.slice Ae00 (List.length (x.2)[k].1.1) ce00, .slice Ae01 (List.length (x.2)[k].1.2.1) ce01, .slice Ae02 (List.length (x.2)[k].1.2.2.1) ce02, .int .i64 (x.2)[k].1.2.2.2.1, .int .i64 (x.2)[k].1.2.2.2.2, .int .i64 (x.2)[k].2] 91)).cell? ⟨wr.heap.size, 1, none⟩ = some (.slice Ae01 (List.length (x.2)[k].1.2.1) ce01) := (cell_new wr _ _ 1 (by first | rfl | simp only [World.size_alloc]))
      have kb0_2 : (wr.alloc (.cells #[.slice Ae00 (List.length (x.2)[k].1.1) ce00, .slice Ae01 (List.length (x.2)[k].1.2.1) ce01, .slice Ae02 (List.length (x.2)[k].1.2.2.1) ce02, .int .i64 (x.2)[k].1.2.2.2.1, .int .i64 (x.2)[k].1.2.2.2.2, .int .i64 (x.2)[k].2] 91)).cell? ⟨wr.heap.size, 2, none⟩ = some (.slice Ae02 (List.length (x.2)[k].1.2.2.1) ce02) := (cell_new wr _ _ 2 (by first | rfl | simp only [World.size_alloc]))
      have kb0_3 : (wr.alloc (.cells #[.slice Ae00 (List.length (x.2)[k].1.1) ce00, .slice Ae01 (List.length (x.2)[k].1.2.1) ce01, .slice Ae02 (List.length (x.2)[k].1.2.2.1) ce02, .int .i64 (x.2)[k].1.2.2.2.1, .int .i64 (x.2)[k].1.2.2.2.2, .int .i64 (x.2)[k].2] 91)).cell? ⟨wr.heap.size, 3, none⟩ = some (.int .i64 (x.2)[k].1.2.2.2.1) := (cell_new wr _ _ 3 (by first | rfl | simp only [World.size_alloc]))
      have kb0_4 : (wr.alloc (.cells #[.slice Ae00 (List.length (x.2)[k].1.1) ce00, .slice Ae01 (List.length (x.2)[k].1.2.1) ce01, .slice Ae02 (List.length (x.2)[k].1.2.2.1) ce02, .int .i64 (x.2)[k].1.2.2.2.1, .int .i64 (x.2)[k].1.2.2.2.2, .int .i64 (x.2)[k].2] 91)).cell? ⟨wr.heap.size, 4, none⟩ = some (.int .i64 (x.2)[k].1.2.2.2.2) := (cell_new wr _ _ 4 (by first | rfl | simp only [World.size_alloc]))
      have kb0_5 : (wr.alloc (.cells #[.slice Ae00 (List.length (x.2)[k].1.1) ce00, .slice Ae01 (List.length (x.2)[k].1.2.1) ce01, .slice Ae02 (List.length (x.2)[k].1.2.2.1) ce02, .int .i64 (x.2)[k].1.2.2.2.1, .int .i64 (x.2)[k].1.2.2.2.2, .int .i64 (x.2)[k].2] 91)).cell? ⟨wr.heap.size, 5, none⟩ = some (.int .i64 (x.2)[k].2) := (cell_new wr _ _ 5 (by first | rfl | simp only [World.size_alloc]))
      have hve : Below wr.heap.size wr (wr.alloc (.cells #[.slice Ae00 (List.length (x.2)[k].1.1) ce00, .slice Ae01 (List.length (x.2)[k].1.2.1) ce01, .slice Ae02 (List.length (x.2)[k].1.2.2.1) ce02, .int .i64 (x.2)[k].1.2.2.2.1, .int .i64 (x.2)[k].1.2.2.2.2, .int .i64 (x.2)[k].2] 91)) := (by repeat' (first | (with_reducible exact Below.refl _ _) | (with_reducible assumption) | (with_reducible refine bel_set ?_ (by (try dsimp only); omega) _) | (with_reducible refine bel_alloc ?_ _) | (with_reducible refine bel_drewN ?_ _) | (with_reducible refine bel_drew ?_)))
      have ze0 := Lib.hid (show (wr.alloc (.cells #[.slice Ae00 (List.length (x.2)[k].1.1) ce00, .slice Ae01 (List.length (x.2)[k].1.2.1) ce01, .slice Ae02 (List.length (x.2)[k].1.2.2.1) ce02, .int .i64 (x.2)[k].1.2.2.2.1, .int .i64 (x.2)[k].1.2.2.2.2, .int .i64 (x.2)[k].2] 91)).heap.size = wr.heap.size + 1 from by simp only [World.size_alloc])
      have ze : wr.heap.size < (wr.alloc (.cells #[.slice Ae00 (List.length (x.2)[k].1.1) ce00, .slice Ae01 (List.length (x.2)[k].1.2.1) ce01, .slice Ae02 (List.length (x.2)[k].1.2.2.1) ce02, .int .i64 (x.2)[k].1.2.2.2.1, .int .i64 (x.2)[k].1.2.2.2.2, .int .i64 (x.2)[k].2] 91)).heap.size := by simp only [World.size_alloc]; omega
      go_wp2_with fail
      generalize (wr.alloc (.cells #[.slice Ae00 (List.length (x.2)[k].1.1) ce00, .slice Ae01 (List.length (x.2)[k].1.2.1) ce01, .slice Ae02 (List.length (x.2)[k].1.2.2.1) ce02, .int .i64 (x.2)[k].1.2.2.2.1, .int .i64 (x.2)[k].1.2.2.2.2, .int .i64 (x.2)[k].2] 91)) = WE at kb0_0 kb0_1 kb0_2 kb0_3 kb0_4 kb0_5 hve ze ze0 ⊢
      have HD : Hid (∀ V, Below WE.heap.size WE V → V.cell? ⟨wr.heap.size, 0, none⟩ = some (.slice Ae00 (List.length (x.2)[k].1.1) ce00) ∧ V.cell? ⟨wr.heap.size, 1, none⟩ = some (.slice Ae01 (List.length (x.2)[k].1.2.1) ce01) ∧ V.cell? ⟨wr.heap.size, 2, none⟩ = some (.slice Ae02 (List.length (x.2)[k].1.2.2.1) ce02) ∧ V.cell? ⟨wr.heap.size, 3, none⟩ = some (.int .i64 (x.2)[k].1.2.2.2.1) ∧ V.cell? ⟨wr.heap.size, 4, none⟩ = some (.int .i64 (x.2)[k].1.2.2.2.2) ∧ V.cell? ⟨wr.heap.size, 5, none⟩ = some (.int .i64 (x.2)[k].2)) := fun V hW => ⟨(hW.cell (p := ⟨wr.heap.size, 0, none⟩) (by dsimp only; omega)).trans kb0_0, (hW.cell (p := ⟨wr.heap.size, 1, none⟩) (by dsimp only; omega)).trans kb0_1, (hW.cell (p := ⟨wr.heap.size, 2, none⟩) (by dsimp only; omega)).trans kb0_2, (hW.cell (p := ⟨wr.heap.size, 3, none⟩) (by dsimp only; omega)).trans kb0_3, (hW.cell (p := ⟨wr.heap.size, 4, none⟩) (by dsimp only; omega)).trans kb0_4, (hW.cell (p := ⟨wr.heap.size, 5, none⟩) (by dsimp only; omega)).trans kb0_5⟩
      clear kb0_0 kb0_1 kb0_2 kb0_3 kb0_4 kb0_5
      refine (C_impl_ValidData _ _ (x.2)[k].1 (Ty.rd_below hve eg0) (entry_bulk' (Ty.bulk_at s0e hlt))).mono ?_
      rintro e w2 ⟨rfl, hb2⟩
      cases q0 : f_ValidData (x.2)[k].1
      · have HZ := Lib.hid (hno.out (by rw [HE.out, q0]; rfl))
        go_wp2
        go_ret
        exact ⟨ret_bool (by rw [HZ.out]), bel_trans hw (bel_trans hve hb2)⟩
      clear j0 j1
      obtain ⟨j0, j1⟩ := HC.out _ ((bel_trans hb (bel_trans hve hb2)))
      have zw2 : w.heap.size < w2.heap.size := by have := (bel_trans hve hb2).size; omega
      have HEN := Lib.hid (show entAt x.2 k (x.2)[k] = !(x.2.take k).any (entName (x.2)[k].1.1) from by rw [HE.out, q0]; rfl)
      clear q0
      go_wp2_with fail
      refine (C_ContainsFunc_CacheEntry _ _ (x.2.take k) (entName (x.2)[k].1.1) 75 #[.pointer (some ⟨wr.heap.size, 0, none⟩)] (enters_of Try.func75 (by kernel_rfl) rfl) (Ty.rd_below (bel_trans hve hb2) HTK.out) (fun W ds d hd hr hW => ?_)).mono ?_
      · have h2 := HD.out W (bel_trans hb2 hW)
        exact C_impl_ValidContentStore1 W ds d _ _ _ _ hr h2.1 (Ty.rd_below (bel_trans hve (bel_trans hb2 hW)) hng)
      rintro e w3 ⟨rfl, hb3⟩
      have hv3 : Below wr.heap.size wr w3 := bel_trans hve (bel_trans hb2 hb3)
      cases q4 : (x.2.take k).any (entName (x.2)[k].1.1)
      · have HZ := Lib.hid (show entAt x.2 k (x.2)[k] = true from by rw [HEN.out, q4]; rfl)
        go_wp2
        go_roundw
        case rel => exact ⟨k + 1, by omega, by go_num, by rw [HSX.out, HT.out, HK.out, HZ.out]; rfl, bel_trans hb hv3⟩
        case measure => simp [intOf]; omega
      · have HZ := Lib.hid (hno.out (by rw [HEN.out, q4]; rfl))
        go_wp2
        go_ret
        exact ⟨ret_bool (by rw [HZ.out]), bel_trans hw hv3⟩
    · have HE : Hid ((List.range (List.length x.2)).all (entP x.2) = true) := by have := HT.out; rwa [show k = List.length x.2 from by omega] at this
      go_wp2
      go_ret
      exact ⟨ret_bool (by rw [HF2.out, HE.out]), hw⟩
set_option maxRecDepth 100000 in
set_option maxHeartbeats 2000000 in
theorem C_spec_ValidContentStore (w : World) (cs : List Value) (x : Ty.D tContentStore) (h : Ty.rd w tContentStore cs x) (s0 : Ty.bulk tContentStore x ≤ 1048576) :
    Calls Try.prog 28 #[.agg cs.toArray] w (RetB w (f_ValidContentStore x)) := by
  obtain ⟨Ax1, cx1, rfl, xg0, xg1⟩ := rd_ContentStore h
  have s0e := store_bulk' s0
  have hxl := Ty.bulk_len s0e
  obtain ⟨_, _, _, m7, _, m9⟩ := Ty.rd_sl xg1
  have hF : f_ValidContentStore x = ((inR x.1 0 8 && decide ((List.length x.2 : Int) ≤ x.1)) && (List.range (List.length x.2)).all (entP x.2)) := rfl
  generalize f_ValidContentStore x = F at hF ⊢
  have HF := Lib.hid hF
  clear hF
  have kb0_0 : (w.alloc (.cells #[.int .i64 x.1, .slice Ax1 (List.length x.2) cx1] 24)).cell? ⟨w.heap.size, 0, none⟩ = some (.int .i64 x.1) := (cell_new w _ _ 0 (by first | rfl | simp only [World.size_alloc]))
  have kb0_1 : (w.alloc (.cells #[.int .i64 x.1, .slice Ax1 (List.length x.2) cx1] 24)).cell? ⟨w.heap.size, 1, none⟩ = some (.slice Ax1 (List.length x.2) cx1) := (cell_new w _ _ 1 (by first | rfl | simp only [World.size_alloc]))
  have hvb : Below w.heap.size w (w.alloc (.cells #[.int .i64 x.1, .slice Ax1 (List.length x.2) cx1] 24)) := (by repeat' (first | (with_reducible exact Below.refl _ _) | (with_reducible assumption) | (with_reducible refine bel_set ?_ (by (try dsimp only); omega) _) | (with_reducible refine bel_alloc ?_ _) | (with_reducible refine bel_drewN ?_ _) | (with_reducible refine bel_drew ?_)))
  have zb0 := Lib.hid (show (w.alloc (.cells #[.int .i64 x.1, .slice Ax1 (List.length x.2) cx1] 24)).heap.size = w.heap.size + 1 from by simp only [World.size_alloc])
  have zb : w.heap.size < (w.alloc (.cells #[.int .i64 x.1, .slice Ax1 (List.length x.2) cx1] 24)).heap.size := by simp only [World.size_alloc]; omega
  go_enter Try.func28, Try.ntmps28
  go_wp2
  generalize (w.alloc (.cells #[.int .i64 x.1, .slice Ax1 (List.length x.2) cx1] 24)) = WX at kb0_0 kb0_1 hvb zb zb0 ⊢
  have HC : Hid (∀ V, Below WX.heap.size WX V → V.cell? ⟨w.heap.size, 0, none⟩ = some (.int .i64 x.1) ∧ V.cell? ⟨w.heap.size, 1, none⟩ = some (.slice Ax1 (List.length x.2) cx1)) := fun V hW => ⟨(hW.cell (p := ⟨w.heap.size, 0, none⟩) (by dsimp only; omega)).trans kb0_0, (hW.cell (p := ⟨w.heap.size, 1, none⟩) (by dsimp only; omega)).trans kb0_1⟩
  clear kb0_0 kb0_1
  go_loopw [3] (fun i wr => ∃ k : Nat, k ≤ List.length x.2 ∧ i = .int .i64 k ∧ (List.range k).all (entP x.2) = true ∧ Below WX.heap.size WX wr) (fun i _ => List.length x.2 - (intOf i).toNat)
  case atStart => exact ⟨0, by omega, rfl, rfl, Below.refl _ _⟩
  case round =>
    obtain ⟨k, hk, rfl, ht, hb⟩ := hrel
    have HT := Lib.hid ht
    clear ht
    have hw : Below w.heap.size w wr := bel_trans hvb hb
    obtain ⟨j0, j1⟩ := HC.out _ (hb)
    have zw0 : w.heap.size < wr.heap.size := by have := hb.size; omega
    by_cases hlt : k < List.length x.2
    · have HSX := Lib.hid (rangeAll_succ (entP x.2) k)
      have HK := Lib.hid (entP_at hlt)
      have HE := Lib.hid (show entAt x.2 k (x.2)[k] = (f_ValidData (x.2)[k].1 && !(x.2.take k).any (entName (x.2)[k].1.1)) from rfl)
      obtain ⟨b, o, dse, rfl, hle, hcelle, hrde⟩ := Ty.rd_at (Ty.rd_below hw xg1) hlt
      have hrde' := hrde
      obtain ⟨Ae00, ce00, Ae01, ce01, Ae02, ce02, rfl, eg0, eg1⟩ := rd_CacheEntry hrde
      have e0 : wr.cell? ⟨b, o + k * 6, none⟩ = some (.slice Ae00 (List.length (x.2)[k].1.1) ce00) := by simpa [Ty.sz] using hcelle 0 (by decide)
      have e1 : wr.cell? ⟨b, o + k * 6 + 1, none⟩ = some (.slice Ae01 (List.length (x.2)[k].1.2.1) ce01) := by simpa [Ty.sz] using hcelle 1 (by decide)
      have e2 : wr.cell? ⟨b, o + k * 6 + 2, none⟩ = some (.slice Ae02 (List.length (x.2)[k].1.2.2.1) ce02) := by simpa [Ty.sz] using hcelle 2 (by decide)
      have e3 : wr.cell? ⟨b, o + k * 6 + 3, none⟩ = some (.int .i64 (x.2)[k].1.2.2.2.1) := by simpa [Ty.sz] using hcelle 3 (by decide)
      have e4 : wr.cell? ⟨b, o + k * 6 + 4, none⟩ = some (.int .i64 (x.2)[k].1.2.2.2.2) := by simpa [Ty.sz] using hcelle 4 (by decide)
      have e5 : wr.cell? ⟨b, o + k * 6 + 5, none⟩ = some (.int .i64 (x.2)[k].2) := by simpa [Ty.sz] using hcelle 5 (by decide)
      clear hcelle hle
      have hng : Ty.rd wr (.sl .str) [.slice Ae00 (List.length (x.2)[k].1.1) ce00] (x.2)[k].1.1 := rd_pr_head eg0
      have hlb : b < wr.heap.size := World.block_lt_of_cell? wr _ e0
      have HTK := Lib.hid (Ty.rd_take (Ty.rd_below hw xg1) (Nat.le_of_lt hlt))
      have i0 : (0 : Int) ≤ (k : Int) := by omega
      have i1 : (k : Int) < (List.length x.2 : Int) := by omega
      have i2 : (k : Int) ≤ (cx1 : Int) := by omega
      have hno : Hid (entAt x.2 k (x.2)[k] = false → F = false) := fun h2 => by rw [HF.out, rangeAll_not hlt (by rw [HK.out, h2])]; simp
      have HS : Hid (∀ W, Below wr.heap.size wr W → Below wr.heap.size wr W ∧ W.cell? ⟨w.heap.size, 0, none⟩ = some (.int .i64 x.1) ∧ W.cell? ⟨w.heap.size, 1, none⟩ = some (.slice (some ⟨b, o, none⟩) (List.length x.2) cx1) ∧ W.cell? ⟨b, o + k * 6, none⟩ = some (.slice Ae00 (List.length (x.2)[k].1.1) ce00) ∧ W.cell? ⟨b, o + k * 6 + 1, none⟩ = some (.slice Ae01 (List.length (x.2)[k].1.2.1) ce01) ∧ W.cell? ⟨b, o + k * 6 + 2, none⟩ = some (.slice Ae02 (List.length (x.2)[k].1.2.2.1) ce02) ∧ W.cell? ⟨b, o + k * 6 + 3, none⟩ = some (.int .i64 (x.2)[k].1.2.2.2.1) ∧ W.cell? ⟨b, o + k * 6 + 4, none⟩ = some (.int .i64 (x.2)[k].1.2.2.2.2)) := fun W hW => ⟨hW, (HC.out W (bel_trans hb hW)).1, (HC.out W (bel_trans hb hW)).2, (hW.cell (p := ⟨b, o + k * 6, none⟩) hlb).trans e0, (hW.cell (p := ⟨b, o + k * 6 + 1, none⟩) hlb).trans e1, (hW.cell (p := ⟨b, o + k * 6 + 2, none⟩) hlb).trans e2, (hW.cell (p := ⟨b, o + k * 6 + 3, none⟩) hlb).trans e3, (hW.cell (p := ⟨b, o + k * 6 + 4, none⟩) hlb).trans e4⟩
      have hv0 : Below wr.heap.size wr wr := Below.refl _ _
      cases q0 : f_ValidData (x.2)[k].1
      · have HZ := Lib.hid (hno.out (by rw [HE.out, q0]; rfl))
        go_wp2_with fail
        refine wp_region_noPanic ?_
        refine wp_region_held_drew (S := (fun W => Below wr.heap.size wr W ∧ W.cell? ⟨w.heap.size, 0, none⟩ = some (.int .i64 x.1) ∧ W.cell? ⟨w.heap.size, 1, none⟩ = some (.slice (some ⟨b, o, none⟩) (List.length x.2) cx1) ∧ W.cell? ⟨b, o + k * 6, none⟩ = some (.slice Ae00 (List.length (x.2)[k].1.1) ce00) ∧ W.cell? ⟨b, o + k * 6 + 1, none⟩ = some (.slice Ae01 (List.length (x.2)[k].1.2.1) ce01) ∧ W.cell? ⟨b, o + k * 6 + 2, none⟩ = some (.slice Ae02 (List.length (x.2)[k].1.2.2.1) ce02) ∧ W.cell? ⟨b, o + k * 6 + 3, none⟩ = some (.int .i64 (x.2)[k].1.2.2.2.1) ∧ W.cell? ⟨b, o + k * 6 + 4, none⟩ = some (.int .i64 (x.2)[k].1.2.2.2.2))) (by kernel_rfl) ?_ (fun hHeld => ?_)
        · exact HS.out _ (by (repeat' (first | (with_reducible exact Below.refl _ _) | (with_reducible assumption) | (with_reducible refine bel_set ?_ (by (try dsimp only); omega) _) | (with_reducible refine bel_alloc ?_ _) | (with_reducible refine bel_drewN ?_ _) | (with_reducible refine bel_drew ?_) | (with_reducible refine bel_trans ?_ (by assumption)))); done)
        refine tk 0 (opN rfl) (by kernel_rfl) (by rfl) (by (intro w hSw; (try dsimp only at hSw); go_simp; first | done | with_reducible rfl)) (by assumption) ?_
        try simp only [Act.put, List.setIfInBounds_toArray, List.set_cons_zero, List.set_cons_succ]
        refine tk 1 (opN rfl) (by kernel_rfl) (by rfl) (by (intro w hSw; (try dsimp only at hSw); go_simp; first | done | with_reducible rfl)) (by assumption) ?_
        try simp only [Act.put, List.setIfInBounds_toArray, List.set_cons_zero, List.set_cons_succ]
        refine tk 2 (opN rfl) (by kernel_rfl) (by rfl) (by (intro w hSw; (try dsimp only at hSw); go_simp; first | done | with_reducible rfl)) (by assumption) ?_
        try simp only [Act.put, List.setIfInBounds_toArray, List.set_cons_zero, List.set_cons_succ]
        refine tk 3 (opN rfl) (by kernel_rfl) (by rfl) (by (intro w hSw; (try dsimp only at hSw); go_simp; first | done | with_reducible rfl)) (by assumption) ?_
        try simp only [Act.put, List.setIfInBounds_toArray, List.set_cons_zero, List.set_cons_succ]
        refine tk 4 (opN rfl) (by kernel_rfl) (by rfl) (by (intro w hSw; (try dsimp only at hSw); go_simp; first | done | with_reducible rfl)) (by assumption) ?_
        try simp only [Act.put, List.setIfInBounds_toArray, List.set_cons_zero, List.set_cons_succ]
        refine tk 5 (opN rfl) (by kernel_rfl) (by rfl) (by (intro w hSw; (try dsimp only at hSw); go_simp; first | done | with_reducible rfl)) (by assumption) ?_
        try simp only [Act.put, List.setIfInBounds_toArray, List.set_cons_zero, List.set_cons_succ]
        refine wpAnyH_ready (rs := [6]) (by kernel_rfl) (by simp) ?_
        refine AllReadyH.cons (opN rfl) (fun K hK => ?_) AllReadyH.nil
        go_simp
        go_at_call 71
        refine (C_spec_ValidDataG _ _ (x.2)[k].1 (Ty.rd_below (by (repeat' (first | (with_reducible exact Below.refl _ _) | (with_reducible assumption) | (with_reducible refine bel_set ?_ (by (try dsimp only); omega) _) | (with_reducible refine bel_alloc ?_ _) | (with_reducible refine bel_drewN ?_ _) | (with_reducible refine bel_drew ?_) | (with_reducible refine bel_trans ?_ (by assumption)))); done) eg0)).mono ?_
        rw [q0]
        rintro e w1 ⟨rfl, hb1⟩
        refine hK.out _ _ ?_ (fun hHeld => ?_)
        · (try dsimp only)
          exact HS.out _ (by (repeat' (first | (with_reducible exact Below.refl _ _) | (with_reducible assumption) | (with_reducible refine bel_set ?_ (by (try dsimp only); omega) _) | (with_reducible refine bel_alloc ?_ _) | (with_reducible refine bel_drewN ?_ _) | (with_reducible refine bel_drew ?_) | (with_reducible refine bel_trans ?_ (by assumption)))); done)
        clear hK K
        try simp only [Act.put, List.setIfInBounds_toArray, List.set_cons_zero, List.set_cons_succ]
        refine tk 7 (opN rfl) (by kernel_rfl) (by rfl) (by (intro w hSw; (try dsimp only at hSw); go_simp; first | done | with_reducible rfl)) (by assumption) ?_
        try simp only [Act.put, List.setIfInBounds_toArray, List.set_cons_zero, List.set_cons_succ]
        refine tk 8 (opN rfl) (by kernel_rfl) (by rfl) (by (intro w hSw; (try dsimp only at hSw); go_simp; first | done | with_reducible rfl)) (by assumption) ?_
        try simp only [Act.put, List.setIfInBounds_toArray, List.set_cons_zero, List.set_cons_succ]
        refine sk 9 (opN rfl) (by kernel_rfl) (by rfl) (by assumption) ?_
        try simp only [Act.put, List.setIfInBounds_toArray, List.set_cons_zero, List.set_cons_succ]
        refine sk 10 (opN rfl) (by kernel_rfl) (by rfl) (by assumption) ?_
        try simp only [Act.put, List.setIfInBounds_toArray, List.set_cons_zero, List.set_cons_succ]
        refine sk 11 (opN rfl) (by kernel_rfl) (by rfl) (by assumption) ?_
        try simp only [Act.put, List.setIfInBounds_toArray, List.set_cons_zero, List.set_cons_succ]
        refine sk 12 (opN rfl) (by kernel_rfl) (by rfl) (by assumption) ?_
        try simp only [Act.put, List.setIfInBounds_toArray, List.set_cons_zero, List.set_cons_succ]
        refine sk 13 (opN rfl) (by kernel_rfl) (by rfl) (by assumption) ?_
        try simp only [Act.put, List.setIfInBounds_toArray, List.set_cons_zero, List.set_cons_succ]
        refine sk 14 (opN rfl) (by kernel_rfl) (by rfl) (by assumption) ?_
        try simp only [Act.put, List.setIfInBounds_toArray, List.set_cons_zero, List.set_cons_succ]
        refine sk 15 (opN rfl) (by kernel_rfl) (by rfl) (by assumption) ?_
        try simp only [Act.put, List.setIfInBounds_toArray, List.set_cons_zero, List.set_cons_succ]
        refine sk 16 (opN rfl) (by kernel_rfl) (by rfl) (by assumption) ?_
        try simp only [Act.put, List.setIfInBounds_toArray, List.set_cons_zero, List.set_cons_succ]
        refine sk 17 (opN rfl) (by kernel_rfl) (by rfl) (by assumption) ?_
        try simp only [Act.put, List.setIfInBounds_toArray, List.set_cons_zero, List.set_cons_succ]
        refine sk 18 (opN rfl) (by kernel_rfl) (by rfl) (by assumption) ?_
        try simp only [Act.put, List.setIfInBounds_toArray, List.set_cons_zero, List.set_cons_succ]
        refine sk 19 (opN rfl) (by kernel_rfl) (by rfl) (by assumption) ?_
        try simp only [Act.put, List.setIfInBounds_toArray, List.set_cons_zero, List.set_cons_succ]
        refine sk 20 (opN rfl) (by kernel_rfl) (by rfl) (by assumption) ?_
        try simp only [Act.put, List.setIfInBounds_toArray, List.set_cons_zero, List.set_cons_succ]
        refine sk 21 (opN rfl) (by kernel_rfl) (by rfl) (by assumption) ?_
        try simp only [Act.put, List.setIfInBounds_toArray, List.set_cons_zero, List.set_cons_succ]
        refine tk 22 (opN rfl) (by kernel_rfl) (by rfl) (by (intro w hSw; (try dsimp only at hSw); go_simp; first | done | with_reducible rfl)) (by assumption) ?_
        try simp only [Act.put, List.setIfInBounds_toArray, List.set_cons_zero, List.set_cons_succ]
        refine wpAnyH_done (by kernel_rfl) ?_ _
        refine NoPanic.normal ?_
        go_wp2
        go_ret
        exact ⟨ret_bool (by rw [HZ.out]), bel_trans hw (by (repeat' (first | (with_reducible exact Below.refl _ _) | (with_reducible assumption) | (with_reducible refine bel_set ?_ (by (try dsimp only); omega) _) | (with_reducible refine bel_alloc ?_ _) | (with_reducible refine bel_drewN ?_ _) | (with_reducible refine bel_drew ?_) | (with_reducible refine bel_trans ?_ (by assumption)))); done)⟩
      cases q4 : (x.2.take k).any (entName (x.2)[k].1.1)
      rotate_left
      · have HZ := Lib.hid (hno.out (by rw [HE.out, q0, q4]; rfl))
        obtain ⟨m, q3⟩ : ∃ m : Nat, ixf (entName (x.2)[k].1.1) (x.2.take k) = m := by
          have h1 := ixf_ge (entName (x.2)[k].1.1) (x.2.take k)
          rw [q4] at h1
          have h2 : ixf (entName (x.2)[k].1.1) (x.2.take k) ≥ 0 := by simpa using h1
          exact ⟨(ixf (entName (x.2)[k].1.1) (x.2.take k)).toNat, by omega⟩
        go_wp2_with fail
        refine wp_region_noPanic ?_
        refine wp_region_held_drew (S := (fun W => Below wr.heap.size wr W ∧ W.cell? ⟨w.heap.size, 0, none⟩ = some (.int .i64 x.1) ∧ W.cell? ⟨w.heap.size, 1, none⟩ = some (.slice (some ⟨b, o, none⟩) (List.length x.2) cx1) ∧ W.cell? ⟨b, o + k * 6, none⟩ = some (.slice Ae00 (List.length (x.2)[k].1.1) ce00) ∧ W.cell? ⟨b, o + k * 6 + 1, none⟩ = some (.slice Ae01 (List.length (x.2)[k].1.2.1) ce01) ∧ W.cell? ⟨b, o + k * 6 + 2, none⟩ = some (.slice Ae02 (List.length (x.2)[k].1.2.2.1) ce02) ∧ W.cell? ⟨b, o + k * 6 + 3, none⟩ = some (.int .i64 (x.2)[k].1.2.2.2.1) ∧ W.cell? ⟨b, o + k * 6 + 4, none⟩ = some (.int .i64 (x.2)[k].1.2.2.2.2))) (by kernel_rfl) ?_ (fun hHeld => ?_)
        · exact HS.out _ (by (repeat' (first | (with_reducible exact Below.refl _ _) | (with_reducible assumption) | (with_reducible refine bel_set ?_ (by (try dsimp only); omega) _) | (with_reducible refine bel_alloc ?_ _) | (with_reducible refine bel_drewN ?_ _) | (with_reducible refine bel_drew ?_) | (with_reducible refine bel_trans ?_ (by assumption)))); done)
        refine tk 0 (opN rfl) (by kernel_rfl) (by rfl) (by (intro w hSw; (try dsimp only at hSw); go_simp; first | done | with_reducible rfl)) (by assumption) ?_
        try simp only [Act.put, List.setIfInBounds_toArray, List.set_cons_zero, List.set_cons_succ]
        refine tk 1 (opN rfl) (by kernel_rfl) (by rfl) (by (intro w hSw; (try dsimp only at hSw); go_simp; first | done | with_reducible rfl)) (by assumption) ?_
        try simp only [Act.put, List.setIfInBounds_toArray, List.set_cons_zero, List.set_cons_succ]
        refine tk 2 (opN rfl) (by kernel_rfl) (by rfl) (by (intro w hSw; (try dsimp only at hSw); go_simp; first | done | with_reducible rfl)) (by assumption) ?_
        try simp only [Act.put, List.setIfInBounds_toArray, List.set_cons_zero, List.set_cons_succ]
        refine tk 3 (opN rfl) (by kernel_rfl) (by rfl) (by (intro w hSw; (try dsimp only at hSw); go_simp; first | done | with_reducible rfl)) (by assumption) ?_
        try simp only [Act.put, List.setIfInBounds_toArray, List.set_cons_zero, List.set_cons_succ]
        refine tk 4 (opN rfl) (by kernel_rfl) (by rfl) (by (intro w hSw; (try dsimp only at hSw); go_simp; first | done | with_reducible rfl)) (by assumption) ?_
        try simp only [Act.put, List.setIfInBounds_toArray, List.set_cons_zero, List.set_cons_succ]
        refine tk 5 (opN rfl) (by kernel_rfl) (by rfl) (by (intro w hSw; (try dsimp only at hSw); go_simp; first | done | with_reducible rfl)) (by assumption) ?_
        try simp only [Act.put, List.setIfInBounds_toArray, List.set_cons_zero, List.set_cons_succ]
        refine wpAnyH_ready (rs := [6]) (by kernel_rfl) (by simp) ?_
        refine AllReadyH.cons (opN rfl) (fun K hK => ?_) AllReadyH.nil
        go_simp
        go_at_call 71
        refine (C_spec_ValidDataG _ _ (x.2)[k].1 (Ty.rd_below (by (repeat' (first | (with_reducible exact Below.refl _ _) | (with_reducible assumption) | (with_reducible refine bel_set ?_ (by (try dsimp only); omega) _) | (with_reducible refine bel_alloc ?_ _) | (with_reducible refine bel_drewN ?_ _) | (with_reducible refine bel_drew ?_) | (with_reducible refine bel_trans ?_ (by assumption)))); done) eg0)).mono ?_
        rw [q0]
        rintro e w1 ⟨rfl, hb1⟩
        refine hK.out _ _ ?_ (fun hHeld => ?_)
        · (try dsimp only)
          exact HS.out _ (by (repeat' (first | (with_reducible exact Below.refl _ _) | (with_reducible assumption) | (with_reducible refine bel_set ?_ (by (try dsimp only); omega) _) | (with_reducible refine bel_alloc ?_ _) | (with_reducible refine bel_drewN ?_ _) | (with_reducible refine bel_drew ?_) | (with_reducible refine bel_trans ?_ (by assumption)))); done)
        clear hK K
        try simp only [Act.put, List.setIfInBounds_toArray, List.set_cons_zero, List.set_cons_succ]
        refine tk 7 (opN rfl) (by kernel_rfl) (by rfl) (by (intro w hSw; (try dsimp only at hSw); go_simp; first | done | with_reducible rfl)) (by assumption) ?_
        try simp only [Act.put, List.setIfInBounds_toArray, List.set_cons_zero, List.set_cons_succ]
        refine tk 8 (opN rfl) (by kernel_rfl) (by rfl) (by (intro w hSw; (try dsimp only at hSw); go_simp; first | done | with_reducible rfl)) (by assumption) ?_
        try simp only [Act.put, List.setIfInBounds_toArray, List.set_cons_zero, List.set_cons_succ]
        refine tk 9 (opN rfl) (by kernel_rfl) (by rfl) (by (intro w hSw; (try dsimp only at hSw); go_simp; first | done | with_reducible rfl)) (by assumption) ?_
        try simp only [Act.put, List.setIfInBounds_toArray, List.set_cons_zero, List.set_cons_succ]
        refine tk 10 (opN rfl) (by kernel_rfl) (by rfl) (by (intro w hSw; (try dsimp only at hSw); go_simp; first | done | with_reducible rfl)) (by assumption) ?_
        try simp only [Act.put, List.setIfInBounds_toArray, List.set_cons_zero, List.set_cons_succ]
        refine tk 11 (opN rfl) (by kernel_rfl) (by rfl) (by (intro w hSw; (try dsimp only at hSw); go_simp; first | done | with_reducible rfl)) (by assumption) ?_
        try simp only [Act.put, List.setIfInBounds_toArray, List.set_cons_zero, List.set_cons_succ]
        refine tk 12 (opN rfl) (by kernel_rfl) (by rfl) (by (intro w hSw; (try dsimp only at hSw); go_simp; first | done | with_reducible rfl)) (by assumption) ?_
        try simp only [Act.put, List.setIfInBounds_toArray, List.set_cons_zero, List.set_cons_succ]
        refine tk 13 (opN rfl) (by kernel_rfl) (by rfl) (by (intro w hSw; (try dsimp only at hSw); go_simp; first | done | with_reducible rfl)) (by assumption) ?_
        try simp only [Act.put, List.setIfInBounds_toArray, List.set_cons_zero, List.set_cons_succ]
        refine tk 14 (opN rfl) (by kernel_rfl) (by rfl) (by (intro w hSw; (try dsimp only at hSw); go_simp; first | done | with_reducible rfl)) (by assumption) ?_
        try simp only [Act.put, List.setIfInBounds_toArray, List.set_cons_zero, List.set_cons_succ]
        refine tk 15 (opN rfl) (by kernel_rfl) (by rfl) (by (intro w hSw; (try dsimp only at hSw); go_simp; first | done | with_reducible rfl)) (by assumption) ?_
        try simp only [Act.put, List.setIfInBounds_toArray, List.set_cons_zero, List.set_cons_succ]
        refine tk 16 (opN rfl) (by kernel_rfl) (by rfl) (by (intro w hSw; (try dsimp only at hSw); go_simp; first | done | with_reducible rfl)) (by assumption) ?_
        try simp only [Act.put, List.setIfInBounds_toArray, List.set_cons_zero, List.set_cons_succ]
        refine tk 17 (opN rfl) (by kernel_rfl) (by rfl) (by (intro w hSw; (try dsimp only at hSw); go_simp; first | done | with_reducible rfl)) (by assumption) ?_
        try simp only [Act.put, List.setIfInBounds_toArray, List.set_cons_zero, List.set_cons_succ]
        refine tk 18 (opN rfl) (by kernel_rfl) (by rfl) (by (intro w hSw; (try dsimp only at hSw); go_simp; first | done | with_reducible rfl)) (by assumption) ?_
        try simp only [Act.put, List.setIfInBounds_toArray, List.set_cons_zero, List.set_cons_succ]
        refine tk 19 (opN rfl) (by kernel_rfl) (by rfl) (by (intro w hSw; (try dsimp only at hSw); go_simp; first | done | with_reducible rfl)) (by assumption) ?_
        try simp only [Act.put, List.setIfInBounds_toArray, List.set_cons_zero, List.set_cons_succ]
        refine wpAnyH_ready (rs := [20]) (by kernel_rfl) (by simp) ?_
        refine AllReadyH.cons (opN rfl) (fun K hK => ?_) AllReadyH.nil
        go_simp
        go_at_call 72
        refine (C_spec_l12Find _ _ (x.2.take k) _ (x.2)[k].1.1 (Ty.rd_below (by (repeat' (first | (with_reducible exact Below.refl _ _) | (with_reducible assumption) | (with_reducible refine bel_set ?_ (by (try dsimp only); omega) _) | (with_reducible refine bel_alloc ?_ _) | (with_reducible refine bel_drewN ?_ _) | (with_reducible refine bel_drew ?_) | (with_reducible refine bel_trans ?_ (by assumption)))); done) HTK.out) (Ty.rd_below (by (repeat' (first | (with_reducible exact Below.refl _ _) | (with_reducible assumption) | (with_reducible refine bel_set ?_ (by (try dsimp only); omega) _) | (with_reducible refine bel_alloc ?_ _) | (with_reducible refine bel_drewN ?_ _) | (with_reducible refine bel_drew ?_) | (with_reducible refine bel_trans ?_ (by assumption)))); done) hng)).mono ?_
        rw [q3]
        rintro e w3 ⟨rfl, hb3⟩
        refine hK.out _ _ ?_ (fun hHeld => ?_)
        · (try dsimp only)
          exact HS.out _ (by (repeat' (first | (with_reducible exact Below.refl _ _) | (with_reducible assumption) | (with_reducible refine bel_set ?_ (by (try dsimp only); omega) _) | (with_reducible refine bel_alloc ?_ _) | (with_reducible refine bel_drewN ?_ _) | (with_reducible refine bel_drew ?_) | (with_reducible refine bel_trans ?_ (by assumption)))); done)
        clear hK K
        try simp only [Act.put, List.setIfInBounds_toArray, List.set_cons_zero, List.set_cons_succ]
        refine tk 21 (opN rfl) (by kernel_rfl) (by rfl) (by (intro w hSw; (try dsimp only at hSw); go_simp; first | done | with_reducible rfl)) (by assumption) ?_
        try simp only [Act.put, List.setIfInBounds_toArray, List.set_cons_zero, List.set_cons_succ]
        refine tk 22 (opN rfl) (by kernel_rfl) (by rfl) (by (intro w hSw; (try dsimp only at hSw); go_simp; first | done | with_reducible rfl)) (by assumption) ?_
        try simp only [Act.put, List.setIfInBounds_toArray, List.set_cons_zero, List.set_cons_succ]
        refine wpAnyH_done (by kernel_rfl) ?_ _
        refine NoPanic.normal ?_
        go_wp2
        go_ret
        exact ⟨ret_bool (by rw [HZ.out]), bel_trans hw (by (repeat' (first | (with_reducible exact Below.refl _ _) | (with_reducible assumption) | (with_reducible refine bel_set ?_ (by (try dsimp only); omega) _) | (with_reducible refine bel_alloc ?_ _) | (with_reducible refine bel_drewN ?_ _) | (with_reducible refine bel_drew ?_) | (with_reducible refine bel_trans ?_ (by assumption)))); done)⟩
      have HZ := Lib.hid (show entAt x.2 k (x.2)[k] = true from by rw [HE.out, q0, q4]; rfl)
      have q3 : ixf (entName (x.2)[k].1.1) (x.2.take k) = -1 := ixf_miss _ _ q4
      clear q4
      go_wp2_with fail
      refine wp_region_noPanic ?_
      refine wp_region_held_drew (S := (fun W => Below wr.heap.size wr W ∧ W.cell? ⟨w.heap.size, 0, none⟩ = some (.int .i64 x.1) ∧ W.cell? ⟨w.heap.size, 1, none⟩ = some (.slice (some ⟨b, o, none⟩) (List.length x.2) cx1) ∧ W.cell? ⟨b, o + k * 6, none⟩ = some (.slice Ae00 (List.length (x.2)[k].1.1) ce00) ∧ W.cell? ⟨b, o + k * 6 + 1, none⟩ = some (.slice Ae01 (List.length (x.2)[k].1.2.1) ce01) ∧ W.cell? ⟨b, o + k * 6 + 2, none⟩ = some (.slice Ae02 (List.length (x.2)[k].1.2.2.1) ce02) ∧ W.cell? ⟨b, o + k * 6 + 3, none⟩ = some (.int .i64 (x.2)[k].1.2.2.2.1) ∧ W.cell? ⟨b, o + k * 6 + 4, none⟩ = some (.int .i64 (x.2)[k].1.2.2.2.2))) (by kernel_rfl) ?_ (fun hHeld => ?_)
      · exact HS.out _ (by (repeat' (first | (with_reducible exact Below.refl _ _) | (with_reducible assumption) | (with_reducible refine bel_set ?_ (by (try dsimp only); omega) _) | (with_reducible refine bel_alloc ?_ _) | (with_reducible refine bel_drewN ?_ _) | (with_reducible refine bel_drew ?_) | (with_reducible refine bel_trans ?_ (by assumption)))); done)
      refine tk 0 (opN rfl) (by kernel_rfl) (by rfl) (by (intro w hSw; (try dsimp only at hSw); go_simp; first | done | with_reducible rfl)) (by assumption) ?_
      try simp only [Act.put, List.setIfInBounds_toArray, List.set_cons_zero, List.set_cons_succ]
      refine tk 1 (opN rfl) (by kernel_rfl) (by rfl) (by (intro w hSw; (try dsimp only at hSw); go_simp; first | done | with_reducible rfl)) (by assumption) ?_
      try simp only [Act.put, List.setIfInBounds_toArray, List.set_cons_zero, List.set_cons_succ]
      refine tk 2 (opN rfl) (by kernel_rfl) (by rfl) (by (intro w hSw; (try dsimp only at hSw); go_simp; first | done | with_reducible rfl)) (by assumption) ?_
      try simp only [Act.put, List.setIfInBounds_toArray, List.set_cons_zero, List.set_cons_succ]
      refine tk 3 (opN rfl) (by kernel_rfl) (by rfl) (by (intro w hSw; (try dsimp only at hSw); go_simp; first | done | with_reducible rfl)) (by assumption) ?_
      try simp only [Act.put, List.setIfInBounds_toArray, List.set_cons_zero, List.set_cons_succ]
      refine tk 4 (opN rfl) (by kernel_rfl) (by rfl) (by (intro w hSw; (try dsimp only at hSw); go_simp; first | done | with_reducible rfl)) (by assumption) ?_
      try simp only [Act.put, List.setIfInBounds_toArray, List.set_cons_zero, List.set_cons_succ]
      refine tk 5 (opN rfl) (by kernel_rfl) (by rfl) (by (intro w hSw; (try dsimp only at hSw); go_simp; first | done | with_reducible rfl)) (by assumption) ?_
      try simp only [Act.put, List.setIfInBounds_toArray, List.set_cons_zero, List.set_cons_succ]
      refine wpAnyH_ready (rs := [6]) (by kernel_rfl) (by simp) ?_
      refine AllReadyH.cons (opN rfl) (fun K hK => ?_) AllReadyH.nil
      go_simp
      go_at_call 71
      refine (C_spec_ValidDataG _ _ (x.2)[k].1 (Ty.rd_below (by (repeat' (first | (with_reducible exact Below.refl _ _) | (with_reducible assumption) | (with_reducible refine bel_set ?_ (by (try dsimp only); omega) _) | (with_reducible refine bel_alloc ?_ _) | (with_reducible refine bel_drewN ?_ _) | (with_reducible refine bel_drew ?_) | (with_reducible refine bel_trans ?_ (by assumption)))); done) eg0)).mono ?_
      rw [q0]
      rintro e w1 ⟨rfl, hb1⟩
      refine hK.out _ _ ?_ (fun hHeld => ?_)
      · (try dsimp only)
        exact HS.out _ (by (repeat' (first | (with_reducible exact Below.refl _ _) | (with_reducible assumption) | (with_reducible refine bel_set ?_ (by (try dsimp only); omega) _) | (with_reducible refine bel_alloc ?_ _) | (with_reducible refine bel_drewN ?_ _) | (with_reducible refine bel_drew ?_) | (with_reducible refine bel_trans ?_ (by assumption)))); done)
      clear hK K
      try simp only [Act.put, List.setIfInBounds_toArray, List.set_cons_zero, List.set_cons_succ]
      refine tk 7 (opN rfl) (by kernel_rfl) (by rfl) (by (intro w hSw; (try dsimp only at hSw); go_simp; first | done | with_reducible rfl)) (by assumption) ?_
      try simp only [Act.put, List.setIfInBounds_toArray, List.set_cons_zero, List.set_cons_succ]
      refine tk 8 (opN rfl) (by kernel_rfl) (by rfl) (by (intro w hSw; (try dsimp only at hSw); go_simp; first | done | with_reducible rfl)) (by assumption) ?_
      try simp only [Act.put, List.setIfInBounds_toArray, List.set_cons_zero, List.set_cons_succ]
      refine tk 9 (opN rfl) (by kernel_rfl) (by rfl) (by (intro w hSw; (try dsimp only at hSw); go_simp; first | done | with_reducible rfl)) (by assumption) ?_
      try simp only [Act.put, List.setIfInBounds_toArray, List.set_cons_zero, List.set_cons_succ]
      refine tk 10 (opN rfl) (by kernel_rfl) (by rfl) (by (intro w hSw; (try dsimp only at hSw); go_simp; first | done | with_reducible rfl)) (by assumption) ?_
      try simp only [Act.put, List.setIfInBounds_toArray, List.set_cons_zero, List.set_cons_succ]
      refine tk 11 (opN rfl) (by kernel_rfl) (by rfl) (by (intro w hSw; (try dsimp only at hSw); go_simp; first | done | with_reducible rfl)) (by assumption) ?_
      try simp only [Act.put, List.setIfInBounds_toArray, List.set_cons_zero, List.set_cons_succ]
      refine tk 12 (opN rfl) (by kernel_rfl) (by rfl) (by (intro w hSw; (try dsimp only at hSw); go_simp; first | done | with_reducible rfl)) (by assumption) ?_
      try simp only [Act.put, List.setIfInBounds_toArray, List.set_cons_zero, List.set_cons_succ]
      refine tk 13 (opN rfl) (by kernel_rfl) (by rfl) (by (intro w hSw; (try dsimp only at hSw); go_simp; first | done | with_reducible rfl)) (by assumption) ?_
      try simp only [Act.put, List.setIfInBounds_toArray, List.set_cons_zero, List.set_cons_succ]
      refine tk 14 (opN rfl) (by kernel_rfl) (by rfl) (by (intro w hSw; (try dsimp only at hSw); go_simp; first | done | with_reducible rfl)) (by assumption) ?_
      try simp only [Act.put, List.setIfInBounds_toArray, List.set_cons_zero, List.set_cons_succ]
      refine tk 15 (opN rfl) (by kernel_rfl) (by rfl) (by (intro w hSw; (try dsimp only at hSw); go_simp; first | done | with_reducible rfl)) (by assumption) ?_
      try simp only [Act.put, List.setIfInBounds_toArray, List.set_cons_zero, List.set_cons_succ]
      refine tk 16 (opN rfl) (by kernel_rfl) (by rfl) (by (intro w hSw; (try dsimp only at hSw); go_simp; first | done | with_reducible rfl)) (by assumption) ?_
      try simp only [Act.put, List.setIfInBounds_toArray, List.set_cons_zero, List.set_cons_succ]
      refine tk 17 (opN rfl) (by kernel_rfl) (by rfl) (by (intro w hSw; (try dsimp only at hSw); go_simp; first | done | with_reducible rfl)) (by assumption) ?_
      try simp only [Act.put, List.setIfInBounds_toArray, List.set_cons_zero, List.set_cons_succ]
      refine tk 18 (opN rfl) (by kernel_rfl) (by rfl) (by (intro w hSw; (try dsimp only at hSw); go_simp; first | done | with_reducible rfl)) (by assumption) ?_
      try simp only [Act.put, List.setIfInBounds_toArray, List.set_cons_zero, List.set_cons_succ]
      refine tk 19 (opN rfl) (by kernel_rfl) (by rfl) (by (intro w hSw; (try dsimp only at hSw); go_simp; first | done | with_reducible rfl)) (by assumption) ?_
      try simp only [Act.put, List.setIfInBounds_toArray, List.set_cons_zero, List.set_cons_succ]
      refine wpAnyH_ready (rs := [20]) (by kernel_rfl) (by simp) ?_
      refine AllReadyH.cons (opN rfl) (fun K hK => ?_) AllReadyH.nil
      go_simp
      go_at_call 72
      refine (C_spec_l12Find _ _ (x.2.take k) _ (x.2)[k].1.1 (Ty.rd_below (by (repeat' (first | (with_reducible exact Below.refl _ _) | (with_reducible assumption) | (with_reducible refine bel_set ?_ (by (try dsimp only); omega) _) | (with_reducible refine bel_alloc ?_ _) | (with_reducible refine bel_drewN ?_ _) | (with_reducible refine bel_drew ?_) | (with_reducible refine bel_trans ?_ (by assumption)))); done) HTK.out) (Ty.rd_below (by (repeat' (first | (with_reducible exact Below.refl _ _) | (with_reducible assumption) | (with_reducible refine bel_set ?_ (by (try dsimp only); omega) _) | (with_reducible refine bel_alloc ?_ _) | (with_reducible refine bel_drewN ?_ _) | (with_reducible refine bel_drew ?_) | (with_reducible refine bel_trans ?_ (by assumption)))); done) hng)).mono ?_
      rw [q3]
      rintro e w3 ⟨rfl, hb3⟩
      refine hK.out _ _ ?_ (fun hHeld => ?_)
      · (try dsimp only)
        exact HS.out _ (by (repeat' (first | (with_reducible exact Below.refl _ _) | (with_reducible assumption) | (with_reducible refine bel_set ?_ (by (try dsimp only); omega) _) | (with_reducible refine bel_alloc ?_ _) | (with_reducible refine bel_drewN ?_ _) | (with_reducible refine bel_drew ?_) | (with_reducible refine bel_trans ?_ (by assumption)))); done)
      clear hK K
      try simp only [Act.put, List.setIfInBounds_toArray, List.set_cons_zero, List.set_cons_succ]
      refine tk 21 (opN rfl) (by kernel_rfl) (by rfl) (by (intro w hSw; (try dsimp only at hSw); go_simp; first | done | with_reducible rfl)) (by assumption) ?_
      try simp only [Act.put, List.setIfInBounds_toArray, List.set_cons_zero, List.set_cons_succ]
      refine tk 22 (opN rfl) (by kernel_rfl) (by rfl) (by (intro w hSw; (try dsimp only at hSw); go_simp; first | done | with_reducible rfl)) (by assumption) ?_
      try simp only [Act.put, List.setIfInBounds_toArray, List.set_cons_zero, List.set_cons_succ]
      refine wpAnyH_done (by kernel_rfl) ?_ _
      refine NoPanic.normal ?_
      have hv3 : Below wr.heap.size wr w3 := (by (repeat' (first | (with_reducible exact Below.refl _ _) | (with_reducible assumption) | (with_reducible refine bel_set ?_ (by (try dsimp only); omega) _) | (with_reducible refine bel_alloc ?_ _) | (with_reducible refine bel_drewN ?_ _) | (with_reducible refine bel_drew ?_) | (with_reducible refine bel_trans ?_ (by assumption)))); done)
      clear q0 q3
      go_wp2
      go_roundw
      case rel => exact ⟨k + 1, by omega, by go_num, by rw [HSX.out, HT.out, HK.out, HZ.out]; rfl, bel_trans hb hv3⟩
      case measure => simp [intOf]; omega
    · have HE : Hid ((List.range (List.length x.2)).all (entP x.2) = true) := by have := HT.out; rwa [show k = List.length x.2 from by omega] at this
      have HF2 := Lib.hid (show F = (inR x.1 0 8 && decide ((List.length x.2 : Int) ≤ x.1)) from by rw [HF.out, HE.out]; simp)
      go_wp2_with fail
      refine (C_spec_l1In _ _ _ _).mono ?_
      rintro e w1 ⟨rfl, hw1⟩
      subst hw1
      cases q0 : inR x.1 0 8
      · rw [q0] at HF2
        go_wp2
        go_ret
        exact ⟨ret_bool (by rw [HF2.out]; rfl), hw⟩
      · rw [q0] at HF2
        go_wp2
        go_ret
        exact ⟨ret_bool (by rw [HF2.out]; rfl), hw⟩
end Go.Proofs.Ytemicfeiejfdkaa
