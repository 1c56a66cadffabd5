/- The names of what is cached. Printed by gen30.py. -/
import Derived.Test.YtemicfeiejfdkaaCpd
import Derived.Test.YtemicfeiejfdkaaDrf
import Derived.Test.YtemicfeiejfdkaaNb
import Derived.Test.YtemicfeiejfdkaaRet
import Derived.Test.YtemicfeiejfdkaaMrk
namespace Go.Proofs.Ytemicfeiejfdkaa
open Go.RowKit
set_option linter.unusedVariables false
set_option linter.unusedSimpArgs false

def namesOf (l : List (Ty.D tCacheEntry)) : List (List (List UInt8)) := l.map (fun e => e.1.1)
def f_CachedNames (x : Ty.D tContentStore) : List (List (List UInt8)) := namesOf x.2
theorem store_bulk' {x : tContentStore.D} {n : Nat} (s : Ty.bulk tContentStore x ≤ n) : Ty.bulk (.sl tCacheEntry) x.2 ≤ n := by
  have h1 : 0 + Ty.bulk (.sl tCacheEntry) x.2 ≤ n := s
  omega
theorem entry_bulk' {x : tCacheEntry.D} {n : Nat} (s : Ty.bulk tCacheEntry x ≤ n) : Ty.bulk tData x.1 ≤ n := by
  have h1 : Ty.bulk tData x.1 + 0 ≤ n := s
  omega
theorem data_bulk_name {x : tData.D} {n : Nat} (s : Ty.bulk tData x ≤ n) : Ty.bulk (.sl .str) x.1 ≤ n := by
  have h1 : Ty.bulk (.sl .str) x.1 + (Ty.bulk (.sl .byte) x.2.1 + (Ty.bulk (.sl .str) x.2.2.1 + (0 + 0))) ≤ n := s
  omega
theorem rd_pr_head {w : World} {a b : Ty} {u : Value} {cs : List Value} {x : (Ty.pr (.sl a) b).D} (h : (Ty.pr (.sl a) b).rd w (u :: cs) x) : (Ty.sl a).rd w [u] x.1 := by
  obtain ⟨c1, c2, e, h1, h2⟩ := h
  obtain ⟨A, c, rfl⟩ := Ty.rd_slv h1
  simp only [List.cons_append, List.nil_append, List.cons.injEq] at e
  rw [e.1]; exact h1
theorem names_bulk : ∀ (l : List (Ty.D tCacheEntry)), Ty.bulk (.sl (.sl .str)) (l.map (fun e => e.1.1)) ≤ Ty.bulk (.sl tCacheEntry) l
  | [] => Nat.le_refl _
  | a :: l => by
    have h1 : Ty.bulk (.sl (.sl .str)) ((a :: l).map (fun e => e.1.1)) = Ty.bulk (.sl (.sl .str)) [a.1.1] + Ty.bulk (.sl (.sl .str)) (l.map (fun e => e.1.1)) := bulk_app (e := .sl .str) [a.1.1] _
    have h2 : Ty.bulk (.sl tCacheEntry) (a :: l) = Ty.bulk (.sl tCacheEntry) [a] + Ty.bulk (.sl tCacheEntry) l := bulk_app (e := tCacheEntry) [a] l
    have h3 := bulk_one (e := .sl .str) a.1.1
    have h4 := bulk_one (e := tCacheEntry) a
    have h5 := data_bulk_name (entry_bulk' (x := a) (Nat.le_refl _))
    have := names_bulk l
    omega
theorem N_CachedNames {x : Ty.D tContentStore} (s0 : Ty.bulk tContentStore x ≤ 1048576) : Ty.cnt (.sl (.sl .str)) (f_CachedNames x) ≤ 100000000000 :=
  cnt_bd (t := .sl (.sl .str)) (B := 1048576) (Nat.le_trans (names_bulk _ : Ty.bulk (.sl (.sl .str)) (f_CachedNames x) ≤ _) (store_bulk' s0)) (by decide)
theorem namesOf_succ (l : List (Ty.D tCacheEntry)) {k : Nat} (h : k < l.length) : namesOf (l.take (k + 1)) = namesOf (l.take k) ++ [l[k].1.1] := by
  unfold namesOf
  rw [List.take_succ_eq_append_getElem h, List.map_append]; rfl
theorem namesOf_len (l : List (Ty.D tCacheEntry)) {k : Nat} (h : k ≤ l.length) : (namesOf (l.take k)).length = k := by unfold namesOf; rw [List.length_map, List.length_take]; omega
set_option maxRecDepth 100000 in
set_option maxHeartbeats 2000000 in
theorem C_impl_CachedNames (w : World) (cs : List Value) (x : Ty.D tContentStore) (h : Ty.rd w tContentStore cs x) (s0 : Ty.bulk tContentStore x ≤ 1048576) :
    Calls Try.prog 24 #[.agg cs.toArray] w (RetSl w (.sl .str) (f_CachedNames x)) := by
  obtain ⟨Ax1, cx1, rfl, xg0, xg1⟩ := rd_ContentStore h
  have s0e := store_bulk' s0
  have hxl := Ty.bulk_len s0e
  obtain ⟨_, _, _, _, _, m9⟩ := Ty.rd_sl xg1
  have kb0_0 : (w.alloc (.cells #[.int .i64 x.1, .slice Ax1 (List.length x.2) cx1] 24)).cell? ⟨w.heap.size, 0, none⟩ = some (.int .i64 x.1) := (cell_new w _ _ 0 (by first | rfl | simp only [World.size_alloc]))
  have kb0_1 : (w.alloc (.cells #[.int .i64 x.1, .slice Ax1 (List.length x.2) cx1] 24)).cell? ⟨w.heap.size, 1, none⟩ = some (.slice Ax1 (List.length x.2) cx1) := (cell_new w _ _ 1 (by first | rfl | simp only [World.size_alloc]))
  have hvb : Below w.heap.size w (w.alloc (.cells #[.int .i64 x.1, .slice Ax1 (List.length x.2) cx1] 24)) := (by repeat' (first | (with_reducible exact Below.refl _ _) | (with_reducible assumption) | (with_reducible refine bel_set ?_ (by (try dsimp only); omega) _) | (with_reducible refine bel_alloc ?_ _) | (with_reducible refine bel_drewN ?_ _) | (with_reducible refine bel_drew ?_)))
  have zb0 := Lib.hid (show (w.alloc (.cells #[.int .i64 x.1, .slice Ax1 (List.length x.2) cx1] 24)).heap.size = w.heap.size + 1 from by simp only [World.size_alloc])
  have zb : w.heap.size < (w.alloc (.cells #[.int .i64 x.1, .slice Ax1 (List.length x.2) cx1] 24)).heap.size := by simp only [World.size_alloc]; omega
  go_enter Try.func24, Try.ntmps24
  go_wp2
  generalize (w.alloc (.cells #[.int .i64 x.1, .slice Ax1 (List.length x.2) cx1] 24)) = WX at kb0_0 kb0_1 hvb zb zb0 ⊢
  have HC : Hid (∀ V, Below WX.heap.size WX V → V.cell? ⟨w.heap.size, 0, none⟩ = some (.int .i64 x.1) ∧ V.cell? ⟨w.heap.size, 1, none⟩ = some (.slice Ax1 (List.length x.2) cx1)) := fun V hW => ⟨(hW.cell (p := ⟨w.heap.size, 0, none⟩) (by dsimp only; omega)).trans kb0_0, (hW.cell (p := ⟨w.heap.size, 1, none⟩) (by dsimp only; omega)).trans kb0_1⟩
  clear kb0_0 kb0_1
  have hr0 : DRow (.sl .str) (WX.alloc (.cells #[] 47)) WX.heap.size 47 (.slice (some ⟨w.heap.size + 1, 0, none⟩) 0 0) [] := by rw [← zb0.out]; exact DRow.lit0 (.sl .str) WX 47 (Nat.le_refl _)
  have HR0 := Lib.hid hr0
  clear hr0
  go_loopw [3, 10] (fun l i wr => ∃ k : Nat, k ≤ List.length x.2 ∧ i = .int .i64 k ∧ DRow (.sl .str) wr WX.heap.size 47 l (namesOf (x.2.take k)) ∧ Below WX.heap.size WX wr) (fun _ i _ => List.length x.2 - (intOf i).toNat)
  case atStart => exact ⟨0, by omega, rfl, HR0.out, (by repeat' (first | (with_reducible exact Below.refl _ _) | (with_reducible assumption) | (with_reducible refine bel_set ?_ (by (try dsimp only); omega) _) | (with_reducible refine bel_alloc ?_ _) | (with_reducible refine bel_drewN ?_ _) | (with_reducible refine bel_drew ?_)))⟩
  case round =>
    obtain ⟨k, hk, rfl, hr, hb⟩ := hrel
    have HR := Lib.hid hr
    clear hr
    have hw : Below w.heap.size w wr := bel_trans hvb hb
    have hz0 : w.heap.size < wr.heap.size := by have := hb.size; omega
    obtain ⟨j0, j1⟩ := HC.out _ (hb)
    by_cases hlt : k < List.length x.2
    · have HL := Lib.hid (show (namesOf (x.2.take k)).length = k from namesOf_len x.2 hk)
      have HP := Lib.hid (namesOf_succ x.2 hlt)
      obtain ⟨b, o, dse, rfl, hle, hcelle, hrde⟩ := Ty.rd_at (Ty.rd_below hw xg1) hlt
      have hrde' := hrde
      obtain ⟨Ae00, ce00, Ae01, ce01, Ae02, ce02, rfl, eg0, eg1⟩ := rd_CacheEntry hrde
      have e0 : wr.cell? ⟨b, o + k * 6, none⟩ = some (.slice Ae00 (List.length (x.2)[k].1.1) ce00) := by simpa [Ty.sz] using hcelle 0 (by decide)
      have e1 : wr.cell? ⟨b, o + k * 6 + 1, none⟩ = some (.slice Ae01 (List.length (x.2)[k].1.2.1) ce01) := by simpa [Ty.sz] using hcelle 1 (by decide)
      have e2 : wr.cell? ⟨b, o + k * 6 + 2, none⟩ = some (.slice Ae02 (List.length (x.2)[k].1.2.2.1) ce02) := by simpa [Ty.sz] using hcelle 2 (by decide)
      have e3 : wr.cell? ⟨b, o + k * 6 + 3, none⟩ = some (.int .i64 (x.2)[k].1.2.2.2.1) := by simpa [Ty.sz] using hcelle 3 (by decide)
      have e4 : wr.cell? ⟨b, o + k * 6 + 4, none⟩ = some (.int .i64 (x.2)[k].1.2.2.2.2) := by simpa [Ty.sz] using hcelle 4 (by decide)
      have e5 : wr.cell? ⟨b, o + k * 6 + 5, none⟩ = some (.int .i64 (x.2)[k].2) := by simpa [Ty.sz] using hcelle 5 (by decide)
      clear hcelle hle
      have hd := data_bulk_name (entry_bulk' (Ty.bulk_at s0e hlt))
      have hnl := Ty.bulk_len hd
      have hng : Ty.rd wr (.sl .str) [.slice Ae00 (List.length (x.2)[k].1.1) ce00] (x.2)[k].1.1 := rd_pr_head eg0
      go_wp2_with fail
      refine (C_impl_copyName _ _ (x.2)[k].1.1 (Ty.rd_below (by repeat' (first | (with_reducible exact Below.refl _ _) | (with_reducible assumption) | (with_reducible refine bel_set ?_ (by (try dsimp only); omega) _) | (with_reducible refine bel_alloc ?_ _) | (with_reducible refine bel_drewN ?_ _) | (with_reducible refine bel_drew ?_))) hng) (by omega)).mono ?_
      rintro e w1 ⟨cs1, fp1, rfl, how1, hfr1, hb1⟩
      obtain ⟨A1, c1, rfl⟩ := Ty.ow_slv how1
      have hv1 : Below wr.heap.size wr w1 := bel_trans (by repeat' (first | (with_reducible exact Below.refl _ _) | (with_reducible assumption) | (with_reducible refine bel_set ?_ (by (try dsimp only); omega) _) | (with_reducible refine bel_alloc ?_ _) | (with_reducible refine bel_drewN ?_ _) | (with_reducible refine bel_drew ?_))) hb1
      have hz1 := hb1.size
      (try simp only [World.size_alloc] at hz1)
      go_wp2_with (at_builtin; go_loud (refine wpList_append_drow (e := .sl .str) rfl _ _ 35 rfl wr WX.heap.size 47 info_Name rfl Try.underlying35 _ _ (namesOf (x.2.take k)) [(x.2)[k].1.1] (by rfl) (by rfl) HR.out (bel_alloc hv1 _) (Src.lit 47 how1 (hfr1.mono (by simp only [World.size_alloc]; omega) (Nat.le_refl _))) ?_ ?_ ?_ ?_))
      case refine_1 => rw [HL.out, List.length_singleton]; omega
      case refine_2 => rw [HL.out, List.length_singleton]; unfold maxLen; omega
      case refine_3 => exact hb.size
      intro v' w' hr' hg'
      have hb' : Below WX.heap.size WX w' := bel_grown (bel_alloc (bel_trans hb hv1) _) (by have := hb.size; simp only [World.size_alloc]; omega) hg' (fun g hg => (HR.out.block g hg).1)
      have HR' := Lib.hid hr'
      clear hr' hg'
      go_wp2
      go_roundw
      case rel => exact ⟨k + 1, by omega, by go_num, by rw [HP.out]; exact HR'.out, hb'⟩
      case measure => simp [intOf]; omega
    · have HE : Hid (namesOf (x.2.take k) = f_CachedNames x) := by unfold Hid f_CachedNames; rw [List.take_of_length_le (by omega)]
      obtain ⟨A9, c9, fp9, rfl, how9, hfr9⟩ := HR.out.own
      go_wp2
      go_ret
      rw [← HE.out]
      exact ⟨A9, c9, fp9, rfl, how9, hfr9.mono (by omega) (Nat.le_refl _), hw⟩
set_option maxRecDepth 100000 in
set_option maxHeartbeats 2000000 in
theorem C_spec_CachedNames (w : World) (cs : List Value) (x : Ty.D tContentStore) (h : Ty.rd w tContentStore cs x) (s0 : Ty.bulk tContentStore x ≤ 1048576) :
    Calls Try.prog 23 #[.agg cs.toArray] w (RetSl w (.sl .str) (f_CachedNames x)) := by
  obtain ⟨Ax1, cx1, rfl, xg0, xg1⟩ := rd_ContentStore h
  have s0e := store_bulk' s0
  have hxl := Ty.bulk_len s0e
  obtain ⟨_, _, _, _, _, m9⟩ := Ty.rd_sl xg1
  have kb0_0 : (w.alloc (.cells #[.int .i64 x.1, .slice Ax1 (List.length x.2) cx1] 24)).cell? ⟨w.heap.size, 0, none⟩ = some (.int .i64 x.1) := (cell_new w _ _ 0 (by first | rfl | simp only [World.size_alloc]))
  have kb0_1 : (w.alloc (.cells #[.int .i64 x.1, .slice Ax1 (List.length x.2) cx1] 24)).cell? ⟨w.heap.size, 1, none⟩ = some (.slice Ax1 (List.length x.2) cx1) := (cell_new w _ _ 1 (by first | rfl | simp only [World.size_alloc]))
  have hvb : Below w.heap.size w (w.alloc (.cells #[.int .i64 x.1, .slice Ax1 (List.length x.2) cx1] 24)) := (by repeat' (first | (with_reducible exact Below.refl _ _) | (with_reducible assumption) | (with_reducible refine bel_set ?_ (by (try dsimp only); omega) _) | (with_reducible refine bel_alloc ?_ _) | (with_reducible refine bel_drewN ?_ _) | (with_reducible refine bel_drew ?_)))
  have zb0 := Lib.hid (show (w.alloc (.cells #[.int .i64 x.1, .slice Ax1 (List.length x.2) cx1] 24)).heap.size = w.heap.size + 1 from by simp only [World.size_alloc])
  have zb : w.heap.size < (w.alloc (.cells #[.int .i64 x.1, .slice Ax1 (List.length x.2) cx1] 24)).heap.size := by simp only [World.size_alloc]; omega
  go_enter Try.func23, Try.ntmps23
  go_wp2
  generalize (w.alloc (.cells #[.int .i64 x.1, .slice Ax1 (List.length x.2) cx1] 24)) = WX at kb0_0 kb0_1 hvb zb zb0 ⊢
  have HC : Hid (∀ V, Below WX.heap.size WX V → V.cell? ⟨w.heap.size, 0, none⟩ = some (.int .i64 x.1) ∧ V.cell? ⟨w.heap.size, 1, none⟩ = some (.slice Ax1 (List.length x.2) cx1)) := fun V hW => ⟨(hW.cell (p := ⟨w.heap.size, 0, none⟩) (by dsimp only; omega)).trans kb0_0, (hW.cell (p := ⟨w.heap.size, 1, none⟩) (by dsimp only; omega)).trans kb0_1⟩
  clear kb0_0 kb0_1
  have hr0 : DRow (.sl .str) (WX.alloc (.cells #[] 47)) WX.heap.size 47 (.slice (some ⟨w.heap.size + 1, 0, none⟩) 0 0) [] := by rw [← zb0.out]; exact DRow.lit0 (.sl .str) WX 47 (Nat.le_refl _)
  have HR0 := Lib.hid hr0
  clear hr0
  go_loopw [3, 4] (fun l i wr => ∃ k : Nat, k ≤ List.length x.2 ∧ i = .int .i64 k ∧ DRow (.sl .str) wr WX.heap.size 47 l (namesOf (x.2.take k)) ∧ Below WX.heap.size WX wr) (fun _ i _ => List.length x.2 - (intOf i).toNat)
  case atStart => exact ⟨0, by omega, rfl, HR0.out, (by repeat' (first | (with_reducible exact Below.refl _ _) | (with_reducible assumption) | (with_reducible refine bel_set ?_ (by (try dsimp only); omega) _) | (with_reducible refine bel_alloc ?_ _) | (with_reducible refine bel_drewN ?_ _) | (with_reducible refine bel_drew ?_)))⟩
  case round =>
    obtain ⟨k, hk, rfl, hr, hb⟩ := hrel
    have HR := Lib.hid hr
    clear hr
    have hw : Below w.heap.size w wr := bel_trans hvb hb
    have hz0 : w.heap.size < wr.heap.size := by have := hb.size; omega
    obtain ⟨j0, j1⟩ := HC.out _ (hb)
    by_cases hlt : k < List.length x.2
    · have HL := Lib.hid (show (namesOf (x.2.take k)).length = k from namesOf_len x.2 hk)
      have HP := Lib.hid (namesOf_succ x.2 hlt)
      obtain ⟨b, o, dse, rfl, hle, hcelle, hrde⟩ := Ty.rd_at (Ty.rd_below hw xg1) hlt
      have hrde' := hrde
      obtain ⟨Ae00, ce00, Ae01, ce01, Ae02, ce02, rfl, eg0, eg1⟩ := rd_CacheEntry hrde
      have e0 : wr.cell? ⟨b, o + k * 6, none⟩ = some (.slice Ae00 (List.length (x.2)[k].1.1) ce00) := by simpa [Ty.sz] using hcelle 0 (by decide)
      have e1 : wr.cell? ⟨b, o + k * 6 + 1, none⟩ = some (.slice Ae01 (List.length (x.2)[k].1.2.1) ce01) := by simpa [Ty.sz] using hcelle 1 (by decide)
      have e2 : wr.cell? ⟨b, o + k * 6 + 2, none⟩ = some (.slice Ae02 (List.length (x.2)[k].1.2.2.1) ce02) := by simpa [Ty.sz] using hcelle 2 (by decide)
      have e3 : wr.cell? ⟨b, o + k * 6 + 3, none⟩ = some (.int .i64 (x.2)[k].1.2.2.2.1) := by simpa [Ty.sz] using hcelle 3 (by decide)
      have e4 : wr.cell? ⟨b, o + k * 6 + 4, none⟩ = some (.int .i64 (x.2)[k].1.2.2.2.2) := by simpa [Ty.sz] using hcelle 4 (by decide)
      have e5 : wr.cell? ⟨b, o + k * 6 + 5, none⟩ = some (.int .i64 (x.2)[k].2) := by simpa [Ty.sz] using hcelle 5 (by decide)
      clear hcelle hle
      have hd := data_bulk_name (entry_bulk' (Ty.bulk_at s0e hlt))
      have hnl := Ty.bulk_len hd
      have hng : Ty.rd wr (.sl .str) [.slice Ae00 (List.length (x.2)[k].1.1) ce00] (x.2)[k].1.1 := rd_pr_head eg0
      go_wp2_with fail
      refine (C_spec_l4Copy _ _ (x.2)[k].1.1 (Ty.rd_below (by repeat' (first | (with_reducible exact Below.refl _ _) | (with_reducible assumption) | (with_reducible refine bel_set ?_ (by (try dsimp only); omega) _) | (with_reducible refine bel_alloc ?_ _) | (with_reducible refine bel_drewN ?_ _) | (with_reducible refine bel_drew ?_))) hng) (by omega)).mono ?_
      rintro e w1 ⟨cs1, fp1, rfl, how1, hfr1, hb1⟩
      obtain ⟨A1, c1, rfl⟩ := Ty.ow_slv how1
      have hv1 : Below wr.heap.size wr w1 := bel_trans (by repeat' (first | (with_reducible exact Below.refl _ _) | (with_reducible assumption) | (with_reducible refine bel_set ?_ (by (try dsimp only); omega) _) | (with_reducible refine bel_alloc ?_ _) | (with_reducible refine bel_drewN ?_ _) | (with_reducible refine bel_drew ?_))) hb1
      have hz1 := hb1.size
      (try simp only [World.size_alloc] at hz1)
      go_wp2_with (at_builtin; go_loud (refine wpList_append_drow (e := .sl .str) rfl _ _ 35 rfl wr WX.heap.size 47 info_Name rfl Try.underlying35 _ _ (namesOf (x.2.take k)) [(x.2)[k].1.1] (by rfl) (by rfl) HR.out (bel_alloc (bel_alloc hv1 _) _) (Src.litE 47 (Ty.ow_bel (by repeat' (first | (with_reducible exact Below.refl _ _) | (with_reducible assumption) | (with_reducible refine bel_set ?_ (by (try dsimp only); omega) _) | (with_reducible refine bel_alloc ?_ _) | (with_reducible refine bel_drewN ?_ _) | (with_reducible refine bel_drew ?_))) how1) (hfr1.mono (by omega) (by simp only [World.size_alloc]; omega)) (by first | rfl | simp only [World.size_alloc])) ?_ ?_ ?_ ?_))
      case refine_1 => rw [HL.out, List.length_singleton]; omega
      case refine_2 => rw [HL.out, List.length_singleton]; unfold maxLen; omega
      case refine_3 => exact hb.size
      intro v' w' hr' hg'
      have hb' : Below WX.heap.size WX w' := bel_grown (bel_alloc (bel_alloc (bel_trans hb hv1) _) _) (by have := hb.size; simp only [World.size_alloc]; omega) hg' (fun g hg => (HR.out.block g hg).1)
      have HR' := Lib.hid hr'
      clear hr' hg'
      go_wp2
      go_roundw
      case rel => exact ⟨k + 1, by omega, by go_num, by rw [HP.out]; exact HR'.out, hb'⟩
      case measure => simp [intOf]; omega
    · have HE : Hid (namesOf (x.2.take k) = f_CachedNames x) := by unfold Hid f_CachedNames; rw [List.take_of_length_le (by omega)]
      obtain ⟨A9, c9, fp9, rfl, how9, hfr9⟩ := HR.out.own
      go_wp2
      go_ret
      rw [← HE.out]
      exact ⟨A9, c9, fp9, rfl, how9, hfr9.mono (by omega) (Nat.le_refl _), hw⟩
end Go.Proofs.Ytemicfeiejfdkaa
