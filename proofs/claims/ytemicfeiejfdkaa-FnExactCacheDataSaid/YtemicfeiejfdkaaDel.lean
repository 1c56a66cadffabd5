/- An entry is taken out. Printed by gen36.py. -/
import Derived.Test.YtemicfeiejfdkaaRwd
import Derived.Test.YtemicfeiejfdkaaKst
namespace Go.Proofs.Ytemicfeiejfdkaa
open Go.RowKit
set_option linter.unusedVariables false
set_option linter.unusedSimpArgs false

set_option maxRecDepth 100000 in
set_option maxHeartbeats 2000000 in
theorem C_slices_Delete_CE (w : World) (v : Value) (x : List (Ty.D tCacheEntry)) (k base : Nat) (fp : List Nat) (h : DRowF tCacheEntry w base 91 v x fp) (hk : k < x.length) (hx : x.length ≤ 1099511627776) :
    Calls Try.prog 97 #[v, .int .i64 k, .int .i64 (k + 1 : Int)] w (fun e w' => ∃ v' fp', e = .returned v' ∧ DRowF tCacheEntry w' base 91 v' (dropAt x k) fp' ∧ List.Sublist fp' fp ∧ v'.ownBlock = v.ownBlock ∧ w.grownBy w' v.ownBlock) := by
  obtain ⟨g, cap, cur, css, fs, rfl, hbg, hB, hnc, hcm, hcs, htake, h2, rfl, h4⟩ := h.parts (by omega)
  have hgl : g < w.heap.size := hB.lt
  have hcs' : cur.size = cap * 6 := hcs
  have hlen : cur.toList.length = cap * 6 := by rw [Array.length_toList]; exact hcs
  have hones : ∀ u ∈ cur.toList.take (x.length * 6), u.oneCell' = true := by
    intro u hu
    have hu' : u ∈ cur.toList.take (x.length * Ty.sz tCacheEntry) := hu
    rw [htake] at hu'
    obtain ⟨i, hi, hu'⟩ := List.mem_flatMap.1 hu'
    exact Ty.ow_ones (h2 i (List.mem_range.1 hi)).2 u hu'
  have hnewsl : ((cur.toList.take (x.length * 6)).drop ((k + 1) * 6)).length = (x.length - (k + 1)) * 6 := by
    rw [List.length_drop, List.length_take, hlen]; omega
  obtain ⟨A, hA, hsrc⟩ : ∃ A : Addr, (if cap = k + 1 then some (⟨g, 0, none⟩ : Addr) else some ⟨g, (k + 1) * 6, none⟩) = some A ∧ Hid (∀ j u, ((cur.toList.take (x.length * 6)).drop ((k + 1) * 6))[j]? = some u → ∀ W, Blk W g 91 cur → W.cell? (A.add j) = some u) := by
    by_cases hc : cap = k + 1
    · refine ⟨⟨g, 0, none⟩, by simp [hc], fun j u hu => ?_⟩
      have h0 : ((cur.toList.take (x.length * 6)).drop ((k + 1) * 6)).length = 0 := by rw [hnewsl]; omega
      rw [List.length_eq_zero_iff.1 h0] at hu
      simp at hu
    · refine ⟨⟨g, (k + 1) * 6, none⟩, by simp [hc], fun j u hu W hW => ?_⟩
      have hj := (List.getElem?_eq_some_iff.1 hu).1
      rw [hnewsl] at hj
      rw [List.getElem?_drop, List.getElem?_take_of_lt (by omega), Array.getElem?_toList] at hu
      rw [Addr.add_lit, hW.cell, hu]
  have i0 : (0 : Int) ≤ (k : Int) := by omega
  have i1 : (k : Int) ≤ (k : Int) + 1 := by omega
  have i2 : (k : Int) + 1 ≤ (x.length : Int) := by omega
  have i3 : (x.length : Int) ≤ (cap : Int) := by omega
  have i4 : (0 : Int) ≤ (k : Int) + 1 := by omega
  have i5 : (k : Int) ≤ (cap : Int) := by omega
  have i6 : (k : Int) + 1 ≤ (cap : Int) := by omega
  have q1 : ((k : Int) == (k : Int) + 1) = false := by rw [beq_eq_false_iff_ne]; omega
  go_enter Try.func97, Try.ntmps97
  go_wp2_with fail
  refine wp_region_noPanic ?_
  refine wp_region_held_drew (S := (fun W => True)) (by kernel_rfl) ?_ (fun hHeld => ?_)
  · trivial
  refine tk 0 (opN rfl) (by kernel_rfl) (by rfl) (by (intro w hSw; (try dsimp only at hSw); go_simp; first | done | with_reducible rfl)) (by assumption) ?_
  try simp only [Act.put, List.setIfInBounds_toArray, List.set_cons_zero, List.set_cons_succ]
  refine tk 1 (opN rfl) (by kernel_rfl) (by rfl) (by (intro w hSw; (try dsimp only at hSw); go_simp; first | done | with_reducible rfl)) (by assumption) ?_
  try simp only [Act.put, List.setIfInBounds_toArray, List.set_cons_zero, List.set_cons_succ]
  refine tk 2 (opN rfl) (by kernel_rfl) (by rfl) (by (intro w hSw; (try dsimp only at hSw); go_simp; first | done | with_reducible rfl)) (by assumption) ?_
  try simp only [Act.put, List.setIfInBounds_toArray, List.set_cons_zero, List.set_cons_succ]
  refine tk 3 (opN rfl) (by kernel_rfl) (by rfl) (by (intro w hSw; (try dsimp only at hSw); go_simp; first | done | with_reducible rfl)) (by assumption) ?_
  try simp only [Act.put, List.setIfInBounds_toArray, List.set_cons_zero, List.set_cons_succ]
  refine tk 4 (opN rfl) (by kernel_rfl) (by rfl) (by (intro w hSw; (try dsimp only at hSw); go_simp; first | done | with_reducible rfl)) (by assumption) ?_
  try simp only [Act.put, List.setIfInBounds_toArray, List.set_cons_zero, List.set_cons_succ]
  refine tk 5 (opN rfl) (by kernel_rfl) (by rfl) (by (intro w hSw; (try dsimp only at hSw); go_simp; first | done | with_reducible rfl)) (by assumption) ?_
  try simp only [Act.put, List.setIfInBounds_toArray, List.set_cons_zero, List.set_cons_succ]
  refine wpAnyH_ready (rs := [6]) (by kernel_rfl) (by simp) ?_
  refine (AllReadyH.cons (opN rfl) (fun K hK => ?_) AllReadyH.nil)
  refine step_append_blk (by rfl) _ _ 22 (by rfl) 91 info_CacheEntry Try.underlying22 g k cap cur hB.drew (by rfl) A (x.length - (k + 1)) (cap - (k + 1)) ((cur.toList.take (x.length * 6)).drop ((k + 1) * 6)) (by rfl) hnewsl (fun j u hj => hsrc.out j u hj _ hB.drew) (fun u hu => hones u (List.mem_of_mem_drop hu)) (by omega) (by rw [hnewsl]; omega) ?_
  intro W1 cur1 hB1 hs1 hl1 hg1 hz1
  refine hK.out _ _ trivial (fun hHeld => ?_)
  clear hK K
  try simp only [Act.put, List.setIfInBounds_toArray, List.set_cons_zero, List.set_cons_succ]
  refine tk 7 (opN rfl) (by kernel_rfl) (by rfl) (by (intro w hSw; (try dsimp only at hSw); go_simp; first | done | with_reducible rfl)) (by assumption) ?_
  try simp only [Act.put, List.setIfInBounds_toArray, List.set_cons_zero, List.set_cons_succ]
  refine wpAnyH_done (by kernel_rfl) ?_ _
  refine NoPanic.normal ?_
  have hkm : k + (x.length - (k + 1)) = x.length - 1 := by omega
  have i7 : (x.length - 1 : Nat) < x.length := by omega
  have i8 : cap ≠ x.length - 1 := by omega
  have i9 : cap ≠ k + (x.length - (k + 1)) := by omega
  have HL1 := Lib.hid hl1
  have HNL := Lib.hid hnewsl
  have HTK := Lib.hid htake
  clear hl1 hnewsl hA hsrc hones htake
  obtain ⟨n1, hn1⟩ : ∃ n1, n1 = k + (x.length - (k + 1)) := ⟨_, rfl⟩
  rw [← hn1]
  have j0 : n1 + 1 = x.length := by omega
  have j1 : n1 ≤ x.length := by omega
  have j2 : n1 ≤ cap := by omega
  have j3 : (n1 : Int) ≤ (x.length : Int) := by omega
  have j4 : cap ≠ n1 := by omega
  have j5 : x.length - n1 = 1 := by omega
  clear hn1 hkm i7 i8 i9
  obtain ⟨W2, cur2, hcl, hB2, hs2, hl2, hg2, hz2⟩ := run_clear_row (P := Try.prog) 22 91 0 Try.underlying22 Try.zeroValue91 (by decide) g (n1 * 6) 1 (cap - n1) (by omega) cur1 hB1 (by rw [hs1, hcs']; show n1 * 6 + 1 * 6 ≤ cap * 6; omega)
  go_wp2
  go_ret
  refine ⟨_, fpDrop fs x.length k, rfl, ?_, fpDrop_sub fs hk, rfl, World.grownBy.trans (b := W1) ⟨hg1.os, hg1.tape, hg1.output, hg1.size, hg1.block⟩ hg2⟩
  have hnn : x.length - 1 = n1 := by omega
  rw [← hnn]
  refine DRowF.dropped (w := w) hbg hnc hcm HTK.out h2 h4 hk hB2 (by rw [hs2, hs1]; exact hcs) ?_ (fun b hb2 hb3 => ?_)
  · show cur2.toList.take ((x.length - 1) * 6) = cur.toList.take (k * 6) ++ (cur.toList.take (x.length * 6)).drop ((k + 1) * 6)
    rw [hnn, hl2, HL1.out, List.take_append_of_le_length (by rw [List.length_append, HNL.out, List.length_take, hlen]; omega), List.take_of_length_le (by rw [List.length_append, HNL.out, List.length_take, hlen]; omega)]
  · have e1 := hg2.block b (by rw [hz1]; exact hb2) (fun e => hb3 (by simpa using e))
    have e2 := hg1.block b hb2 (fun e => hb3 (by simpa using e))
    exact e1.trans e2
set_option maxRecDepth 100000 in
set_option maxHeartbeats 2000000 in
theorem C_spec_l12Without (w : World) (v : Value) (x : List (Ty.D tCacheEntry)) (k base : Nat) (fp : List Nat) (h : DRowF tCacheEntry w base 91 v x fp) (hk : k < x.length) (hx : x.length ≤ 1099511627) (hbase : base ≤ w.heap.size) :
    Calls Try.prog 94 #[v, .int .i64 k] w (fun e w' => ∃ v' fp', e = .returned v' ∧ DRowF tCacheEntry w' base 91 v' (dropAt x k) fp' ∧ List.Sublist fp' fp ∧ (∀ g, v'.ownBlock = some g → w.heap.size ≤ g) ∧ Below w.heap.size w w') := by
  obtain ⟨g, cap, cur, css, fs, rfl, hbg, hB, hnc, hcm, hcs, htake, h2, rfl, h4⟩ := h.parts (by omega)
  have hgl : g < w.heap.size := hB.lt
  obtain ⟨A, hA, hAk⟩ : ∃ A : Addr, (if cap = k + 1 then some (⟨g, 0, none⟩ : Addr) else some ⟨g, (k + 1) * 6, none⟩) = some A ∧ Hid (k + 1 < x.length → A = ⟨g, (k + 1) * Ty.sz tCacheEntry, none⟩) := by
    by_cases hc : cap = k + 1
    · exact ⟨⟨g, 0, none⟩, by simp [hc], fun h => by omega⟩
    · exact ⟨⟨g, (k + 1) * 6, none⟩, by simp [hc], fun _ => rfl⟩
  have hs1 := Lib.hid (SrcF.head (cap := cap) hB htake h2 (Nat.le_of_lt hk))
  have hs2 := Lib.hid (SrcF.tail (c := cap - (k + 1)) (k := k + 1) hB htake h2 hAk.out)
  have HSUB : Hid (List.Sublist (fpDrop fs x.length k) ((List.range x.length).flatMap fs)) := fpDrop_sub fs hk
  have hmlt := h.mem_lt
  have hq1 : Hid (∀ b ∈ (List.range k).flatMap fs, b < w.heap.size) := fun b hb => hmlt b (HSUB.out.subset (List.mem_append_left _ hb))
  have hq2 : Hid (∀ b ∈ (List.range (x.length - (k + 1))).flatMap (fun i => fs (k + 1 + i)), b < w.heap.size) := fun b hb => hmlt b (HSUB.out.subset (List.mem_append_right _ hb))
  have i0 : (0 : Int) ≤ (k : Int) := by omega
  have i2 : (k : Int) + 1 ≤ (x.length : Int) := by omega
  have i3 : (x.length : Int) ≤ (cap : Int) := by omega
  have i4 : (0 : Int) ≤ (k : Int) + 1 := by omega
  have i5 : (k : Int) ≤ (cap : Int) := by omega
  have i6 : (k : Int) + 1 ≤ (cap : Int) := by omega
  have i7 : IntKind.i64.wrap ((k : Int) + 1) = (k : Int) + 1 := IntWalk.i64_in _ (by omega)
  clear htake
  go_enter Try.func94, Try.ntmps94
  go_wp2_with fail
  refine wp_region_noPanic ?_
  refine wp_region_held_drew (S := (fun W => True)) (by kernel_rfl) ?_ (fun hHeld => ?_)
  · trivial
  refine tk 1 (opN rfl) (by kernel_rfl) (by rfl) (by (intro w hSw; (try dsimp only at hSw); go_simp; first | done | with_reducible rfl)) (by assumption) ?_
  try simp only [Act.put, List.setIfInBounds_toArray, List.set_cons_zero, List.set_cons_succ]
  refine tk 2 (opN rfl) (by kernel_rfl) (by rfl) (by (intro w hSw; (try dsimp only at hSw); go_simp; first | done | with_reducible rfl)) (by assumption) ?_
  try simp only [Act.put, List.setIfInBounds_toArray, List.set_cons_zero, List.set_cons_succ]
  refine tk 3 (opN rfl) (by kernel_rfl) (by rfl) (by (intro w hSw; (try dsimp only at hSw); go_simp; first | done | with_reducible rfl)) (by assumption) ?_
  try simp only [Act.put, List.setIfInBounds_toArray, List.set_cons_zero, List.set_cons_succ]
  refine tk 5 (opN rfl) (by kernel_rfl) (by rfl) (by (intro w hSw; (try dsimp only at hSw); go_simp; first | done | with_reducible rfl)) (by assumption) ?_
  try simp only [Act.put, List.setIfInBounds_toArray, List.set_cons_zero, List.set_cons_succ]
  refine tk 6 (opN rfl) (by kernel_rfl) (by rfl) (by (intro w hSw; (try dsimp only at hSw); go_simp; first | done | with_reducible rfl)) (by assumption) ?_
  try simp only [Act.put, List.setIfInBounds_toArray, List.set_cons_zero, List.set_cons_succ]
  refine tk 7 (opN rfl) (by kernel_rfl) (by rfl) (by (intro w hSw; (try dsimp only at hSw); go_simp; first | done | with_reducible rfl)) (by assumption) ?_
  try simp only [Act.put, List.setIfInBounds_toArray, List.set_cons_zero, List.set_cons_succ]
  refine tk 8 (opN rfl) (by kernel_rfl) (by rfl) (by (intro w hSw; (try dsimp only at hSw); go_simp; first | done | with_reducible rfl)) (by assumption) ?_
  try simp only [Act.put, List.setIfInBounds_toArray, List.set_cons_zero, List.set_cons_succ]
  refine wpAnyH_ready (rs := [0]) (by kernel_rfl) (by simp) ?_
  refine (AllReadyH.cons (opN rfl) (fun K hK => ?_) AllReadyH.nil)
  go_simp
  refine hK.out _ _ trivial (fun hHeld => ?_)
  clear hK K
  try simp only [Act.put, List.setIfInBounds_toArray, List.set_cons_zero, List.set_cons_succ]
  refine wpAnyH_ready (rs := [4]) (by kernel_rfl) (by simp) ?_
  refine (AllReadyH.cons (opN rfl) (fun K hK => ?_) AllReadyH.nil)
  refine step_append_drowF (by rfl) _ _ 22 (by rfl) base 91 info_CacheEntry rfl Try.underlying22 _ _ [] (x.take k) [] _ (by rfl) (by rfl) (DRowF.lit0 tCacheEntry w.drew 91 hbase) (hs1.out.keepB (fun b hb => heap_alloc_old w.drew _ hb)) (fun g' hg' hm => by have := hq1.out g' hm; have := ob_lit hg'; simp only [World.size_drew] at this; omega) (by simp only [List.length_nil, List.length_take]; omega) (by simp only [List.length_nil, List.length_take]; unfold maxLen; omega) (by simp only [World.size_alloc, World.size_drew]; omega) ?_
  intro v1 W1 hr1 hg1 ho1
  refine hK.out _ _ trivial (fun hHeld => ?_)
  clear hK K
  try simp only [Act.put, List.setIfInBounds_toArray, List.set_cons_zero, List.set_cons_succ]
  have hold1 : ∀ b, b < w.heap.size → W1.heap[b]? = w.heap[b]? := fun b hb => (hg1.block b (by simp only [World.size_alloc, World.size_drew]; omega) (fun e => by have := ob_lit e.symm; simp only [World.size_drew] at this; omega)).trans (heap_alloc_old w.drew _ hb)
  have hsz1 : w.heap.size ≤ W1.heap.size := by have := hg1.size; simp only [World.size_alloc, World.size_drew] at this; omega
  have ho1' : ∀ g', v1.ownBlock = some g' → w.heap.size ≤ g' := by
    intro g' hg'
    rcases ho1 with ho1 | ho1
    · rw [ho1] at hg'
      have := ob_lit hg'
      simp only [World.size_drew] at this
      omega
    · rw [ho1] at hg'
      simp only [World.size_alloc, World.size_drew, Option.some.injEq] at hg'
      omega
  have hr1' : DRowF tCacheEntry W1 base 91 v1 (x.take k) ((List.range k).flatMap fs) := hr1
  clear hr1
  refine wpAnyH_ready (rs := [9]) (by kernel_rfl) (by simp) ?_
  refine (AllReadyH.cons (opN rfl) (fun K hK => ?_) AllReadyH.nil)
  refine step_append_drowF (by rfl) _ _ 22 (by rfl) base 91 info_CacheEntry rfl Try.underlying22 _ _ (x.take k) (x.drop (k + 1)) _ _ (by rfl) (by rfl) hr1' (hs2.out.keepB hold1) (fun g' hg' hm => by have := hq2.out g' hm; have := ho1' g' hg'; omega) (by simp only [List.length_take, List.length_drop]; omega) (by simp only [List.length_take, List.length_drop]; unfold maxLen; omega) (by omega) ?_
  intro v2 W2 hr2 hg2 ho2
  refine hK.out _ _ trivial (fun hHeld => ?_)
  clear hK K
  try simp only [Act.put, List.setIfInBounds_toArray, List.set_cons_zero, List.set_cons_succ]
  have hsz2 : w.heap.size ≤ W2.heap.size := Nat.le_trans hsz1 hg2.size
  have hfin : DRowF tCacheEntry W2 base 91 v2 (dropAt x k) (fpDrop fs x.length k) := hr2
  have HO2 : Hid (∀ g', v2.ownBlock = some g' → w.heap.size ≤ g') := by
    intro g' hg'
    rcases ho2 with ho2 | ho2
    · exact ho1' g' (by rw [← ho2]; exact hg')
    · rw [ho2] at hg'
      simp only [Option.some.injEq] at hg'
      omega
  have HFIN := Lib.hid hfin
  have hbel : Below w.heap.size w W2 := ⟨hg2.os.trans hg1.os, hg2.tape.trans hg1.tape, hg2.output.trans hg1.output, hsz2, fun b hb => (hg2.block b (by omega) (fun e => by have := ho1' b e.symm; omega)).trans (hold1 b hb)⟩
  clear hfin hr2 hr1'
  refine tk 10 (opN rfl) (by kernel_rfl) (by rfl) (by (intro w hSw; (try dsimp only at hSw); go_simp; first | done | with_reducible rfl)) (by assumption) ?_
  try simp only [Act.put, List.setIfInBounds_toArray, List.set_cons_zero, List.set_cons_succ]
  refine wpAnyH_done (by kernel_rfl) ?_ _
  refine NoPanic.normal ?_
  go_wp2
  go_ret
  exact ⟨_, _, rfl, HFIN.out, HSUB.out, HO2.out, hbel⟩
end Go.Proofs.Ytemicfeiejfdkaa
