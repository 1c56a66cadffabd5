/- Names read out of texts: the walk of the reference's way. -/
import Derived.Test.YtldgbnlcnlfmeaaPsp
import Derived.Test.YtldgbnlcnlfmeaaVal
import Derived.Test.YtldgbnlcnlfmeaaRet
import Derived.Test.YtldgbnlcnlfmeaaNb
import Derived.Test.YtldgbnlcnlfmeaaAsn
namespace Go.Proofs.Ytldgbnlcnlfmeaa
open Go.RowKit
set_option linter.unusedVariables false
set_option linter.unusedSimpArgs false

set_option maxHeartbeats 2000000 in
theorem C_spec_ParseName (w : World) (s : List UInt8) (hs : s.length ≤ 1000000000) :
    Calls Try.prog 169 #[vS s] w (RetAgg2 w (.sl .str) (pnS s).1 (.bool (pnS s).2)) := by
  by_cases h1 : s = [47]
  · have HY := Lib.hid (pnS_one h1)
    have q1 : (s == [47]) = true := by simp [h1]
    generalize pnS s = F at HY ⊢
    clear h1
    go_enter Try.func169, Try.ntmps169
    go_wp2
    refine bodyPost_ret (v := .tuple #[.agg #[.slice none 0 0], .bool true]) (by simp [results, Try.results169, go_sem]) rfl ?_
    rw [HY.out]
    exact ⟨[.slice none 0 0], [], rfl, rd_ow_nil _ _, FrI.nil _ _, (by repeat' (first | (with_reducible exact Below.refl _ _) | (with_reducible assumption) | (with_reducible refine bel_set ?_ (by (try dsimp only); omega) _) | (with_reducible refine bel_alloc ?_ _) | (with_reducible refine bel_drewN ?_ _) | (with_reducible refine bel_drew ?_)))⟩
  have HNO := Lib.hid (fun h => pnS_no h1 h)
  have HYES := Lib.hid (fun h => pnS_yes h1 h)
  have q1 : (s == [47]) = false := by simp [h1]
  have hL := spl_pos 47 s
  have hcall : Calls Try.prog 170 #[vS s, .int .u8 47] (w.alloc (.cells #[.slice none 0 0] 27)) (RetRow flatS (w.alloc (.cells #[.slice none 0 0] 27)) 9 (spl 47 s)) := C_spec_l4Split _ s 47 hs
  generalize pnS s = F at HNO HYES ⊢
  generalize spl 47 s = L at HNO HYES hL hcall
  go_enter Try.func169, Try.ntmps169
  go_wp2_with fail
  refine hcall.mono ?_
  rintro e w1 ⟨v1, rfl, hr1, hb1⟩
  obtain ⟨A1, c1, fp1, rfl, how1, hfr1⟩ := hr1.own hb1.size
  have hcl : L.length ≤ c1 := by obtain ⟨A, c, h2, h3, _⟩ := how1; injection h2 with h2 _; injection h2 with _ _ h7; rw [h7]; exact h3
  obtain ⟨b, o, ds, rfl, hl, hcell, hrd⟩ := Ty.rd_at (Ty.ow_rd how1) hL
  obtain ⟨rfl, hsl⟩ := hrd
  have e0 : w1.cell? ⟨b, o, none⟩ = some (vS L[0]) := by simpa [Ty.sz] using hcell 0 (by decide)
  clear hcell hl hcall hr1 h1
  have hw1 : Below w.heap.size w w1 := bel_trans (by repeat' (first | (with_reducible exact Below.refl _ _) | (with_reducible assumption) | (with_reducible refine bel_set ?_ (by (try dsimp only); omega) _) | (with_reducible refine bel_alloc ?_ _) | (with_reducible refine bel_drewN ?_ _) | (with_reducible refine bel_drew ?_))) hb1
  have hB1 : Blk w1 w.heap.size 27 #[.slice none 0 0] := (Blk.new w _ _).below hb1 (by rw [World.size_alloc]; omega)
  have k1 : w1.cell? ⟨w.heap.size, 0, none⟩ = some (.slice none 0 0) := hB1.cell 0
  have f1 : w1.frozen? ⟨w.heap.size, 0, none⟩ = false := hB1.frozen 0
  have z1 : w.heap.size < w1.heap.size := hB1.lt
  have hbl : b < w1.heap.size := World.block_lt_of_cell? _ _ e0
  have hs1 := hb1.size
  simp only [World.size_alloc] at hs1 hfr1
  by_cases h2 : 2 ≤ L.length
  · obtain ⟨fp2, how2, hfr2⟩ := Ty.ow_tail how1 (by omega) hfr1
    have ht : L.drop 1 = L.tail := by simp
    rw [ht] at how2
    have hhead : L.head? = some L[0] := by cases L with | nil => simp at hL | cons a l => rfl
    have q2 : ¬ ((L.length : Int) < 2) := by omega
    have q4 : ¬ c1 = 1 := by omega
    have q5 : decide ((L.length : Int) < 2) = false := by simp; omega
    clear ht
    have how2 : (Ty.sl .str).ow w1 [.slice (some ⟨b, o + 1, none⟩) (L.length - 1) (c1 - 1)] L.tail fp2 := how2
    by_cases h3 : L[0] = []
    · have q3 : L[0].isEmpty = true := by rw [h3]; rfl
      generalize hvv : validName L.tail = vv at HNO HYES
      have HVV := Lib.hid hvv
      have HC : Hid ((decide (2 ≤ L.length) && decide (L.head? = some []) && vv) = vv) := by unfold Hid; rw [hhead, h3]; simp [h2]
      clear h3 hhead hvv
      go_wp2_with fail
      have hv := C_spec_ValidName (w1.alloc (.cells #[.slice (some ⟨b, o + 1, none⟩) (L.length - 1) (c1 - 1)] 27)) _ L.tail (Ty.rd_below (by repeat' (first | (with_reducible exact Below.refl _ _) | (with_reducible assumption) | (with_reducible refine bel_set ?_ (by (try dsimp only); omega) _) | (with_reducible refine bel_alloc ?_ _) | (with_reducible refine bel_drewN ?_ _) | (with_reducible refine bel_drew ?_))) (Ty.ow_rd how2))
      rw [HVV.out] at hv
      refine hv.mono ?_
      rintro e w2 ⟨rfl, hb2⟩
      clear hv
      have hs2 := hb2.size
      simp only [World.size_alloc] at hs2
      have hx2 : Below w1.heap.size w1 w2 := bel_trans (bel_alloc (Below.refl _ _) _) hb2
      have hw2 : Below w.heap.size w w2 := bel_trans hw1 hx2
      have hB2 := hB1.below hx2 z1
      have hP2 : Blk w2 w1.heap.size 27 #[.slice (some ⟨b, o + 1, none⟩) (L.length - 1) (c1 - 1)] := (Blk.new w1 _ _).below hb2 (by rw [World.size_alloc]; omega)
      have k2 : w2.cell? ⟨w.heap.size, 0, none⟩ = some (.slice none 0 0) := hB2.cell 0
      have f2 : w2.frozen? ⟨w.heap.size, 0, none⟩ = false := hB2.frozen 0
      have j2 : w2.cell? ⟨w1.heap.size, 0, none⟩ = some (.slice (some ⟨b, o + 1, none⟩) (L.length - 1) (c1 - 1)) := hP2.cell 0
      have z2 : w.heap.size < w2.heap.size := by omega
      have y2 : w1.heap.size < w2.heap.size := by omega
      clear k1 f1 e0
      cases vv with
      | false =>
        have HN := Lib.hid (HNO.out HC.out)
        go_wp2
        refine bodyPost_ret (v := .tuple #[.agg #[.slice none 0 0], .bool false]) (by simp [results, Try.results169, go_sem, k2, f2, z2]) rfl ?_
        rw [HN.out]
        exact ⟨[.slice none 0 0], [], rfl, rd_ow_nil _ _, FrI.nil _ _, (by repeat' (first | (with_reducible exact Below.refl _ _) | (with_reducible assumption) | (with_reducible refine bel_set ?_ (by (try dsimp only); omega) _) | (with_reducible refine bel_alloc ?_ _) | (with_reducible refine bel_drewN ?_ _) | (with_reducible refine bel_drew ?_)))⟩
      | true =>
        have HY := Lib.hid (HYES.out HC.out)
        go_wp2
        refine bodyPost_ret (v := .tuple #[.agg #[.slice (some ⟨b, o + 1, none⟩) (L.length - 1) (c1 - 1)], .bool true]) (by simp [results, Try.results169, go_sem, k2, f2, z2]) rfl ?_
        rw [HY.out]
        exact ⟨[.slice (some ⟨b, o + 1, none⟩) (L.length - 1) (c1 - 1)], fp2, rfl, Ty.ow_keep (by intro b hb'; have hb'' := (hfr2).2 b hb'; (try simp only [World.size_alloc, World.size_setCell, size_drewN, World.size_drew] at hb''); repeat (first | (with_reducible rfl) | (rw [Below.heap_setCell _ _ _ _ (by (try dsimp only); omega)]) | (rw [Below.heap_alloc _ _ _ (by (try simp only [World.size_alloc, World.size_setCell]); omega)]) | (rw [hx2.block _ (by (try simp only [World.size_alloc, World.size_setCell, size_drewN, World.size_drew]); omega)]))) how2, hfr2.mono (by (try simp only [World.size_alloc, World.size_setCell, size_drewN, World.size_drew]); omega) (by (try simp only [World.size_alloc, World.size_setCell, size_drewN, World.size_drew]); omega), (by repeat' (first | (with_reducible exact Below.refl _ _) | (with_reducible assumption) | (with_reducible refine bel_set ?_ (by (try dsimp only); omega) _) | (with_reducible refine bel_alloc ?_ _) | (with_reducible refine bel_drewN ?_ _) | (with_reducible refine bel_drew ?_)))⟩
    · have q3 : L[0].isEmpty = false := by cases hq : L[0] with | nil => exact absurd hq h3 | cons a l => rfl
      have HN := Lib.hid (HNO.out (by rw [hhead]; simp [h3]))
      clear h3
      go_wp2
      refine bodyPost_ret (v := .tuple #[.agg #[.slice none 0 0], .bool false]) (by simp [results, Try.results169, go_sem, k1, f1, z1]) rfl ?_
      rw [HN.out]
      exact ⟨[.slice none 0 0], [], rfl, rd_ow_nil _ _, FrI.nil _ _, (by repeat' (first | (with_reducible exact Below.refl _ _) | (with_reducible assumption) | (with_reducible refine bel_set ?_ (by (try dsimp only); omega) _) | (with_reducible refine bel_alloc ?_ _) | (with_reducible refine bel_drewN ?_ _) | (with_reducible refine bel_drew ?_)))⟩
  · have HN := Lib.hid (HNO.out (by simp; omega))
    have q2 : ((L.length : Int) < 2) := by omega
    go_wp2
    all_goals refine bodyPost_ret (v := .tuple #[.agg #[.slice none 0 0], .bool false]) (by simp [results, Try.results169, go_sem, k1, f1, z1]) rfl ?_
    all_goals rw [HN.out]
    all_goals exact ⟨[.slice none 0 0], [], rfl, rd_ow_nil _ _, FrI.nil _ _, (by repeat' (first | (with_reducible exact Below.refl _ _) | (with_reducible assumption) | (with_reducible refine bel_set ?_ (by (try dsimp only); omega) _) | (with_reducible refine bel_alloc ?_ _) | (with_reducible refine bel_drewN ?_ _) | (with_reducible refine bel_drew ?_)))⟩
set_option maxHeartbeats 1000000 in
theorem C_spec_l4Of (w : World) (s : List UInt8) (hs : s.length ≤ 1000000000) :
    Calls Try.prog 138 #[vS s] w (RetAgg w (.sl .str) (pnS s).1) := by
  go_enter Try.func138, Try.ntmps138
  go_wp2_with fail
  refine (C_spec_ParseName _ s hs).mono ?_
  rintro e w1 ⟨cs1, fp1, rfl, how1, hfr1, hb1⟩
  obtain ⟨A1, c1, rfl⟩ := Ty.ow_slv how1
  have hw1 : Below w.heap.size w w1 := bel_trans (by repeat' (first | (with_reducible exact Below.refl _ _) | (with_reducible assumption) | (with_reducible refine bel_set ?_ (by (try dsimp only); omega) _) | (with_reducible refine bel_alloc ?_ _) | (with_reducible refine bel_drewN ?_ _) | (with_reducible refine bel_drew ?_))) hb1
  have hB1 : Blk w1 w.heap.size 27 #[.slice none 0 0] := (Blk.new w _ _).below hb1 (by rw [World.size_alloc]; omega)
  have k1 : w1.cell? ⟨w.heap.size, 0, none⟩ = some (.slice none 0 0) := hB1.cell 0
  have f1 : w1.frozen? ⟨w.heap.size, 0, none⟩ = false := hB1.frozen 0
  have z1 : w.heap.size < w1.heap.size := hB1.lt
  have hs1 := hb1.size
  simp only [World.size_alloc] at hs1 hfr1
  go_wp2
  refine bodyPost_ret (v := .agg #[.slice A1 (List.length (pnS s).1) c1]) (by simp [results, Try.results138, go_sem, k1, f1, z1]) rfl ?_
  exact ⟨_, fp1, rfl, Ty.ow_keep (by intro b hb'; have hb'' := (hfr1).2 b hb'; (try simp only [World.size_alloc, World.size_setCell, size_drewN, World.size_drew] at hb''); repeat (first | (with_reducible rfl) | (rw [Below.heap_setCell _ _ _ _ (by (try dsimp only); omega)]) | (rw [Below.heap_alloc _ _ _ (by (try simp only [World.size_alloc, World.size_setCell]); omega)]))) how1, hfr1.mono (by (try simp only [World.size_alloc, World.size_setCell, size_drewN, World.size_drew]); omega) (by (try simp only [World.size_alloc, World.size_setCell, size_drewN, World.size_drew]); omega), (by repeat' (first | (with_reducible exact Below.refl _ _) | (with_reducible assumption) | (with_reducible refine bel_set ?_ (by (try dsimp only); omega) _) | (with_reducible refine bel_alloc ?_ _) | (with_reducible refine bel_drewN ?_ _) | (with_reducible refine bel_drew ?_)))⟩
end Go.Proofs.Ytldgbnlcnlfmeaa
