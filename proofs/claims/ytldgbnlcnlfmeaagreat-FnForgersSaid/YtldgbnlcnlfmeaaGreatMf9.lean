/- Texts of this claim, merged by a program: Pss Mat Mtc. -/
import Derived.Test.YtldgbnlcnlfmeaaGreatMf1
import Derived.Test.YtldgbnlcnlfmeaaGreatMf8
import Derived.Test.YtldgbnlcnlfmeaaGreatMf2
import Derived.Test.YtldgbnlcnlfmeaaGreatMf0
/- Patterns and rules read out of texts: the walks of the reference's way. -/
namespace Go.Proofs.YtldgbnlcnlfmeaaGreat
open Go.RowKit
set_option linter.unusedVariables false
set_option linter.unusedSimpArgs false

theorem ppS_one {s : List UInt8} (h : s = [47]) : ppS s = ([], true) := by unfold ppS; rw [if_pos h]
theorem ppS_no {s : List UInt8} (h : ¬ s = [47]) (h2 : (decide (2 ≤ (spl 47 s).length) && decide ((spl 47 s).head? = some []) && validPat (spl 47 s).tail) = false) : ppS s = ([], false) := by unfold ppS; rw [if_neg h, h2]; rfl
theorem ppS_yes {s : List UInt8} (h : ¬ s = [47]) (h2 : (decide (2 ≤ (spl 47 s).length) && decide ((spl 47 s).head? = some []) && validPat (spl 47 s).tail) = true) : ppS s = ((spl 47 s).tail, true) := by unfold ppS; rw [if_neg h, if_pos h2]
set_option maxHeartbeats 2000000 in
theorem C_spec_ParsePattern (w : World) (s : List UInt8) (hs : s.length ≤ 1000000000) :
    Calls Tryz.prog 165 #[vS s] w (RetAgg2 w (.sl .str) (ppS s).1 (.bool (ppS s).2)) := by
  by_cases h1 : s = [47]
  · have HY := Lib.hid (ppS_one h1)
    have q1 : (s == [47]) = true := by simp [h1]
    generalize ppS s = F at HY ⊢
    clear h1
    go_enter Tryz.func165, Tryz.ntmps165
    go_wp2
    refine bodyPost_ret (v := .tuple #[.agg #[.slice none 0 0], .bool true]) (by simp [results, Tryz.results165, go_sem]) rfl ?_
    rw [HY.out]
    exact ⟨[.slice none 0 0], [], rfl, rd_ow_nil _ _, FrI.nil _ _, (by repeat' (first | (with_reducible exact Below.refl _ _) | (with_reducible assumption) | (with_reducible refine bel_set ?_ (by (try dsimp only); omega) _) | (with_reducible refine bel_alloc ?_ _) | (with_reducible refine bel_drewN ?_ _) | (with_reducible refine bel_drew ?_)))⟩
  have HNO := Lib.hid (fun h => ppS_no h1 h)
  have HYES := Lib.hid (fun h => ppS_yes h1 h)
  have q1 : (s == [47]) = false := by simp [h1]
  have hL := spl_pos 47 s
  have hcall : Calls Tryz.prog 153 #[vS s, .int .u8 47] (w.alloc (.cells #[.slice none 0 0] 126)) (RetRow flatS (w.alloc (.cells #[.slice none 0 0] 126)) 9 (spl 47 s)) := C_spec_l4Split _ s 47 hs
  generalize ppS s = F at HNO HYES ⊢
  generalize spl 47 s = L at HNO HYES hL hcall
  go_enter Tryz.func165, Tryz.ntmps165
  go_wp2_with fail
  refine hcall.mono ?_
  rintro e w1 ⟨v1, rfl, hr1, hb1⟩
  obtain ⟨A1, c1, fp1, rfl, how1, hfr1⟩ := hr1.own hb1.size
  have hcl : L.length ≤ c1 := by obtain ⟨A, c, h2, h3, _⟩ := how1; injection h2 with h2 _; injection h2 with _ _ h7; rw [h7]; exact h3
  obtain ⟨b, o, ds, rfl, hl, hcell, hrd⟩ := Ty.rd_at (Ty.ow_rd how1) hL
  obtain ⟨rfl, hsl⟩ := hrd
  have e0 : w1.cell? ⟨b, o, none⟩ = some (vS L[0]) := by simpa [Ty.sz] using hcell 0 (by decide)
  clear hcell hl hcall hr1 h1
  have hw1 : Below w.heap.size w w1 := bel_trans (by repeat' (first | (with_reducible exact Below.refl _ _) | (with_reducible assumption) | (with_reducible refine bel_set ?_ (by (try dsimp only); omega) _) | (with_reducible refine bel_alloc ?_ _) | (with_reducible refine bel_drewN ?_ _) | (with_reducible refine bel_drew ?_))) hb1
  have hB1 : Blk w1 w.heap.size 126 #[.slice none 0 0] := (Blk.new w _ _).below hb1 (by rw [World.size_alloc]; omega)
  have k1 : w1.cell? ⟨w.heap.size, 0, none⟩ = some (.slice none 0 0) := hB1.cell 0
  have f1 : w1.frozen? ⟨w.heap.size, 0, none⟩ = false := hB1.frozen 0
  have z1 : w.heap.size < w1.heap.size := hB1.lt
  have hbl : b < w1.heap.size := World.block_lt_of_cell? _ _ e0
  have hs1 := hb1.size
  simp only [World.size_alloc] at hs1 hfr1
  by_cases h2 : 2 ≤ L.length
  · obtain ⟨fp2, how2, hfr2⟩ := Ty.ow_tail how1 (by omega) hfr1
    have ht : L.drop 1 = L.tail := by simp
    rw [ht] at how2
    have hhead : L.head? = some L[0] := by cases L with | nil => simp at hL | cons a l => rfl
    have q2 : ¬ ((L.length : Int) < 2) := by omega
    have q4 : ¬ c1 = 1 := by omega
    have q5 : decide ((L.length : Int) < 2) = false := by simp; omega
    clear ht
    have how2 : (Ty.sl .str).ow w1 [.slice (some ⟨b, o + 1, none⟩) (L.length - 1) (c1 - 1)] L.tail fp2 := how2
    by_cases h3 : L[0] = []
    · have q3 : L[0].isEmpty = true := by rw [h3]; rfl
      generalize hvv : validPat L.tail = vv at HNO HYES
      have HVV := Lib.hid hvv
      have HC : Hid ((decide (2 ≤ L.length) && decide (L.head? = some []) && vv) = vv) := by unfold Hid; rw [hhead, h3]; simp [h2]
      clear h3 hhead hvv
      go_wp2_with fail
      have hv := C_spec_ValidPattern (w1.alloc (.cells #[.slice (some ⟨b, o + 1, none⟩) (L.length - 1) (c1 - 1)] 126)) _ L.tail (Ty.rd_below (by repeat' (first | (with_reducible exact Below.refl _ _) | (with_reducible assumption) | (with_reducible refine bel_set ?_ (by (try dsimp only); omega) _) | (with_reducible refine bel_alloc ?_ _) | (with_reducible refine bel_drewN ?_ _) | (with_reducible refine bel_drew ?_))) (Ty.ow_rd how2))
      rw [HVV.out] at hv
      refine hv.mono ?_
      rintro e w2 ⟨rfl, hb2⟩
      clear hv
      have hs2 := hb2.size
      simp only [World.size_alloc] at hs2
      have hx2 : Below w1.heap.size w1 w2 := bel_trans (bel_alloc (Below.refl _ _) _) hb2
      have hw2 : Below w.heap.size w w2 := bel_trans hw1 hx2
      have hB2 := hB1.below hx2 z1
      have hP2 : Blk w2 w1.heap.size 126 #[.slice (some ⟨b, o + 1, none⟩) (L.length - 1) (c1 - 1)] := (Blk.new w1 _ _).below hb2 (by rw [World.size_alloc]; omega)
      have k2 : w2.cell? ⟨w.heap.size, 0, none⟩ = some (.slice none 0 0) := hB2.cell 0
      have f2 : w2.frozen? ⟨w.heap.size, 0, none⟩ = false := hB2.frozen 0
      have j2 : w2.cell? ⟨w1.heap.size, 0, none⟩ = some (.slice (some ⟨b, o + 1, none⟩) (L.length - 1) (c1 - 1)) := hP2.cell 0
      have z2 : w.heap.size < w2.heap.size := by omega
      have y2 : w1.heap.size < w2.heap.size := by omega
      clear k1 f1 e0
      cases vv with
      | false =>
        have HN := Lib.hid (HNO.out HC.out)
        go_wp2
        refine bodyPost_ret (v := .tuple #[.agg #[.slice none 0 0], .bool false]) (by simp [results, Tryz.results165, go_sem, k2, f2, z2]) rfl ?_
        rw [HN.out]
        exact ⟨[.slice none 0 0], [], rfl, rd_ow_nil _ _, FrI.nil _ _, (by repeat' (first | (with_reducible exact Below.refl _ _) | (with_reducible assumption) | (with_reducible refine bel_set ?_ (by (try dsimp only); omega) _) | (with_reducible refine bel_alloc ?_ _) | (with_reducible refine bel_drewN ?_ _) | (with_reducible refine bel_drew ?_)))⟩
      | true =>
        have HY := Lib.hid (HYES.out HC.out)
        go_wp2
        refine bodyPost_ret (v := .tuple #[.agg #[.slice (some ⟨b, o + 1, none⟩) (L.length - 1) (c1 - 1)], .bool true]) (by simp [results, Tryz.results165, go_sem, k2, f2, z2]) rfl ?_
        rw [HY.out]
        exact ⟨[.slice (some ⟨b, o + 1, none⟩) (L.length - 1) (c1 - 1)], fp2, rfl, Ty.ow_keep (by intro b hb'; have hb'' := (hfr2).2 b hb'; (try simp only [World.size_alloc, World.size_setCell, size_drewN, World.size_drew] at hb''); repeat (first | (with_reducible rfl) | (rw [Below.heap_setCell _ _ _ _ (by (try dsimp only); omega)]) | (rw [Below.heap_alloc _ _ _ (by (try simp only [World.size_alloc, World.size_setCell]); omega)]) | (rw [hx2.block _ (by (try simp only [World.size_alloc, World.size_setCell, size_drewN, World.size_drew]); omega)]))) how2, hfr2.mono (by (try simp only [World.size_alloc, World.size_setCell, size_drewN, World.size_drew]); omega) (by (try simp only [World.size_alloc, World.size_setCell, size_drewN, World.size_drew]); omega), (by repeat' (first | (with_reducible exact Below.refl _ _) | (with_reducible assumption) | (with_reducible refine bel_set ?_ (by (try dsimp only); omega) _) | (with_reducible refine bel_alloc ?_ _) | (with_reducible refine bel_drewN ?_ _) | (with_reducible refine bel_drew ?_)))⟩
    · have q3 : L[0].isEmpty = false := by cases hq : L[0] with | nil => exact absurd hq h3 | cons a l => rfl
      have HN := Lib.hid (HNO.out (by rw [hhead]; simp [h3]))
      clear h3
      go_wp2
      refine bodyPost_ret (v := .tuple #[.agg #[.slice none 0 0], .bool false]) (by simp [results, Tryz.results165, go_sem, k1, f1, z1]) rfl ?_
      rw [HN.out]
      exact ⟨[.slice none 0 0], [], rfl, rd_ow_nil _ _, FrI.nil _ _, (by repeat' (first | (with_reducible exact Below.refl _ _) | (with_reducible assumption) | (with_reducible refine bel_set ?_ (by (try dsimp only); omega) _) | (with_reducible refine bel_alloc ?_ _) | (with_reducible refine bel_drewN ?_ _) | (with_reducible refine bel_drew ?_)))⟩
  · have HN := Lib.hid (HNO.out (by simp; omega))
    have q2 : ((L.length : Int) < 2) := by omega
    go_wp2
    all_goals refine bodyPost_ret (v := .tuple #[.agg #[.slice none 0 0], .bool false]) (by simp [results, Tryz.results165, go_sem, k1, f1, z1]) rfl ?_
    all_goals rw [HN.out]
    all_goals exact ⟨[.slice none 0 0], [], rfl, rd_ow_nil _ _, FrI.nil _ _, (by repeat' (first | (with_reducible exact Below.refl _ _) | (with_reducible assumption) | (with_reducible refine bel_set ?_ (by (try dsimp only); omega) _) | (with_reducible refine bel_alloc ?_ _) | (with_reducible refine bel_drewN ?_ _) | (with_reducible refine bel_drew ?_)))⟩
theorem prS_no3 {s : List UInt8} (h : ¬ ((spl 32 s).length = 3 ∧ (spl 32 s)[1]? = some [60])) : prS s = (([], []), false) := by unfold prS; rw [if_neg h]
theorem prS_3 {s : List UInt8} {x m y : List UInt8} (h : spl 32 s = [x, m, y]) (hm : m = [60]) : prS s = if (ppS x).2 && (ppS y).2 && validRule (ruleOf (ppS x) (ppS y)) then (ruleOf (ppS x) (ppS y), true) else (([], []), false) := by
  unfold prS; rw [h, if_pos ⟨rfl, by rw [hm]; rfl⟩]; rfl
theorem spl_part_len {s x : List UInt8} (h : x ∈ spl 32 s) : x.length ≤ s.length := by
  have : ∀ (l : List UInt8), ∀ a ∈ spl 32 l, a.length ≤ l.length := by
    intro l
    induction l with
    | nil => intro a ha; simp [spl] at ha; subst ha; exact Nat.le_refl _
    | cons b l ih =>
      intro a ha
      unfold spl at ha
      split at ha
      · rcases List.mem_cons.1 ha with rfl | ha
        · simp
        · have := ih a ha; simp; omega
      · split at ha
        · rename_i x t hx
          rw [hx] at ih
          rcases List.mem_cons.1 ha with rfl | ha
          · have := ih x (by simp); simp; omega
          · have := ih a (by simp [ha]); simp; omega
        · rename_i hx; exact absurd hx (spl_ne _ _)
  exact this s x h
theorem rd_Rule_mk' {w : World} {x : tRule.D} {v0 v1 : Value} (h0 : (Ty.sl .str).rd w [v0] x.1) (h1 : (Ty.sl .str).rd w [v1] x.2) : tRule.rd w [v0, v1] x := ⟨[v0], [v1], rfl, h0, h1⟩
theorem ow_zeroRule (w : World) : tRule.ow w [.slice none 0 0, .slice none 0 0] ([], []) ([] ++ []) := ⟨[.slice none 0 0], [.slice none 0 0], [], [], rfl, rfl, rd_ow_nil _ _, rd_ow_nil _ _⟩
set_option maxHeartbeats 4000000 in
theorem C_spec_ParseRule (w : World) (s : List UInt8) (hs : s.length ≤ 1000000000) :
    Calls Tryz.prog 133 #[vS s] w (RetAgg2 w tRule (prS s).1 (.bool (prS s).2)) := by
  have HNO := Lib.hid (fun h => prS_no3 (s := s) h)
  have HY3 := Lib.hid (fun x m y h hm => prS_3 (s := s) (x := x) (m := m) (y := y) h hm)
  have HPL := Lib.hid (fun x h => spl_part_len (s := s) (x := x) h)
  have hcall : Calls Tryz.prog 153 #[vS s, .int .u8 32] (w.alloc (.cells #[.slice none 0 0, .slice none 0 0] 128)) (RetRow flatS (w.alloc (.cells #[.slice none 0 0, .slice none 0 0] 128)) 9 (spl 32 s)) := C_spec_l4Split _ s 32 hs
  generalize prS s = F at HNO HY3 ⊢
  have hL := spl_pos 32 s
  generalize spl 32 s = L at HNO HY3 HPL hL hcall
  go_enter Tryz.func133, Tryz.ntmps133
  go_wp2_with fail
  refine hcall.mono ?_
  rintro e w1 ⟨v1, rfl, hr1, hb1⟩
  obtain ⟨A1, c1, fp1, rfl, how1, hfr1⟩ := hr1.own hb1.size
  have hw1 : Below w.heap.size w w1 := bel_trans (by repeat' (first | (with_reducible exact Below.refl _ _) | (with_reducible assumption) | (with_reducible refine bel_set ?_ (by (try dsimp only); omega) _) | (with_reducible refine bel_alloc ?_ _) | (with_reducible refine bel_drewN ?_ _) | (with_reducible refine bel_drew ?_))) hb1
  have hB1 : Blk w1 w.heap.size 128 #[.slice none 0 0, .slice none 0 0] := (Blk.new w _ _).below hb1 (by rw [World.size_alloc]; omega)
  have k10 : w1.cell? ⟨w.heap.size, 0, none⟩ = some (.slice none 0 0) := hB1.cell 0
  have k11 : w1.cell? ⟨w.heap.size, 1, none⟩ = some (.slice none 0 0) := hB1.cell 1
  have f10 : w1.frozen? ⟨w.heap.size, 0, none⟩ = false := hB1.frozen 0
  have f11 : w1.frozen? ⟨w.heap.size, 1, none⟩ = false := hB1.frozen 1
  have z1 : w.heap.size < w1.heap.size := hB1.lt
  have hs1 := hb1.size
  simp only [World.size_alloc] at hs1 hfr1
  clear hcall
  by_cases h3 : L.length = 3
  · obtain ⟨x, m, y, rfl⟩ : ∃ x m y, L = [x, m, y] := by
      match L, h3 with
      | [x, m, y], _ => exact ⟨x, m, y, rfl⟩
    obtain ⟨b, o, ds, rfl, hl, hcell, hrd⟩ := Ty.rd_at (Ty.ow_rd how1) (k := 0) (by simp)
    obtain ⟨rfl, hsl⟩ := hrd
    have e0 : w1.cell? ⟨b, o, none⟩ = some (vS x) := by simpa [Ty.sz] using hcell 0 (by decide)
    clear hl hcell hsl
    obtain ⟨b', o', ds, he, hl, hcell, hrd⟩ := Ty.rd_at (Ty.ow_rd how1) (k := 1) (by simp)
    injection he with he; injection he with he1 he2; subst he1; subst he2
    obtain ⟨rfl, hsl⟩ := hrd
    have e1 : w1.cell? ⟨b, o + 1, none⟩ = some (vS m) := by simpa [Ty.sz] using hcell 0 (by decide)
    clear hl hcell hsl
    obtain ⟨b', o', ds, he, hl, hcell, hrd⟩ := Ty.rd_at (Ty.ow_rd how1) (k := 2) (by simp)
    injection he with he; injection he with he1 he2; subst he1; subst he2
    obtain ⟨rfl, hsl⟩ := hrd
    have e2 : w1.cell? ⟨b, o + 2, none⟩ = some (vS y) := by simpa [Ty.sz] using hcell 0 (by decide)
    clear hl hcell hsl
    have hbl : b < w1.heap.size := World.block_lt_of_cell? _ _ e0
    by_cases hm : m = [60]
    · have HF : Hid (F = _) := HY3.out x m y rfl hm
      have hxl : x.length ≤ s.length := HPL.out x (by simp)
      have hyl : y.length ≤ s.length := HPL.out y (by simp)
      have hp1 := fun W => C_spec_ParsePattern W x (by omega)
      have hp2 := fun W => C_spec_ParsePattern W y (by omega)
      have hq1 := ppS_bulk x
      have hq2 := ppS_bulk y
      generalize ppS x = a at hp1 hq1 HF
      generalize ppS y = b2 at hp2 hq2 HF
      have hbk : Ty.bulk tRule (ruleOf a b2) ≤ 1048576 := by show Ty.bulk (.sl .str) a.1 + Ty.bulk (.sl .str) b2.1 ≤ _; omega
      have qm : (m == [60]) = true := by simp [hm]
      clear hm HNO HY3 HPL h3
      have HFN := Lib.hid (fun (h : (a.2 && b2.2 && validRule (ruleOf a b2)) = false) => show F = (([], []), false) from by have := HF.out; rw [h] at this; exact this)
      have HFY := Lib.hid (fun (h : (a.2 && b2.2 && validRule (ruleOf a b2)) = true) => show F = (ruleOf a b2, true) from by have := HF.out; rw [if_pos h] at this; exact this)
      clear HF hr1 hL
      go_wp2_with fail
      refine (hp1 _).mono ?_
      rintro e w2 ⟨cs2, fp2, rfl, how2, hfr2, hb2⟩
      obtain ⟨A2, c2, rfl⟩ := Ty.ow_slv how2
      have hs2 := hb2.size
      have hw2 : Below w.heap.size w w2 := bel_trans hw1 hb2
      have hB2 := hB1.below hb2 z1
      have g1 : w2.cell? ⟨b, o + 1, none⟩ = some (vS m) := (hb2.cell (p := ⟨b, o + 1, none⟩) hbl).trans e1
      have g2 : w2.cell? ⟨b, o + 2, none⟩ = some (vS y) := (hb2.cell (p := ⟨b, o + 2, none⟩) hbl).trans e2
      have hbl2 : b < w2.heap.size := by omega
      have z2 : w.heap.size < w2.heap.size := by omega
      clear e0 e1 e2 k10 k11 f10 f11
      go_wp2_with fail
      refine (hp2 _).mono ?_
      rintro e w3 ⟨cs3, fp3, rfl, how3, hfr3, hb3⟩
      obtain ⟨A3, c3, rfl⟩ := Ty.ow_slv how3
      have hs3 := hb3.size
      simp only [World.size_alloc] at hs3 hfr3
      have hx3 : Below w2.heap.size w2 w3 := bel_trans (bel_alloc (Below.refl _ _) _) hb3
      have hw3 : Below w.heap.size w w3 := bel_trans hw2 hx3
      have hB3 := hB2.below hx3 z2
      have hP3 : Blk w3 w2.heap.size 126 #[.slice A2 a.1.length c2] := (Blk.new w2 _ _).below hb3 (by rw [World.size_alloc]; omega)
      have k30 : w3.cell? ⟨w.heap.size, 0, none⟩ = some (.slice none 0 0) := hB3.cell 0
      have k31 : w3.cell? ⟨w.heap.size, 1, none⟩ = some (.slice none 0 0) := hB3.cell 1
      have f30 : w3.frozen? ⟨w.heap.size, 0, none⟩ = false := hB3.frozen 0
      have f31 : w3.frozen? ⟨w.heap.size, 1, none⟩ = false := hB3.frozen 1
      have j3 : w3.cell? ⟨w2.heap.size, 0, none⟩ = some (.slice A2 a.1.length c2) := hP3.cell 0
      have z3 : w.heap.size < w3.heap.size := by omega
      have y3 : w2.heap.size < w3.heap.size := by omega
      have how2' : (Ty.sl .str).ow w3 [.slice A2 a.1.length c2] a.1 fp2 := Ty.ow_keep (by intro b hb'; have hb'' := (hfr2).2 b hb'; (try simp only [World.size_alloc, World.size_setCell, size_drewN, World.size_drew] at hb''); repeat (first | (with_reducible rfl) | (rw [Below.heap_setCell _ _ _ _ (by (try dsimp only); omega)]) | (rw [Below.heap_alloc _ _ _ (by (try simp only [World.size_alloc, World.size_setCell]); omega)]) | (rw [hx3.block _ (by (try simp only [World.size_alloc, World.size_setCell, size_drewN, World.size_drew]); omega)]))) how2
      clear hp1 hp2 g1 g2
      cases qa : a.2 with
      | false =>
        have HN := Lib.hid (HFN.out (by rw [qa]; rfl))
        go_wp2
        refine bodyPost_ret (v := .tuple #[.agg #[.slice none 0 0, .slice none 0 0], .bool false]) (by simp [results, Tryz.results133, go_sem, k30, k31, f30, f31, z3]) rfl ?_
        rw [HN.out]
        exact ⟨_, _, rfl, ow_zeroRule _, FrI.nil _ _, (by repeat' (first | (with_reducible exact Below.refl _ _) | (with_reducible assumption) | (with_reducible refine bel_set ?_ (by (try dsimp only); omega) _) | (with_reducible refine bel_alloc ?_ _) | (with_reducible refine bel_drewN ?_ _) | (with_reducible refine bel_drew ?_)))⟩
      | true =>
        cases qb : b2.2 with
        | false =>
          have HN := Lib.hid (HFN.out (by rw [qa, qb]; rfl))
          go_wp2
          refine bodyPost_ret (v := .tuple #[.agg #[.slice none 0 0, .slice none 0 0], .bool false]) (by simp [results, Tryz.results133, go_sem, k30, k31, f30, f31, z3]) rfl ?_
          rw [HN.out]
          exact ⟨_, _, rfl, ow_zeroRule _, FrI.nil _ _, (by repeat' (first | (with_reducible exact Below.refl _ _) | (with_reducible assumption) | (with_reducible refine bel_set ?_ (by (try dsimp only); omega) _) | (with_reducible refine bel_alloc ?_ _) | (with_reducible refine bel_drewN ?_ _) | (with_reducible refine bel_drew ?_)))⟩
        | true =>
          go_wp2_with fail
          refine (C_spec_ValidRule _ _ (ruleOf a b2) (rd_Rule_mk' (Ty.rd_below (by repeat' (first | (with_reducible exact Below.refl _ _) | (with_reducible assumption) | (with_reducible refine bel_set ?_ (by (try dsimp only); omega) _) | (with_reducible refine bel_alloc ?_ _) | (with_reducible refine bel_drewN ?_ _) | (with_reducible refine bel_drew ?_))) (Ty.ow_rd how2')) (Ty.rd_below (by repeat' (first | (with_reducible exact Below.refl _ _) | (with_reducible assumption) | (with_reducible refine bel_set ?_ (by (try dsimp only); omega) _) | (with_reducible refine bel_alloc ?_ _) | (with_reducible refine bel_drewN ?_ _) | (with_reducible refine bel_drew ?_))) (Ty.ow_rd how3))) hbk).mono ?_
          rintro e w4 ⟨rfl, hb4⟩
          have hs4 := hb4.size
          simp only [World.size_alloc] at hs4
          have hx4 : Below w3.heap.size w3 w4 := bel_trans (bel_alloc (bel_alloc (Below.refl _ _) _) _) hb4
          have hw4 : Below w.heap.size w w4 := bel_trans hw3 hx4
          have hB4 := hB3.below hx4 z3
          have hR4 : Blk w4 (w3.heap.size + 1) 128 #[.slice A2 a.1.length c2, .slice A3 b2.1.length c3] := by
            have := (Blk.new (w3.alloc (.cells #[.slice A3 b2.1.length c3] 126)) 128 #[.slice A2 a.1.length c2, .slice A3 b2.1.length c3]).below hb4 (by simp only [World.size_alloc]; omega)
            rwa [World.size_alloc] at this
          have k40 : w4.cell? ⟨w.heap.size, 0, none⟩ = some (.slice none 0 0) := hB4.cell 0
          have k41 : w4.cell? ⟨w.heap.size, 1, none⟩ = some (.slice none 0 0) := hB4.cell 1
          have f40 : w4.frozen? ⟨w.heap.size, 0, none⟩ = false := hB4.frozen 0
          have f41 : w4.frozen? ⟨w.heap.size, 1, none⟩ = false := hB4.frozen 1
          have r40 : w4.cell? ⟨w3.heap.size + 1, 0, none⟩ = some (.slice A2 a.1.length c2) := hR4.cell 0
          have r41 : w4.cell? ⟨w3.heap.size + 1, 1, none⟩ = some (.slice A3 b2.1.length c3) := hR4.cell 1
          have z4 : w.heap.size < w4.heap.size := by omega
          have y4 : w3.heap.size + 1 < w4.heap.size := by omega
          clear k30 k31 f30 f31 j3
          cases qv : validRule (ruleOf a b2) with
          | false =>
            have HN := Lib.hid (HFN.out (by rw [qa, qb, qv]; rfl))
            go_wp2
            refine bodyPost_ret (v := .tuple #[.agg #[.slice none 0 0, .slice none 0 0], .bool false]) (by simp [results, Tryz.results133, go_sem, k40, k41, f40, f41, z4]) rfl ?_
            rw [HN.out]
            exact ⟨_, _, rfl, ow_zeroRule _, FrI.nil _ _, (by repeat' (first | (with_reducible exact Below.refl _ _) | (with_reducible assumption) | (with_reducible refine bel_set ?_ (by (try dsimp only); omega) _) | (with_reducible refine bel_alloc ?_ _) | (with_reducible refine bel_drewN ?_ _) | (with_reducible refine bel_drew ?_)))⟩
          | true =>
            have HY := Lib.hid (HFY.out (by rw [qa, qb, qv]; rfl))
            clear qv
            go_wp2
            refine bodyPost_ret (v := .tuple #[.agg #[.slice A2 a.1.length c2, .slice A3 b2.1.length c3], .bool true]) (by simp [results, Tryz.results133, go_sem, k40, k41, f40, f41, z4]) rfl ?_
            rw [HY.out]
            exact ⟨[.slice A2 a.1.length c2, .slice A3 b2.1.length c3], fp2 ++ fp3, rfl, ⟨[.slice A2 a.1.length c2], [.slice A3 b2.1.length c3], fp2, fp3, rfl, rfl, Ty.ow_keep (by intro b hb'; have hb'' := (hfr2).2 b hb'; (try simp only [World.size_alloc, World.size_setCell, size_drewN, World.size_drew] at hb''); repeat (first | (with_reducible rfl) | (rw [Below.heap_setCell _ _ _ _ (by (try dsimp only); omega)]) | (rw [Below.heap_alloc _ _ _ (by (try simp only [World.size_alloc, World.size_setCell]); omega)]) | (rw [hx4.block _ (by (try simp only [World.size_alloc, World.size_setCell, size_drewN, World.size_drew]); omega)]) | (rw [hx3.block _ (by (try simp only [World.size_alloc, World.size_setCell, size_drewN, World.size_drew]); omega)]))) how2', Ty.ow_keep (by intro b hb'; have hb'' := (hfr3).2 b hb'; (try simp only [World.size_alloc, World.size_setCell, size_drewN, World.size_drew] at hb''); repeat (first | (with_reducible rfl) | (rw [Below.heap_setCell _ _ _ _ (by (try dsimp only); omega)]) | (rw [Below.heap_alloc _ _ _ (by (try simp only [World.size_alloc, World.size_setCell]); omega)]) | (rw [hx4.block _ (by (try simp only [World.size_alloc, World.size_setCell, size_drewN, World.size_drew]); omega)]))) how3⟩, FrI.app (hfr2.mono (by (try simp only [World.size_alloc, World.size_setCell, size_drewN, World.size_drew]); omega) (Nat.le_refl _)) (hfr3.mono (Nat.le_refl _) (by (try simp only [World.size_alloc, World.size_setCell, size_drewN, World.size_drew]); omega)) (by (try simp only [World.size_alloc, World.size_setCell, size_drewN, World.size_drew]); omega) (by (try simp only [World.size_alloc, World.size_setCell, size_drewN, World.size_drew]); omega) (by (try simp only [World.size_alloc, World.size_setCell, size_drewN, World.size_drew]); omega), (by repeat' (first | (with_reducible exact Below.refl _ _) | (with_reducible assumption) | (with_reducible refine bel_set ?_ (by (try dsimp only); omega) _) | (with_reducible refine bel_alloc ?_ _) | (with_reducible refine bel_drewN ?_ _) | (with_reducible refine bel_drew ?_)))⟩
    · have HN := Lib.hid (HNO.out (by rintro ⟨_, h⟩; simp at h; exact hm h))
      have qm : (m == [60]) = false := by simp [hm]
      clear hm
      go_wp2
      refine bodyPost_ret (v := .tuple #[.agg #[.slice none 0 0, .slice none 0 0], .bool false]) (by simp [results, Tryz.results133, go_sem, k10, k11, f10, f11, z1]) rfl ?_
      rw [HN.out]
      exact ⟨_, _, rfl, ow_zeroRule _, FrI.nil _ _, (by repeat' (first | (with_reducible exact Below.refl _ _) | (with_reducible assumption) | (with_reducible refine bel_set ?_ (by (try dsimp only); omega) _) | (with_reducible refine bel_alloc ?_ _) | (with_reducible refine bel_drewN ?_ _) | (with_reducible refine bel_drew ?_)))⟩
  · have HN := Lib.hid (HNO.out (fun h => h3 h.1))
    have q3 : ¬ ((L.length : Int) = 3) := by omega
    go_wp2
    refine bodyPost_ret (v := .tuple #[.agg #[.slice none 0 0, .slice none 0 0], .bool false]) (by simp [results, Tryz.results133, go_sem, k10, k11, f10, f11, z1]) rfl ?_
    rw [HN.out]
    exact ⟨_, _, rfl, ow_zeroRule _, FrI.nil _ _, (by repeat' (first | (with_reducible exact Below.refl _ _) | (with_reducible assumption) | (with_reducible refine bel_set ?_ (by (try dsimp only); omega) _) | (with_reducible refine bel_alloc ?_ _) | (with_reducible refine bel_drewN ?_ _) | (with_reducible refine bel_drew ?_)))⟩
end Go.Proofs.YtldgbnlcnlfmeaaGreat

/- Patterns are matched: spec.Match, impl.Match. -/
namespace Go.Proofs.YtldgbnlcnlfmeaaGreat
open Go.RowKit
set_option linter.unusedVariables false
set_option linter.unusedSimpArgs false

def letterIs (s : List UInt8) (b : Ty.D tBinding) : Bool := decide (b.1 = s)
/-- One part of the pattern against one part of the name. -/
def mStep (b : List (Ty.D tBinding)) (s v : List UInt8) : Option (List (Ty.D tBinding)) :=
  if s = [42] then some b else if isVar s = true then (match b.find? (letterIs s) with | none => some (b ++ [(s, v)]) | some kv => if kv.2 = v then some b else none) else if s = v then some b else none
def mGo : List (List UInt8) → List (List UInt8) → List (Ty.D tBinding) → Option (List (Ty.D tBinding))
  | [], ns, b => if ns = [] then some b else none
  | s :: ps, ns, b => if s = [42, 42] then some b else match ns with | [] => none | v :: vs => match mStep b s v with | none => none | some b' => mGo ps vs b'
theorem mGo_cons (s : List UInt8) (ps ns : List (List UInt8)) (b : List (Ty.D tBinding)) : mGo (s :: ps) ns b = if s = [42, 42] then some b else match ns with | [] => none | v :: vs => match mStep b s v with | none => none | some b' => mGo ps vs b' := by cases ns <;> rfl
theorem mGo_nil (ns : List (List UInt8)) (b : List (Ty.D tBinding)) : mGo [] ns b = if ns = [] then some b else none := rfl
def f_Match (p n : List (List UInt8)) (l : List (Ty.D tBinding)) : List (Ty.D tBinding) × Bool :=
  if (validPat p && validName n) = true then (match mGo p n l with | some b => (b, true) | none => (l, false)) else (l, false)
theorem mGo_star {p n : List (List UInt8)} {acc : List (Ty.D tBinding)} {k : Nat} (h : k < p.length) (hs : p[k] = [42, 42]) : mGo (p.drop k) (n.drop k) acc = some acc := by
  rw [List.drop_eq_getElem_cons h, mGo_cons, if_pos hs]
theorem mGo_short {p n : List (List UInt8)} {acc : List (Ty.D tBinding)} {k : Nat} (h : k < p.length) (hs : ¬ p[k] = [42, 42]) (hn : n.length ≤ k) : mGo (p.drop k) (n.drop k) acc = none := by
  rw [List.drop_eq_getElem_cons h, mGo_cons, if_neg hs, List.drop_eq_nil_of_le hn]
theorem mGo_none {p n : List (List UInt8)} {acc : List (Ty.D tBinding)} {k : Nat} (h : k < p.length) (hs : ¬ p[k] = [42, 42]) (hn : k < n.length) (hm : mStep acc p[k] n[k] = none) : mGo (p.drop k) (n.drop k) acc = none := by
  rw [List.drop_eq_getElem_cons h, mGo_cons, if_neg hs, List.drop_eq_getElem_cons hn]; simp only [hm]
theorem mGo_step {p n : List (List UInt8)} {acc b : List (Ty.D tBinding)} {k : Nat} (h : k < p.length) (hs : ¬ p[k] = [42, 42]) (hn : k < n.length) (hm : mStep acc p[k] n[k] = some b) : mGo (p.drop k) (n.drop k) acc = mGo (p.drop (k + 1)) (n.drop (k + 1)) b := by
  rw [List.drop_eq_getElem_cons h, mGo_cons, if_neg hs, List.drop_eq_getElem_cons hn]; simp only [hm]
theorem mGo_end {p n : List (List UInt8)} {acc : List (Ty.D tBinding)} {k : Nat} (h : k = p.length) (hn : n.length = p.length) : mGo (p.drop k) (n.drop k) acc = some acc := by
  rw [List.drop_eq_nil_of_le (by omega), List.drop_eq_nil_of_le (by omega), mGo_nil, if_pos rfl]
theorem mGo_more {p n : List (List UInt8)} {acc : List (Ty.D tBinding)} {k : Nat} (h : k = p.length) (hn : p.length < n.length) : mGo (p.drop k) (n.drop k) acc = none := by
  rw [List.drop_eq_nil_of_le (by omega), mGo_nil, if_neg]
  intro h0
  have := congrArg List.length h0
  rw [List.length_drop] at this; simp at this; omega
theorem mStep_any {b : List (Ty.D tBinding)} {s v : List UInt8} (h : s = [42]) : mStep b s v = some b := by unfold mStep; rw [if_pos h]
theorem mStep_new {b : List (Ty.D tBinding)} {s v : List UInt8} (h : ¬ s = [42]) (hv : isVar s = true) (hf : b.find? (letterIs s) = none) : mStep b s v = some (b ++ [(s, v)]) := by
  unfold mStep; rw [if_neg h, if_pos hv, hf]
theorem mStep_eq {b : List (Ty.D tBinding)} {s v : List UInt8} {kv : Ty.D tBinding} (h : ¬ s = [42]) (hv : isVar s = true) (hf : b.find? (letterIs s) = some kv) (he : kv.2 = v) : mStep b s v = some b := by
  unfold mStep; rw [if_neg h, if_pos hv, hf]; exact if_pos he
theorem mStep_ne {b : List (Ty.D tBinding)} {s v : List UInt8} {kv : Ty.D tBinding} (h : ¬ s = [42]) (hv : isVar s = true) (hf : b.find? (letterIs s) = some kv) (he : ¬ kv.2 = v) : mStep b s v = none := by
  unfold mStep; rw [if_neg h, if_pos hv, hf]; exact if_neg he
theorem mStep_lit {b : List (Ty.D tBinding)} {s v : List UInt8} (h : ¬ s = [42]) (hv : isVar s = false) (he : s = v) : mStep b s v = some b := by
  unfold mStep; rw [if_neg h, if_neg (by rw [hv]; simp), if_pos he]
theorem mStep_bad {b : List (Ty.D tBinding)} {s v : List UInt8} (h : ¬ s = [42]) (hv : isVar s = false) (he : ¬ s = v) : mStep b s v = none := by
  unfold mStep; rw [if_neg h, if_neg (by rw [hv]; simp), if_neg he]
theorem mStep_len {b b' : List (Ty.D tBinding)} {s v : List UInt8} (h : mStep b s v = some b') : b'.length ≤ b.length + 1 := by
  unfold mStep at h
  split at h
  · injection h with h; subst h; omega
  · split at h
    · split at h
      · injection h with h; subst h; simp
      · split at h
        · injection h with h; subst h; omega
        · cases h
    · split at h
      · injection h with h; subst h; omega
      · cases h
theorem mGo_len : ∀ {p n : List (List UInt8)} {b b' : List (Ty.D tBinding)}, mGo p n b = some b' → b'.length ≤ b.length + p.length
  | [], n, b, b', h => by
    rw [mGo_nil] at h
    split at h
    · injection h with h; subst h; simp
    · cases h
  | s :: ps, n, b, b', h => by
    rw [mGo_cons] at h
    split at h
    · injection h with h; subst h; simp
    · cases n with
      | nil => cases h
      | cons v vs =>
        simp only at h
        cases hm : mStep b s v with
        | none => rw [hm] at h; cases h
        | some b2 =>
          rw [hm] at h
          have h1 := mStep_len hm
          have h2 := mGo_len h
          rw [List.length_cons]; omega
theorem validPat_len {p : List (List UInt8)} (h : validPat p = true) : p.length ≤ 6 := by
  unfold validPat at h; rw [Bool.and_eq_true] at h; simpa using h.2
theorem match_len (p n : List (List UInt8)) (l : List (Ty.D tBinding)) : (f_Match p n l).1.length ≤ l.length + 6 := by
  unfold f_Match
  split
  · rename_i h
    rw [Bool.and_eq_true] at h
    have := validPat_len h.1
    split
    · rename_i b hb
      have := mGo_len hb
      show b.length ≤ _; omega
    · show l.length ≤ _; omega
  · show l.length ≤ _; omega
/-- What a match hands back: bindings that read, and whether it fits. -/
def RetBs (w : World) (r : List (Ty.D tBinding) × Bool) (e : Ending) (w' : World) : Prop := ∃ v, e = .returned (.tuple #[v, .bool r.2]) ∧ (Ty.sl tBinding).rd w' [v] r.1 ∧ Below w.heap.size w w'
theorem RetBs.mk {w w' : World} {r : List (Ty.D tBinding) × Bool} {v : Value} {l : List (Ty.D tBinding)} {b : Bool} (hr : r = (l, b)) (h : (Ty.sl tBinding).rd w' [v] l) (hb : Below w.heap.size w w') : RetBs w r (.returned (.tuple #[v, .bool b])) w' := by
  subst hr; exact ⟨v, rfl, h, hb⟩
theorem f_Match_no {p n : List (List UInt8)} (l : List (Ty.D tBinding)) (h : (validPat p && validName n) = false) : f_Match p n l = (l, false) := by unfold f_Match; rw [h]; rfl
theorem f_Match_go {p n : List (List UInt8)} (l : List (Ty.D tBinding)) (h1 : validPat p = true) (h2 : validName n = true) : f_Match p n l = match mGo p n l with | some b => (b, true) | none => (l, false) := by unfold f_Match; rw [h1, h2]; rfl
theorem info_Binding : (Tryz.prog.info? 174).map (fun i => (i.zero, i.size, i.bytes)) = some (some (.agg #[vS [], vS []]), 2, 32) := by kernel_rfl
theorem ow_Binding {w : World} {x : Ty.D tBinding} (h1 : x.1.length ≤ 9223372036854775807) (h2 : x.2.length ≤ 9223372036854775807) : Ty.ow w tBinding [vS x.1, vS x.2] x [] := Ty.rd_ow_flat rfl (rd_Binding_mk h1 h2)
set_option maxHeartbeats 1000000 in
theorem C_Clone_Binding (w : World) (v : Value) (x : List (Ty.D tBinding)) (h : (Ty.sl tBinding).rd w [v] x) (hx : x.length ≤ 1099511627776) : Calls Tryz.prog 176 #[v] w (RetDRow tBinding w 174 x) := by
  obtain ⟨A, c, rfl, hc, hm, hn⟩ := Ty.rd_sl h
  cases A with
  | none =>
    obtain ⟨rfl, rfl⟩ := Ty.rd_nil h
    show Calls Tryz.prog 176 #[.slice none 0 0] w _
    clear h hx hc hm hn
    have q22 : ∀ (w : World) (a : Option Addr) (n c n' c' : Nat), (binOp .eql 153 (.slice a n c) (.slice none n' c')).run Tryz.prog w = .ok (.bool a.isNone) w := fun w a n c n' c' => Lib.run_eql_slice_nil w _ _ a n c n' c' Tryz.underlying153
    go_enter Tryz.func176, Tryz.ntmps176
    go_wp2
    go_ret
    exact ⟨_, rfl, DRow.nil _ _ _ _, Below.refl _ _⟩
  | some a =>
    have q22 : ∀ (w : World) (a : Option Addr) (n c n' c' : Nat), (binOp .eql 153 (.slice a n c) (.slice none n' c')).run Tryz.prog w = .ok (.bool a.isNone) w := fun w a n c n' c' => Lib.run_eql_slice_nil w _ _ a n c n' c' Tryz.underlying153
    go_enter Tryz.func176, Tryz.ntmps176
    set_option maxRecDepth 100000 in go_wp2_with (at_builtin; go_loud (refine wpList_append_drow rfl _ _ 153 rfl (w.alloc (.cells #[] 174)) w.heap.size 174 info_Binding rfl Tryz.underlying153 _ _ [] x rfl rfl (DRow.lit0 tBinding w 174 (Nat.le_refl _)) (Below.refl _ _) (Src.flat rfl (Ty.rd_below (by repeat' (first | (with_reducible exact Below.refl _ _) | (with_reducible assumption) | (with_reducible refine bel_set ?_ (by (try dsimp only); omega) _) | (with_reducible refine bel_alloc ?_ _) | (with_reducible refine bel_drewN ?_ _) | (with_reducible refine bel_drew ?_))) h) _) ?_ ?_ ?_ ?_))
    case refine_1 => simp only [List.length_nil]; omega
    case refine_2 => simp only [List.length_nil]; unfold maxLen; omega
    case refine_3 => simp only [World.size_alloc]; omega
    case refine_4 =>
      intro v' w' hr' hg'
      have hb' : Below w.heap.size w w' := bel_grown (by repeat' (first | (with_reducible exact Below.refl _ _) | (with_reducible assumption) | (with_reducible refine bel_set ?_ (by (try dsimp only); omega) _) | (with_reducible refine bel_alloc ?_ _) | (with_reducible refine bel_drewN ?_ _) | (with_reducible refine bel_drew ?_))) (by (try simp only [World.size_alloc, World.size_setCell, size_drewN, World.size_drew]); omega) hg' (fun g hg => by simp [Value.ownBlock] at hg; omega)
      have HR' := Lib.hid hr'
      clear hr'
      go_wp2
      go_ret
      exact ⟨_, rfl, HR'.out, hb'⟩
set_option maxHeartbeats 1000000 in
theorem C_spec_l5Find (w : World) (v : Value) (l : List (Ty.D tBinding)) (s : List UInt8) (h : (Ty.sl tBinding).rd w [v] l) (hs : s.length ≤ 9223372036854775807) :
    Calls Tryz.prog 184 #[v, vS s] w (RetIP w (ixf (letterIs s) l)) := by
  obtain ⟨A, c, rfl, _, _, n0⟩ := Ty.rd_sl h
  go_enter Tryz.func184, Tryz.ntmps184
  go_wp2
  go_loopw [5] (fun i wr => ∃ k : Nat, k ≤ l.length ∧ i = .int .i64 k ∧ (l.take k).any (letterIs s) = false ∧ wr = w) (fun i _ => l.length - (intOf i).toNat)
  case atStart => exact ⟨0, by omega, rfl, by first | rfl | simp, rfl⟩
  case round =>
    obtain ⟨k, hk, rfl, ht, rfl⟩ := hrel
    have HT := Lib.hid ht
    clear ht
    by_cases hlt : k < l.length
    · have HS := Lib.hid (any_take_succ (letterIs s) l hlt)
      obtain ⟨b, o, ds, rfl, hl, hcell, hrd⟩ := Ty.rd_at h hlt
      obtain ⟨rfl, q1, q2⟩ := rd_Binding hrd
      have e0 : wr.cell? ⟨b, o + k * 2, none⟩ = some (vS l[k].1) := by simpa [Ty.sz] using hcell 0 (by decide)
      clear hcell hl
      by_cases hq : l[k].1 = s
      · have HQ := Lib.hid (ixf_hit (letterIs s) l hlt HT.out (by simp [letterIs, hq]))
        have hq2 : (l[k].1 == s) = true := by simp [hq]
        go_wp2
        go_ret
        exact ⟨ret_int HQ.out.symm, rfl⟩
      · have HQ : Hid (letterIs s l[k] = false) := by show _ = _; simp [letterIs, hq]
        have hq2 : (l[k].1 == s) = false := by simp [hq]
        go_wp2
        exact ⟨⟨k + 1, by omega, by go_num, by rw [HS.out, HT.out, HQ.out]; rfl, by first | rfl | trivial⟩, by simp [intOf]; omega⟩
    · have HE : Hid (l.any (letterIs s) = false) := by have := HT.out; rwa [List.take_of_length_le (by omega)] at this
      go_wp2
      go_ret
      exact ⟨ret_int (ixf_miss (letterIs s) l HE.out).symm, rfl⟩
set_option maxHeartbeats 1000000 in
theorem C_impl_Match1 (W : World) (ds : List Value) (d : Ty.D tBinding) (s : List UInt8) (b : Nat) (h1 : tBinding.rd W ds d) (hcell : W.cell? ⟨b, 0, none⟩ = some (vS s)) :
    Calls Tryz.prog 178 #[.agg ds.toArray, .pointer (some ⟨b, 0, none⟩)] W (RetB W (letterIs s d)) := by
  obtain ⟨rfl, q1, q2⟩ := rd_Binding h1
  have hlt : b < W.heap.size := World.block_lt_of_cell? W _ hcell
  by_cases hq : d.1 = s
  · have HQ : Hid (letterIs s d = true) := by show _ = _; simp [letterIs, hq]
    have hq2 : (d.1 == s) = true := by simp [hq]
    go_enter Tryz.func178, Tryz.ntmps178
    go_wp2
    go_ret
    exact ⟨ret_bool HQ.out.symm, (by repeat' (first | (with_reducible exact Below.refl _ _) | (with_reducible assumption) | (with_reducible refine bel_set ?_ (by (try dsimp only); omega) _) | (with_reducible refine bel_alloc ?_ _) | (with_reducible refine bel_drewN ?_ _) | (with_reducible refine bel_drew ?_)))⟩
  · have HQ : Hid (letterIs s d = false) := by show _ = _; simp [letterIs, hq]
    have hq2 : (d.1 == s) = false := by simp [hq]
    go_enter Tryz.func178, Tryz.ntmps178
    go_wp2
    go_ret
    exact ⟨ret_bool HQ.out.symm, (by repeat' (first | (with_reducible exact Below.refl _ _) | (with_reducible assumption) | (with_reducible refine bel_set ?_ (by (try dsimp only); omega) _) | (with_reducible refine bel_alloc ?_ _) | (with_reducible refine bel_drewN ?_ _) | (with_reducible refine bel_drew ?_)))⟩
end Go.Proofs.YtldgbnlcnlfmeaaGreat

/- Patterns are matched: spec.Match, impl.Match. Printed by gen14.py. -/
namespace Go.Proofs.YtldgbnlcnlfmeaaGreat
open Go.RowKit
set_option linter.unusedVariables false
set_option linter.unusedSimpArgs false

set_option maxRecDepth 100000 in
set_option maxHeartbeats 8000000 in
theorem C_spec_Match (w : World) (cs1 : List Value) (p : List (List UInt8)) (cs2 : List Value) (n : List (List UInt8)) (v3 : Value) (l : List (Ty.D tBinding)) (h1 : (Ty.sl .str).rd w cs1 p) (h2 : (Ty.sl .str).rd w cs2 n) (h3 : (Ty.sl tBinding).rd w [v3] l) (hll : l.length ≤ 1000000) :
    Calls Tryz.prog 172 #[.agg cs1.toArray, .agg cs2.toArray, v3] w (RetBs w (f_Match p n l)) := by
  obtain ⟨A1, c1, rfl⟩ := Ty.rd_slv h1
  obtain ⟨A2, c2, rfl⟩ := Ty.rd_slv h2
  obtain ⟨A3, c3, rfl, _, _, _⟩ := Ty.rd_sl h3
  obtain ⟨_, _, _, _, _, m1⟩ := Ty.rd_sl h1
  obtain ⟨_, _, _, _, _, m2⟩ := Ty.rd_sl h2
  have kb1 : ((w.alloc (.cells #[.slice A1 p.length c1] 126)).alloc (.cells #[.slice A2 n.length c2] 32)).cell? ⟨w.heap.size, 0, none⟩ = some (.slice A1 p.length c1) := (World.cell?_alloc_lt _ _ _ (by simp only [World.size_alloc]; omega)).trans (cell_new w _ _ 0 rfl)
  have kb2 : ((w.alloc (.cells #[.slice A1 p.length c1] 126)).alloc (.cells #[.slice A2 n.length c2] 32)).cell? ⟨w.heap.size + 1, 0, none⟩ = some (.slice A2 n.length c2) := cell_new _ _ _ 0 (by simp only [World.size_alloc])
  have hvb : Below w.heap.size w ((w.alloc (.cells #[.slice A1 p.length c1] 126)).alloc (.cells #[.slice A2 n.length c2] 32)) := (by repeat' (first | (with_reducible exact Below.refl _ _) | (with_reducible assumption) | (with_reducible refine bel_set ?_ (by (try dsimp only); omega) _) | (with_reducible refine bel_alloc ?_ _) | (with_reducible refine bel_drewN ?_ _) | (with_reducible refine bel_drew ?_)))
  have zb : ((w.alloc (.cells #[.slice A1 p.length c1] 126)).alloc (.cells #[.slice A2 n.length c2] 32)).heap.size = w.heap.size + 1 + 1 := by simp only [World.size_alloc]
  have hl0 : DRow tBinding (((w.alloc (.cells #[.slice A1 p.length c1] 126)).alloc (.cells #[.slice A2 n.length c2] 32)).alloc (.cells #[] 174)) (w.heap.size + 1 + 1) 174 (.slice (some ⟨w.heap.size + 1 + 1, 0, none⟩) 0 0) [] := by
    have := DRow.lit0 tBinding ((w.alloc (.cells #[.slice A1 p.length c1] 126)).alloc (.cells #[.slice A2 n.length c2] 32)) 174 (base := w.heap.size + 1 + 1) (by simp only [World.size_alloc]; omega)
    simp only [World.size_alloc] at this
    exact this
  have HL0 := Lib.hid hl0
  clear hl0
  have HKB := Lib.hid (And.intro kb1 (And.intro kb2 zb))
  clear kb1 kb2 zb
  go_enter Tryz.func172, Tryz.ntmps172
  set_option maxRecDepth 100000 in go_wp2_with (at_builtin; go_loud (refine wpList_append_drow rfl _ _ 153 rfl (((w.alloc (.cells #[.slice A1 p.length c1] 126)).alloc (.cells #[.slice A2 n.length c2] 32)).alloc (.cells #[] 174)) (w.heap.size + 1 + 1) 174 info_Binding rfl Tryz.underlying153 _ _ [] l rfl rfl HL0.out (Below.refl _ _) (Src.flat rfl (Ty.rd_below (by repeat' (first | (with_reducible exact Below.refl _ _) | (with_reducible assumption) | (with_reducible refine bel_set ?_ (by (try dsimp only); omega) _) | (with_reducible refine bel_alloc ?_ _) | (with_reducible refine bel_drewN ?_ _) | (with_reducible refine bel_drew ?_))) h3) _) ?_ ?_ ?_ ?_))
  case refine_1 => simp only [List.length_nil]; omega
  case refine_2 => simp only [List.length_nil]; unfold maxLen; omega
  case refine_3 => simp only [World.size_alloc]; omega
  intro v1 w1 hr1 hg1
  have hb1 : Below ((w.alloc (.cells #[.slice A1 p.length c1] 126)).alloc (.cells #[.slice A2 n.length c2] 32)).heap.size ((w.alloc (.cells #[.slice A1 p.length c1] 126)).alloc (.cells #[.slice A2 n.length c2] 32)) w1 := bel_grown (bel_alloc (Below.refl _ _) _) (by simp only [World.size_alloc]; omega) hg1 (fun g hg => by simp [Value.ownBlock] at hg; simp only [World.size_alloc]; omega)
  generalize ((w.alloc (.cells #[.slice A1 p.length c1] 126)).alloc (.cells #[.slice A2 n.length c2] 32)) = WX at hb1 HKB hvb hg1
  obtain ⟨kb1, kb2, zb0⟩ := HKB.out
  have zb : w.heap.size + 1 < WX.heap.size := by omega
  clear zb0
  have hw1 : Below w.heap.size w w1 := bel_trans hvb hb1
  have HRD : Hid ((Ty.sl tBinding).rd w1 [v1] l) := Lib.hid hr1.rd
  clear hr1 hg1 HL0 HKB
  have HC : Hid (∀ W, Below WX.heap.size WX W → W.cell? ⟨w.heap.size, 0, none⟩ = some (.slice A1 p.length c1) ∧ W.cell? ⟨w.heap.size + 1, 0, none⟩ = some (.slice A2 n.length c2)) := fun W hW => ⟨(hW.cell (p := ⟨w.heap.size, 0, none⟩) (by dsimp only; omega)).trans kb1, (hW.cell (p := ⟨w.heap.size + 1, 0, none⟩) (by dsimp only; omega)).trans kb2⟩
  clear kb1 kb2
  obtain ⟨j1, j2⟩ := HC.out _ hb1
  go_wp2_with fail
  refine (C_spec_ValidPattern _ _ _ (Ty.rd_below hw1 h1)).mono ?_
  rintro e w2 ⟨rfl, hb2⟩
  have hx2 : Below WX.heap.size WX w2 := bel_trans hb1 hb2
  have hw2 : Below w.heap.size w w2 := bel_trans hvb hx2
  clear j1 j2
  obtain ⟨j1, j2⟩ := HC.out _ hx2
  cases q0 : validPat p
  · have HF := Lib.hid (f_Match_no (n := n) l (by rw [q0]; rfl))
    go_wp2
    go_ret2
    exact RetBs.mk HF.out (Ty.rd_below hb2 HRD.out) hw2
  go_wp2_with fail
  refine (C_spec_ValidName _ _ _ (Ty.rd_below hw2 h2)).mono ?_
  rintro e w3 ⟨rfl, hb3⟩
  have hx3 : Below WX.heap.size WX w3 := bel_trans hx2 hb3
  have hw3 : Below w.heap.size w w3 := bel_trans hvb hx3
  have h13 : Below w1.heap.size w1 w3 := bel_trans hb2 hb3
  clear j1 j2
  cases q1 : validName n
  · have HF := Lib.hid (f_Match_no (p := p) l (by rw [q1]; cases validPat p <;> rfl))
    go_wp2
    go_ret2
    exact RetBs.mk HF.out (Ty.rd_below h13 HRD.out) hw3
  have HF := Lib.hid (f_Match_go l q0 q1)
  have hp6 := validPat_len q0
  clear q0 q1
  obtain ⟨j1, j2⟩ := HC.out _ hx3
  have HL1 := Lib.hid (DRow.lit0 tBinding w3 174 (Nat.le_refl _))
  set_option maxRecDepth 100000 in go_wp2_with (at_builtin; go_loud (refine wpList_append_drow rfl _ _ 153 rfl (w3.alloc (.cells #[] 174)) w3.heap.size 174 info_Binding rfl Tryz.underlying153 _ _ [] l rfl rfl HL1.out (Below.refl _ _) (Src.flat rfl (Ty.rd_below (by (repeat' (first | (with_reducible exact Below.refl _ _) | (with_reducible assumption) | (with_reducible refine bel_set ?_ (by (try dsimp only); omega) _) | (with_reducible refine bel_alloc ?_ _) | (with_reducible refine bel_drewN ?_ _) | (with_reducible refine bel_drew ?_) | (with_reducible refine bel_trans ?_ (by assumption)))); done) h3) _) ?_ ?_ ?_ ?_))
  case refine_1 => simp only [List.length_nil]; omega
  case refine_2 => simp only [List.length_nil]; unfold maxLen; omega
  case refine_3 => simp only [World.size_alloc]; omega
  intro v4 w4 hr4 hg4
  have hb4 : Below w3.heap.size w3 w4 := bel_grown (bel_alloc (Below.refl _ _) _) (by simp only [World.size_alloc]; omega) hg4 (fun g hg => by simp [Value.ownBlock] at hg; omega)
  have HR4 : Hid (DRow tBinding w4 w3.heap.size 174 v4 l) := Lib.hid hr4
  clear hr4 hg4 HL1 j1 j2
  obtain ⟨j1, j2⟩ := HC.out _ (bel_trans hx3 hb4)
  go_wp2
  go_loopw [9, 10] (fun out i wr => ∃ (k : Nat) (acc : List (Ty.D tBinding)), k ≤ p.length ∧ k ≤ n.length ∧ i = .int .i64 k ∧ DRow tBinding wr w3.heap.size 174 out acc ∧ acc.length ≤ l.length + k ∧ Hid (mGo (p.drop k) (n.drop k) acc = mGo p n l) ∧ Below w3.heap.size w3 wr) (fun _ i _ => p.length - (intOf i).toNat)
  case atStart => exact ⟨0, l, by omega, by omega, rfl, HR4.out, by omega, Lib.hid rfl, hb4⟩
  case round =>
    obtain ⟨k, acc, hk, hkn, rfl, hr, hal, hM, hb⟩ := hrel
    clear j1 j2
    obtain ⟨j1, j2⟩ := HC.out wr (bel_trans hx3 hb)
    have hw : Below w.heap.size w wr := bel_trans hw3 hb
    have h1r : Below w1.heap.size w1 wr := bel_trans h13 hb
    obtain ⟨Ao, co, hout⟩ := hr.form
    have hrd0 := hr.rd
    have HR := Lib.hid hr
    clear hr
    subst hout
    by_cases hlt : k < p.length
    · obtain ⟨b, o, rfl, e0, n0⟩ := Ty.rd_str_at (Ty.rd_below hw h1) hlt
      by_cases hs : p[k] = [42, 42]
      · have hs2 : (p[k] == [42, 42]) = true := by simp [hs]
        have HE := Lib.hid (show f_Match p n l = (acc, true) from by rw [HF.out, ← hM.out, mGo_star hlt hs])
        clear hs
        go_wp2
        go_ret2
        exact RetBs.mk HE.out HR.out.rd hw
      have hs2 : (p[k] == [42, 42]) = false := by simp [hs]
      have HS := Lib.hid hs
      clear hs
      by_cases hn : k < n.length
      rotate_left
      · have HE := Lib.hid (show f_Match p n l = (l, false) from by rw [HF.out, ← hM.out, mGo_short hlt HS.out (by omega)])
        go_wp2
        go_ret2
        exact RetBs.mk HE.out (Ty.rd_below h1r HRD.out) hw
      obtain ⟨b2, o2, rfl, e2, n2⟩ := Ty.rd_str_at (Ty.rd_below hw h2) hn
      by_cases h42 : p[k] = [42]
      · have h42' : (p[k] == [42]) = true := by simp [h42]
        have HM := Lib.hid (show mGo (p.drop (k + 1)) (n.drop (k + 1)) acc = mGo p n l from by rw [← hM.out, mGo_step hlt HS.out hn (mStep_any h42)])
        clear h42
        go_wp2
        go_roundw
        case rel => exact ⟨k + 1, acc, by omega, by omega, by go_num, HR.out, by omega, HM, hb⟩
        case measure => simp [intOf]; omega
      have h42' : (p[k] == [42]) = false := by simp [h42]
      have H42 := Lib.hid h42
      clear h42
      cases hv : isVar p[k]
      · have hcall : Calls Tryz.prog 159 #[vS p[k]] wr (RetBP wr false) := by have := C_spec_l5Letter wr p[k] n0; rw [hv] at this; exact this
        have HV := Lib.hid hv
        clear hv
        go_wp2_with fail
        refine hcall.mono ?_
        rintro e w5 ⟨rfl, hw5⟩
        obtain rfl : wr = w5 := hw5.symm
        by_cases he : p[k] = n[k]
        · have he2 : (p[k] == n[k]) = true := by simp [he]
          have HM := Lib.hid (show mGo (p.drop (k + 1)) (n.drop (k + 1)) acc = mGo p n l from by rw [← hM.out, mGo_step hlt HS.out hn (mStep_lit H42.out HV.out he)])
          clear he hcall
          go_wp2
          go_roundw
          case rel => exact ⟨k + 1, acc, by omega, by omega, by go_num, HR.out, by omega, HM, hb⟩
          case measure => simp [intOf]; omega
        · have he2 : (p[k] == n[k]) = false := by simp [he]
          have HE := Lib.hid (show f_Match p n l = (l, false) from by rw [HF.out, ← hM.out, mGo_none hlt HS.out hn (mStep_bad H42.out HV.out he)])
          clear he hcall
          go_wp2
          go_ret2
          exact RetBs.mk HE.out (Ty.rd_below h1r HRD.out) hw
      · have hcall : Calls Tryz.prog 159 #[vS p[k]] wr (RetBP wr true) := by have := C_spec_l5Letter wr p[k] n0; rw [hv] at this; exact this
        have HV := Lib.hid hv
        clear hv
        rcases find_ixf (letterIs p[k]) acc with ⟨hi, hf⟩ | ⟨m, hm, hi, hf⟩
        · have hcall2 : Calls Tryz.prog 184 #[.slice Ao acc.length co, vS p[k]] wr (RetIP wr (-1)) := by have := C_spec_l5Find wr _ acc p[k] hrd0 n0; rw [hi] at this; exact this
          have HM := Lib.hid (show mGo (p.drop (k + 1)) (n.drop (k + 1)) (acc ++ [(p[k], n[k])]) = mGo p n l from by rw [← hM.out, mGo_step hlt HS.out hn (mStep_new H42.out HV.out hf)])
          clear hi hf
          go_wp2_with fail
          refine hcall.mono ?_
          rintro e w5 ⟨rfl, hw5⟩
          obtain rfl : wr = w5 := hw5.symm
          go_wp2_with fail
          refine hcall2.mono ?_
          rintro e w5 ⟨rfl, hw5⟩
          obtain rfl : wr = w5 := hw5.symm
          clear hcall hcall2
          set_option maxRecDepth 100000 in go_wp2_with (at_builtin; go_loud (refine wpList_append_drow rfl _ _ 153 rfl wr w3.heap.size 174 info_Binding rfl Tryz.underlying153 _ _ acc [(p[k], n[k])] rfl rfl HR.out (by repeat' (first | (with_reducible exact Below.refl _ _) | (with_reducible assumption) | (with_reducible refine bel_set ?_ (by (try dsimp only); omega) _) | (with_reducible refine bel_alloc ?_ _) | (with_reducible refine bel_drewN ?_ _) | (with_reducible refine bel_drew ?_))) (Src.lit 174 (ow_Binding (x := (p[k], n[k])) n0 n2) (FrI.nil _ _)) ?_ ?_ ?_ ?_))
          case refine_1 => simp only [List.length_cons, List.length_nil]; omega
          case refine_2 => simp only [List.length_cons, List.length_nil]; unfold maxLen; omega
          case refine_3 => exact hb.size
          intro v' w' hr' hg'
          have hb' : Below w3.heap.size w3 w' := bel_grown (bel_alloc hb _) (by have := hb.size; simp only [World.size_alloc]; omega) hg' (fun g hg => (HR.out.block g hg).1)
          have HR' := Lib.hid hr'
          clear hr' hg'
          go_wp2
          go_roundw
          case rel => exact ⟨k + 1, acc ++ [(p[k], n[k])], by omega, by omega, by go_num, HR'.out, by rw [List.length_append, List.length_singleton]; omega, HM, hb'⟩
          case measure => simp [intOf]; omega
        · have hcall2 : Calls Tryz.prog 184 #[.slice Ao acc.length co, vS p[k]] wr (RetIP wr m) := by have := C_spec_l5Find wr _ acc p[k] hrd0 n0; rw [hi] at this; exact this
          obtain ⟨b3, o3, ds3, rfl, hl3, hcell3, hrd3⟩ := Ty.rd_at hrd0 hm
          obtain ⟨rfl, _, _⟩ := rd_Binding hrd3
          have e3 : wr.cell? ⟨b3, o3 + m * 2 + 1, none⟩ = some (vS acc[m].2) := by simpa [Ty.sz] using hcell3 1 (by decide)
          clear hcell3 hl3
          have i0 : (0 : Int) ≤ (m : Int) := by omega
          have i1 : (m : Int) < (acc.length : Int) := by omega
          have i2 : (0 : Int) ≤ (k : Int) := by omega
          have i3 : (k : Int) < (n.length : Int) := by omega
          go_wp2_with fail
          refine hcall.mono ?_
          rintro e w5 ⟨rfl, hw5⟩
          obtain rfl : wr = w5 := hw5.symm
          go_wp2_with fail
          refine hcall2.mono ?_
          rintro e w5 ⟨rfl, hw5⟩
          obtain rfl : wr = w5 := hw5.symm
          clear hcall hcall2
          by_cases he : acc[m].2 = n[k]
          · have he2 : (acc[m].2 == n[k]) = true := by simp [he]
            have HM := Lib.hid (show mGo (p.drop (k + 1)) (n.drop (k + 1)) acc = mGo p n l from by rw [← hM.out, mGo_step hlt HS.out hn (mStep_eq H42.out HV.out hf he)])
            clear he hf hi
            go_wp2
            go_quiet (fail)
            go_wp2
            go_roundw
            case rel => exact ⟨k + 1, acc, by omega, by omega, by go_num, HR.out.below (by repeat' (first | (with_reducible exact Below.refl _ _) | (with_reducible assumption) | (with_reducible refine bel_set ?_ (by (try dsimp only); omega) _) | (with_reducible refine bel_alloc ?_ _) | (with_reducible refine bel_drewN ?_ _) | (with_reducible refine bel_drew ?_))), by omega, HM, (by repeat' (first | (with_reducible exact Below.refl _ _) | (with_reducible assumption) | (with_reducible refine bel_set ?_ (by (try dsimp only); omega) _) | (with_reducible refine bel_alloc ?_ _) | (with_reducible refine bel_drewN ?_ _) | (with_reducible refine bel_drew ?_)))⟩
            case measure => simp [intOf]; omega
          · have he2 : (acc[m].2 == n[k]) = false := by simp [he]
            have HE := Lib.hid (show f_Match p n l = (l, false) from by rw [HF.out, ← hM.out, mGo_none hlt HS.out hn (mStep_ne H42.out HV.out hf he)])
            clear he hf hi
            go_wp2
            go_quiet (fail)
            go_wp2
            go_ret2
            exact RetBs.mk HE.out (Ty.rd_below (by (repeat' (first | (with_reducible exact Below.refl _ _) | (with_reducible assumption) | (with_reducible refine bel_set ?_ (by (try dsimp only); omega) _) | (with_reducible refine bel_alloc ?_ _) | (with_reducible refine bel_drewN ?_ _) | (with_reducible refine bel_drew ?_) | (with_reducible refine bel_trans ?_ (by assumption)))); done) HRD.out) (by repeat' (first | (with_reducible exact Below.refl _ _) | (with_reducible assumption) | (with_reducible refine bel_set ?_ (by (try dsimp only); omega) _) | (with_reducible refine bel_alloc ?_ _) | (with_reducible refine bel_drewN ?_ _) | (with_reducible refine bel_drew ?_)))
    · by_cases hnl : n.length = p.length
      · have HE := Lib.hid (show f_Match p n l = (acc, true) from by rw [HF.out, ← hM.out, mGo_end (by omega) hnl])
        have hq : ((n.length : Int) != (p.length : Int)) = false := by simp [hnl]
        clear hnl
        go_wp2
        go_ret2
        exact RetBs.mk HE.out HR.out.rd hw
      · have HE := Lib.hid (show f_Match p n l = (l, false) from by rw [HF.out, ← hM.out, mGo_more (by omega) (by omega)])
        have hq : ((n.length : Int) != (p.length : Int)) = true := by rw [bne_iff_ne]; omega
        clear hnl
        go_wp2
        go_ret2
        exact RetBs.mk HE.out (Ty.rd_below h1r HRD.out) hw
set_option maxRecDepth 100000 in
set_option maxHeartbeats 8000000 in
theorem C_impl_Match (w : World) (cs1 : List Value) (p : List (List UInt8)) (cs2 : List Value) (n : List (List UInt8)) (v3 : Value) (l : List (Ty.D tBinding)) (h1 : (Ty.sl .str).rd w cs1 p) (h2 : (Ty.sl .str).rd w cs2 n) (h3 : (Ty.sl tBinding).rd w [v3] l) (hll : l.length ≤ 1000000) :
    Calls Tryz.prog 161 #[.agg cs1.toArray, .agg cs2.toArray, v3] w (RetBs w (f_Match p n l)) := by
  obtain ⟨A1, c1, rfl⟩ := Ty.rd_slv h1
  obtain ⟨A2, c2, rfl⟩ := Ty.rd_slv h2
  obtain ⟨A3, c3, rfl, _, _, _⟩ := Ty.rd_sl h3
  obtain ⟨_, _, _, _, _, m1⟩ := Ty.rd_sl h1
  obtain ⟨_, _, _, _, _, m2⟩ := Ty.rd_sl h2
  have kb1 : ((w.alloc (.cells #[.slice A1 p.length c1] 126)).alloc (.cells #[.slice A2 n.length c2] 32)).cell? ⟨w.heap.size, 0, none⟩ = some (.slice A1 p.length c1) := (World.cell?_alloc_lt _ _ _ (by simp only [World.size_alloc]; omega)).trans (cell_new w _ _ 0 rfl)
  have kb2 : ((w.alloc (.cells #[.slice A1 p.length c1] 126)).alloc (.cells #[.slice A2 n.length c2] 32)).cell? ⟨w.heap.size + 1, 0, none⟩ = some (.slice A2 n.length c2) := cell_new _ _ _ 0 (by simp only [World.size_alloc])
  have hvb : Below w.heap.size w ((w.alloc (.cells #[.slice A1 p.length c1] 126)).alloc (.cells #[.slice A2 n.length c2] 32)) := (by repeat' (first | (with_reducible exact Below.refl _ _) | (with_reducible assumption) | (with_reducible refine bel_set ?_ (by (try dsimp only); omega) _) | (with_reducible refine bel_alloc ?_ _) | (with_reducible refine bel_drewN ?_ _) | (with_reducible refine bel_drew ?_)))
  have zb : ((w.alloc (.cells #[.slice A1 p.length c1] 126)).alloc (.cells #[.slice A2 n.length c2] 32)).heap.size = w.heap.size + 1 + 1 := by simp only [World.size_alloc]
  have HKB := Lib.hid (And.intro kb1 (And.intro kb2 zb))
  clear kb1 kb2 zb
  have hmf := hmf_ (P := Tryz.prog)
  go_enter Tryz.func161, Tryz.ntmps161
  go_wp2_with fail
  generalize ((w.alloc (.cells #[.slice A1 p.length c1] 126)).alloc (.cells #[.slice A2 n.length c2] 32)) = WX at HKB hvb ⊢
  obtain ⟨kb1, kb2, zb0⟩ := HKB.out
  have zb : w.heap.size + 1 < WX.heap.size := by omega
  clear zb0
  refine (C_Clone_Binding _ _ l (Ty.rd_below hvb h3) (by omega)).mono ?_
  rintro e w1 ⟨v1, rfl, hr1, hb1⟩
  have hw1 : Below w.heap.size w w1 := bel_trans hvb hb1
  have HRD : Hid ((Ty.sl tBinding).rd w1 [v1] l) := Lib.hid hr1.rd
  have HR1 := Lib.hid hr1
  clear hr1 HKB
  have HC : Hid (∀ W, Below WX.heap.size WX W → W.cell? ⟨w.heap.size, 0, none⟩ = some (.slice A1 p.length c1) ∧ W.cell? ⟨w.heap.size + 1, 0, none⟩ = some (.slice A2 n.length c2)) := fun W hW => ⟨(hW.cell (p := ⟨w.heap.size, 0, none⟩) (by dsimp only; omega)).trans kb1, (hW.cell (p := ⟨w.heap.size + 1, 0, none⟩) (by dsimp only; omega)).trans kb2⟩
  clear kb1 kb2
  obtain ⟨j1, j2⟩ := HC.out _ hb1
  go_wp2_with fail
  refine (C_impl_ValidPattern _ _ _ (Ty.rd_below hw1 h1)).mono ?_
  rintro e w2 ⟨rfl, hb2⟩
  have hx2 : Below WX.heap.size WX w2 := bel_trans hb1 hb2
  have hw2 : Below w.heap.size w w2 := bel_trans hvb hx2
  clear j1 j2
  obtain ⟨j1, j2⟩ := HC.out _ hx2
  cases q0 : validPat p
  · have HF := Lib.hid (f_Match_no (n := n) l (by rw [q0]; rfl))
    go_wp2
    go_ret2
    exact RetBs.mk HF.out (Ty.rd_below hb2 HRD.out) hw2
  go_wp2_with fail
  refine (C_impl_ValidName _ _ _ (Ty.rd_below hw2 h2)).mono ?_
  rintro e w3 ⟨rfl, hb3⟩
  have hx3 : Below WX.heap.size WX w3 := bel_trans hx2 hb3
  have hw3 : Below w.heap.size w w3 := bel_trans hvb hx3
  have h13 : Below w1.heap.size w1 w3 := bel_trans hb2 hb3
  clear j1 j2
  cases q1 : validName n
  · have HF := Lib.hid (f_Match_no (p := p) l (by rw [q1]; cases validPat p <;> rfl))
    go_wp2
    go_ret2
    exact RetBs.mk HF.out (Ty.rd_below h13 HRD.out) hw3
  have HF := Lib.hid (f_Match_go l q0 q1)
  have hp6 := validPat_len q0
  clear q0 q1
  obtain ⟨j1, j2⟩ := HC.out _ hx3
  go_wp2
  go_loopw [8, 27] (fun out i wr => ∃ (k : Nat) (acc : List (Ty.D tBinding)), k ≤ p.length ∧ k ≤ n.length ∧ i = .int .i64 k ∧ DRow tBinding wr WX.heap.size 174 out acc ∧ acc.length ≤ l.length + k ∧ Hid (mGo (p.drop k) (n.drop k) acc = mGo p n l) ∧ Below WX.heap.size WX wr) (fun _ i _ => p.length - (intOf i).toNat)
  case atStart => exact ⟨0, l, by omega, by omega, rfl, HR1.out.below h13, by omega, Lib.hid rfl, hx3⟩
  case round =>
    obtain ⟨k, acc, hk, hkn, rfl, hr, hal, hM, hb⟩ := hrel
    clear j1 j2
    obtain ⟨j1, j2⟩ := HC.out wr hb
    have hw : Below w.heap.size w wr := bel_trans hvb hb
    have z1 : w.heap.size + 1 < wr.heap.size := by have := hb.size; omega
    have z0 : w.heap.size < wr.heap.size := by omega
    obtain ⟨Ao, co, hout⟩ := hr.form
    have hrd0 := hr.rd
    have HR := Lib.hid hr
    clear hr
    subst hout
    by_cases hlt : k < p.length
    · obtain ⟨b, o, rfl, e0, n0⟩ := Ty.rd_str_at (Ty.rd_below hw h1) hlt
      have hx0 : Below wr.heap.size wr (wr.alloc (.cells #[vS p[k]] 9)) := (by repeat' (first | (with_reducible exact Below.refl _ _) | (with_reducible assumption) | (with_reducible refine bel_set ?_ (by (try dsimp only); omega) _) | (with_reducible refine bel_alloc ?_ _) | (with_reducible refine bel_drewN ?_ _) | (with_reducible refine bel_drew ?_)))
      by_cases hs : p[k] = [42, 42]
      · have hs2 : (p[k] == [42, 42]) = true := by simp [hs]
        have HE := Lib.hid (show f_Match p n l = (acc, true) from by rw [HF.out, ← hM.out, mGo_star hlt hs])
        clear hs
        go_wp2
        go_ret2
        exact RetBs.mk HE.out (Ty.rd_below hx0 HR.out.rd) (bel_trans hw hx0)
      have hs2 : (p[k] == [42, 42]) = false := by simp [hs]
      have HS := Lib.hid hs
      clear hs
      by_cases hn : k < n.length
      rotate_left
      · have HE := Lib.hid (show f_Match p n l = (l, false) from by rw [HF.out, ← hM.out, mGo_short hlt HS.out (by omega)])
        go_wp2_with fail
        refine (C_Clone_Binding _ _ l (Ty.rd_below (bel_trans hw hx0) h3) (by omega)).mono ?_
        rintro e w6 ⟨v6, rfl, hr6, hb6⟩
        have HR6 := Lib.hid hr6.rd
        clear hr6
        go_wp2
        go_ret2
        exact RetBs.mk HE.out HR6.out (bel_trans (bel_trans hw hx0) hb6)
      obtain ⟨b2, o2, rfl, e2, n2⟩ := Ty.rd_str_at (Ty.rd_below hw h2) hn
      have hlb2 : b2 < wr.heap.size := World.block_lt_of_cell? wr _ e2
      rcases (show (ixf (letterIs p[k]) acc = -1 ∧ acc.find? (letterIs p[k]) = none) ∨ ∃ (m : Nat) (h : m < acc.length), ixf (letterIs p[k]) acc = m ∧ acc.find? (letterIs p[k]) = some acc[m] from find_ixf (letterIs p[k]) acc) with ⟨hi, hf⟩ | ⟨m, hm, hi, hf⟩
      all_goals
        have HFI := Lib.hid hf
        have HII := Lib.hid hi
        clear hf hi
        go_wp2_with fail
        refine (C_IndexFunc_Binding _ _ acc (letterIs p[k]) 178 #[.pointer (some ⟨wr.heap.size, 0, none⟩)] (enters_of Tryz.func178 (by kernel_rfl) rfl) (Ty.rd_below hx0 hrd0) (fun W ds d hd hr hW => C_impl_Match1 W ds d p[k] wr.heap.size hr ?_)).mono ?_
        · rw [hW.cell (by simp only [World.size_alloc]; omega)]
          exact cell_new wr _ _ 0 rfl
        rw [HII.out]
        rintro e w5 ⟨rfl, hb5⟩
        have k0 : w5.cell? ⟨wr.heap.size, 0, none⟩ = some (vS p[k]) := (hb5.cell (p := ⟨wr.heap.size, 0, none⟩) (by simp only [World.size_alloc]; omega)).trans (cell_new wr _ _ 0 rfl)
        have hv5 : Below wr.heap.size wr w5 := bel_trans hx0 hb5
        have hx5 : Below WX.heap.size WX w5 := bel_trans hb hv5
        have hw5 : Below w.heap.size w w5 := bel_trans hvb hx5
        clear j1 j2
        obtain ⟨j1, j2⟩ := HC.out w5 hx5
        have HR5 := Lib.hid (HR.out.below hv5)
        by_cases h42 : p[k] = [42]
        · have h42' : (p[k] == [42]) = true := by simp [h42]
          have HM := Lib.hid (show mGo (p.drop (k + 1)) (n.drop (k + 1)) acc = mGo p n l from by rw [← hM.out, mGo_step hlt HS.out hn (mStep_any h42)])
          clear h42
          go_wp2
          go_roundw
          case rel => exact ⟨k + 1, acc, by omega, by omega, by go_num, HR5.out, by omega, HM, hx5⟩
          case measure => simp [intOf]; omega
        have h42' : (p[k] == [42]) = false := by simp [h42]
        have H42 := Lib.hid h42
        clear h42
      · cases hv : isVar p[k]
        · have hcall : Calls Tryz.prog 156 #[vS p[k]] w5 (RetBP w5 false) := by have := C_impl_isVariable w5 p[k] n0; rw [hv] at this; exact this
          have HV := Lib.hid hv
          clear hv
          go_wp2_with fail
          refine hcall.mono ?_
          rintro e w7 ⟨rfl, hw7⟩
          obtain rfl : w5 = w7 := hw7.symm
          clear hcall
          by_cases he : p[k] = n[k]
          · have he2 : (p[k] == n[k]) = true := by simp [he]
            have HM := Lib.hid (show mGo (p.drop (k + 1)) (n.drop (k + 1)) acc = mGo p n l from by rw [← hM.out, mGo_step hlt HS.out hn (mStep_lit H42.out HV.out he)])
            clear he
            go_wp2
            go_roundw
            case rel => exact ⟨k + 1, acc, by omega, by omega, by go_num, HR5.out, by omega, HM, hx5⟩
            case measure => simp [intOf]; omega
          · have he2 : (p[k] == n[k]) = false := by simp [he]
            have HE := Lib.hid (show f_Match p n l = (l, false) from by rw [HF.out, ← hM.out, mGo_none hlt HS.out hn (mStep_bad H42.out HV.out he)])
            clear he
            go_wp2_with fail
            refine (C_Clone_Binding _ _ l (Ty.rd_below hw5 h3) (by omega)).mono ?_
            rintro e w6 ⟨v6, rfl, hr6, hb6⟩
            have HR6 := Lib.hid hr6.rd
            clear hr6
            go_wp2
            go_ret2
            exact RetBs.mk HE.out HR6.out (bel_trans hw5 hb6)
        · have hcall : Calls Tryz.prog 156 #[vS p[k]] w5 (RetBP w5 true) := by have := C_impl_isVariable w5 p[k] n0; rw [hv] at this; exact this
          have HV := Lib.hid hv
          clear hv
          have HM := Lib.hid (show mGo (p.drop (k + 1)) (n.drop (k + 1)) (acc ++ [(p[k], n[k])]) = mGo p n l from by rw [← hM.out, mGo_step hlt HS.out hn (mStep_new H42.out HV.out HFI.out)])
          go_wp2_with fail
          refine hcall.mono ?_
          rintro e w7 ⟨rfl, hw7⟩
          obtain rfl : w5 = w7 := hw7.symm
          clear hcall
          set_option maxRecDepth 100000 in go_wp2_with (at_builtin; go_loud (refine wpList_append_drow rfl _ _ 153 rfl w5 WX.heap.size 174 info_Binding rfl Tryz.underlying153 _ _ acc [(p[k], n[k])] rfl rfl HR5.out (by repeat' (first | (with_reducible exact Below.refl _ _) | (with_reducible assumption) | (with_reducible refine bel_set ?_ (by (try dsimp only); omega) _) | (with_reducible refine bel_alloc ?_ _) | (with_reducible refine bel_drewN ?_ _) | (with_reducible refine bel_drew ?_))) (Src.lit 174 (ow_Binding (x := (p[k], n[k])) n0 n2) (FrI.nil _ _)) ?_ ?_ ?_ ?_))
          case refine_1 => simp only [List.length_cons, List.length_nil]; omega
          case refine_2 => simp only [List.length_cons, List.length_nil]; unfold maxLen; omega
          case refine_3 => exact hx5.size
          intro v' w' hr' hg'
          have hb' : Below WX.heap.size WX w' := bel_grown (bel_alloc hx5 _) (by have := hx5.size; simp only [World.size_alloc]; omega) hg' (fun g hg => (HR5.out.block g hg).1)
          have HR' := Lib.hid hr'
          clear hr' hg'
          go_wp2
          go_roundw
          case rel => exact ⟨k + 1, acc ++ [(p[k], n[k])], by omega, by omega, by go_num, HR'.out, by rw [List.length_append, List.length_singleton]; omega, HM, hb'⟩
          case measure => simp [intOf]; omega
      · cases hv : isVar p[k]
        · have hcall : Calls Tryz.prog 156 #[vS p[k]] w5 (RetBP w5 false) := by have := C_impl_isVariable w5 p[k] n0; rw [hv] at this; exact this
          have HV := Lib.hid hv
          clear hv
          go_wp2_with fail
          refine hcall.mono ?_
          rintro e w7 ⟨rfl, hw7⟩
          obtain rfl : w5 = w7 := hw7.symm
          clear hcall
          by_cases he : p[k] = n[k]
          · have he2 : (p[k] == n[k]) = true := by simp [he]
            have HM := Lib.hid (show mGo (p.drop (k + 1)) (n.drop (k + 1)) acc = mGo p n l from by rw [← hM.out, mGo_step hlt HS.out hn (mStep_lit H42.out HV.out he)])
            clear he
            go_wp2
            go_roundw
            case rel => exact ⟨k + 1, acc, by omega, by omega, by go_num, HR5.out, by omega, HM, hx5⟩
            case measure => simp [intOf]; omega
          · have he2 : (p[k] == n[k]) = false := by simp [he]
            have HE := Lib.hid (show f_Match p n l = (l, false) from by rw [HF.out, ← hM.out, mGo_none hlt HS.out hn (mStep_bad H42.out HV.out he)])
            clear he
            go_wp2_with fail
            refine (C_Clone_Binding _ _ l (Ty.rd_below hw5 h3) (by omega)).mono ?_
            rintro e w6 ⟨v6, rfl, hr6, hb6⟩
            have HR6 := Lib.hid hr6.rd
            clear hr6
            go_wp2
            go_ret2
            exact RetBs.mk HE.out HR6.out (bel_trans hw5 hb6)
        · have hcall : Calls Tryz.prog 156 #[vS p[k]] w5 (RetBP w5 true) := by have := C_impl_isVariable w5 p[k] n0; rw [hv] at this; exact this
          have HV := Lib.hid hv
          clear hv
          obtain ⟨b3, o3, ds3, rfl, hl3, hcell3, hrd3⟩ := Ty.rd_at HR5.out.rd hm
          obtain ⟨rfl, _, _⟩ := rd_Binding hrd3
          have e3 : w5.cell? ⟨b3, o3 + m * 2 + 1, none⟩ = some (vS acc[m].2) := by simpa [Ty.sz] using hcell3 1 (by decide)
          clear hcell3 hl3
          go_wp2_with fail
          refine hcall.mono ?_
          rintro e w7 ⟨rfl, hw7⟩
          obtain rfl : w5 = w7 := hw7.symm
          clear hcall
          by_cases he : acc[m].2 = n[k]
          · have he2 : (acc[m].2 == n[k]) = true := by simp [he]
            have HM := Lib.hid (show mGo (p.drop (k + 1)) (n.drop (k + 1)) acc = mGo p n l from by rw [← hM.out, mGo_step hlt HS.out hn (mStep_eq H42.out HV.out HFI.out he)])
            clear he
            go_wp2
            go_roundw
            case rel => exact ⟨k + 1, acc, by omega, by omega, by go_num, HR5.out, by omega, HM, hx5⟩
            case measure => simp [intOf]; omega
          · have he2 : (acc[m].2 == n[k]) = false := by simp [he]
            have HE := Lib.hid (show f_Match p n l = (l, false) from by rw [HF.out, ← hM.out, mGo_none hlt HS.out hn (mStep_ne H42.out HV.out HFI.out he)])
            clear he
            go_wp2_with fail
            refine (C_Clone_Binding _ _ l (Ty.rd_below hw5 h3) (by omega)).mono ?_
            rintro e w6 ⟨v6, rfl, hr6, hb6⟩
            have HR6 := Lib.hid hr6.rd
            clear hr6
            go_wp2
            go_ret2
            exact RetBs.mk HE.out HR6.out (bel_trans hw5 hb6)
    · by_cases hnl : p.length < n.length
      · have HE := Lib.hid (show f_Match p n l = (l, false) from by rw [HF.out, ← hM.out, mGo_more (by omega) hnl])
        go_wp2_with fail
        refine (C_Clone_Binding _ _ l (Ty.rd_below hw h3) (by omega)).mono ?_
        rintro e w6 ⟨v6, rfl, hr6, hb6⟩
        have HR6 := Lib.hid hr6.rd
        clear hr6
        go_wp2
        go_ret2
        exact RetBs.mk HE.out HR6.out (bel_trans hw hb6)
      · have HE := Lib.hid (show f_Match p n l = (acc, true) from by rw [HF.out, ← hM.out, mGo_end (by omega) (by omega)])
        go_wp2
        go_ret2
        exact RetBs.mk HE.out HR.out.rd hw
end Go.Proofs.YtldgbnlcnlfmeaaGreat
