/- Patterns and rules read out of texts: the walks of the reference's way. -/
import Derived.Test.YtpjnidfdkggpfaaDoorPsp
import Derived.Test.YtpjnidfdkggpfaaDoorPvl
import Derived.Test.YtpjnidfdkggpfaaDoorFmt
import Derived.Test.YtpjnidfdkggpfaaDoorVrs
import Derived.Test.YtpjnidfdkggpfaaDoorRet
import Derived.Test.YtpjnidfdkggpfaaDoorNb
import Derived.Test.YtpjnidfdkggpfaaDoorAsn
namespace Go.Proofs.YtpjnidfdkggpfaaDoor
open Go.RowKit
set_option linter.unusedVariables false
set_option linter.unusedSimpArgs false

theorem ppS_one {s : List UInt8} (h : s = [47]) : ppS s = ([], true) := by unfold ppS; rw [if_pos h]
theorem ppS_no {s : List UInt8} (h : ¬ s = [47]) (h2 : (decide (2 ≤ (spl 47 s).length) && decide ((spl 47 s).head? = some []) && validPat (spl 47 s).tail) = false) : ppS s = ([], false) := by unfold ppS; rw [if_neg h, h2]; rfl
theorem ppS_yes {s : List UInt8} (h : ¬ s = [47]) (h2 : (decide (2 ≤ (spl 47 s).length) && decide ((spl 47 s).head? = some []) && validPat (spl 47 s).tail) = true) : ppS s = ((spl 47 s).tail, true) := by unfold ppS; rw [if_neg h, if_pos h2]
theorem spl_pos (c : UInt8) (s : List UInt8) : 0 < (spl c s).length := List.length_pos_iff.2 (spl_ne c s)
set_option maxHeartbeats 2000000 in
theorem C_spec_ParsePattern (w : World) (s : List UInt8) (hs : s.length ≤ 1000000000) :
    Calls Tryd.prog 23 #[vS s] w (RetAgg2 w (.sl .str) (ppS s).1 (.bool (ppS s).2)) := by
  by_cases h1 : s = [47]
  · have HY := Lib.hid (ppS_one h1)
    have q1 : (s == [47]) = true := by simp [h1]
    generalize ppS s = F at HY ⊢
    clear h1
    go_enter Tryd.func23, Tryd.ntmps23
    go_wp2
    refine bodyPost_ret (v := .tuple #[.agg #[.slice none 0 0], .bool true]) (by simp [results, Tryd.results23, go_sem]) rfl ?_
    rw [HY.out]
    exact ⟨[.slice none 0 0], [], rfl, rd_ow_nil _ _, FrI.nil _ _, (by repeat' (first | (with_reducible exact Below.refl _ _) | (with_reducible assumption) | (with_reducible refine bel_set ?_ (by (try dsimp only); omega) _) | (with_reducible refine bel_alloc ?_ _) | (with_reducible refine bel_drewN ?_ _) | (with_reducible refine bel_drew ?_)))⟩
  have HNO := Lib.hid (fun h => ppS_no h1 h)
  have HYES := Lib.hid (fun h => ppS_yes h1 h)
  have q1 : (s == [47]) = false := by simp [h1]
  have hL := spl_pos 47 s
  have hcall : Calls Tryd.prog 22 #[vS s, .int .u8 47] (w.alloc (.cells #[.slice none 0 0] 35)) (RetRow flatS (w.alloc (.cells #[.slice none 0 0] 35)) 9 (spl 47 s)) := C_spec_l4Split _ s 47 hs
  generalize ppS s = F at HNO HYES ⊢
  generalize spl 47 s = L at HNO HYES hL hcall
  go_enter Tryd.func23, Tryd.ntmps23
  go_wp2_with fail
  refine hcall.mono ?_
  rintro e w1 ⟨v1, rfl, hr1, hb1⟩
  obtain ⟨A1, c1, fp1, rfl, how1, hfr1⟩ := hr1.own hb1.size
  have hcl : L.length ≤ c1 := by obtain ⟨A, c, h2, h3, _⟩ := how1; injection h2 with h2 _; injection h2 with _ _ h7; rw [h7]; exact h3
  obtain ⟨b, o, ds, rfl, hl, hcell, hrd⟩ := Ty.rd_at (Ty.ow_rd how1) hL
  obtain ⟨rfl, hsl⟩ := hrd
  have e0 : w1.cell? ⟨b, o, none⟩ = some (vS L[0]) := by simpa [Ty.sz] using hcell 0 (by decide)
  clear hcell hl hcall hr1 h1
  have hw1 : Below w.heap.size w w1 := bel_trans (by repeat' (first | (with_reducible exact Below.refl _ _) | (with_reducible assumption) | (with_reducible refine bel_set ?_ (by (try dsimp only); omega) _) | (with_reducible refine bel_alloc ?_ _) | (with_reducible refine bel_drewN ?_ _) | (with_reducible refine bel_drew ?_))) hb1
  have hB1 : Blk w1 w.heap.size 35 #[.slice none 0 0] := (Blk.new w _ _).below hb1 (by rw [World.size_alloc]; omega)
  have k1 : w1.cell? ⟨w.heap.size, 0, none⟩ = some (.slice none 0 0) := hB1.cell 0
  have f1 : w1.frozen? ⟨w.heap.size, 0, none⟩ = false := hB1.frozen 0
  have z1 : w.heap.size < w1.heap.size := hB1.lt
  have hbl : b < w1.heap.size := World.block_lt_of_cell? _ _ e0
  have hs1 := hb1.size
  simp only [World.size_alloc] at hs1 hfr1
  by_cases h2 : 2 ≤ L.length
  · obtain ⟨fp2, how2, hfr2⟩ := Ty.ow_tail how1 (by omega) hfr1
    have ht : L.drop 1 = L.tail := by simp
    rw [ht] at how2
    have hhead : L.head? = some L[0] := by cases L with | nil => simp at hL | cons a l => rfl
    have q2 : ¬ ((L.length : Int) < 2) := by omega
    have q4 : ¬ c1 = 1 := by omega
    have q5 : decide ((L.length : Int) < 2) = false := by simp; omega
    clear ht
    have how2 : (Ty.sl .str).ow w1 [.slice (some ⟨b, o + 1, none⟩) (L.length - 1) (c1 - 1)] L.tail fp2 := how2
    by_cases h3 : L[0] = []
    · have q3 : L[0].isEmpty = true := by rw [h3]; rfl
      generalize hvv : validPat L.tail = vv at HNO HYES
      have HVV := Lib.hid hvv
      have HC : Hid ((decide (2 ≤ L.length) && decide (L.head? = some []) && vv) = vv) := by unfold Hid; rw [hhead, h3]; simp [h2]
      clear h3 hhead hvv
      go_wp2_with fail
      have hv := C_spec_ValidPattern (w1.alloc (.cells #[.slice (some ⟨b, o + 1, none⟩) (L.length - 1) (c1 - 1)] 35)) _ L.tail (Ty.rd_below (by repeat' (first | (with_reducible exact Below.refl _ _) | (with_reducible assumption) | (with_reducible refine bel_set ?_ (by (try dsimp only); omega) _) | (with_reducible refine bel_alloc ?_ _) | (with_reducible refine bel_drewN ?_ _) | (with_reducible refine bel_drew ?_))) (Ty.ow_rd how2))
      rw [HVV.out] at hv
      refine hv.mono ?_
      rintro e w2 ⟨rfl, hb2⟩
      clear hv
      have hs2 := hb2.size
      simp only [World.size_alloc] at hs2
      have hx2 : Below w1.heap.size w1 w2 := bel_trans (bel_alloc (Below.refl _ _) _) hb2
      have hw2 : Below w.heap.size w w2 := bel_trans hw1 hx2
      have hB2 := hB1.below hx2 z1
      have hP2 : Blk w2 w1.heap.size 35 #[.slice (some ⟨b, o + 1, none⟩) (L.length - 1) (c1 - 1)] := (Blk.new w1 _ _).below hb2 (by rw [World.size_alloc]; omega)
      have k2 : w2.cell? ⟨w.heap.size, 0, none⟩ = some (.slice none 0 0) := hB2.cell 0
      have f2 : w2.frozen? ⟨w.heap.size, 0, none⟩ = false := hB2.frozen 0
      have j2 : w2.cell? ⟨w1.heap.size, 0, none⟩ = some (.slice (some ⟨b, o + 1, none⟩) (L.length - 1) (c1 - 1)) := hP2.cell 0
      have z2 : w.heap.size < w2.heap.size := by omega
      have y2 : w1.heap.size < w2.heap.size := by omega
      clear k1 f1 e0
      cases vv with
      | false =>
        have HN := Lib.hid (HNO.out HC.out)
        go_wp2
        refine bodyPost_ret (v := .tuple #[.agg #[.slice none 0 0], .bool false]) (by simp [results, Tryd.results23, go_sem, k2, f2, z2]) rfl ?_
        rw [HN.out]
        exact ⟨[.slice none 0 0], [], rfl, rd_ow_nil _ _, FrI.nil _ _, (by repeat' (first | (with_reducible exact Below.refl _ _) | (with_reducible assumption) | (with_reducible refine bel_set ?_ (by (try dsimp only); omega) _) | (with_reducible refine bel_alloc ?_ _) | (with_reducible refine bel_drewN ?_ _) | (with_reducible refine bel_drew ?_)))⟩
      | true =>
        have HY := Lib.hid (HYES.out HC.out)
        go_wp2
        refine bodyPost_ret (v := .tuple #[.agg #[.slice (some ⟨b, o + 1, none⟩) (L.length - 1) (c1 - 1)], .bool true]) (by simp [results, Tryd.results23, go_sem, k2, f2, z2]) rfl ?_
        rw [HY.out]
        exact ⟨[.slice (some ⟨b, o + 1, none⟩) (L.length - 1) (c1 - 1)], fp2, rfl, Ty.ow_keep (by intro b hb'; have hb'' := (hfr2).2 b hb'; (try simp only [World.size_alloc, World.size_setCell, size_drewN, World.size_drew] at hb''); repeat (first | (with_reducible rfl) | (rw [Below.heap_setCell _ _ _ _ (by (try dsimp only); omega)]) | (rw [Below.heap_alloc _ _ _ (by (try simp only [World.size_alloc, World.size_setCell]); omega)]) | (rw [hx2.block _ (by (try simp only [World.size_alloc, World.size_setCell, size_drewN, World.size_drew]); omega)]))) how2, hfr2.mono (by (try simp only [World.size_alloc, World.size_setCell, size_drewN, World.size_drew]); omega) (by (try simp only [World.size_alloc, World.size_setCell, size_drewN, World.size_drew]); omega), (by repeat' (first | (with_reducible exact Below.refl _ _) | (with_reducible assumption) | (with_reducible refine bel_set ?_ (by (try dsimp only); omega) _) | (with_reducible refine bel_alloc ?_ _) | (with_reducible refine bel_drewN ?_ _) | (with_reducible refine bel_drew ?_)))⟩
    · have q3 : L[0].isEmpty = false := by cases hq : L[0] with | nil => exact absurd hq h3 | cons a l => rfl
      have HN := Lib.hid (HNO.out (by rw [hhead]; simp [h3]))
      clear h3
      go_wp2
      refine bodyPost_ret (v := .tuple #[.agg #[.slice none 0 0], .bool false]) (by simp [results, Tryd.results23, go_sem, k1, f1, z1]) rfl ?_
      rw [HN.out]
      exact ⟨[.slice none 0 0], [], rfl, rd_ow_nil _ _, FrI.nil _ _, (by repeat' (first | (with_reducible exact Below.refl _ _) | (with_reducible assumption) | (with_reducible refine bel_set ?_ (by (try dsimp only); omega) _) | (with_reducible refine bel_alloc ?_ _) | (with_reducible refine bel_drewN ?_ _) | (with_reducible refine bel_drew ?_)))⟩
  · have HN := Lib.hid (HNO.out (by simp; omega))
    have q2 : ((L.length : Int) < 2) := by omega
    go_wp2
    all_goals refine bodyPost_ret (v := .tuple #[.agg #[.slice none 0 0], .bool false]) (by simp [results, Tryd.results23, go_sem, k1, f1, z1]) rfl ?_
    all_goals rw [HN.out]
    all_goals exact ⟨[.slice none 0 0], [], rfl, rd_ow_nil _ _, FrI.nil _ _, (by repeat' (first | (with_reducible exact Below.refl _ _) | (with_reducible assumption) | (with_reducible refine bel_set ?_ (by (try dsimp only); omega) _) | (with_reducible refine bel_alloc ?_ _) | (with_reducible refine bel_drewN ?_ _) | (with_reducible refine bel_drew ?_)))⟩
theorem prS_no3 {s : List UInt8} (h : ¬ ((spl 32 s).length = 3 ∧ (spl 32 s)[1]? = some [60])) : prS s = (([], []), false) := by unfold prS; rw [if_neg h]
theorem prS_3 {s : List UInt8} {x m y : List UInt8} (h : spl 32 s = [x, m, y]) (hm : m = [60]) : prS s = if (ppI x).2 && (ppI y).2 && validRule (ruleOf (ppI x) (ppI y)) then (ruleOf (ppI x) (ppI y), true) else (([], []), false) := by
  unfold prS; rw [h, if_pos ⟨rfl, by rw [hm]; rfl⟩]; rfl
theorem spl_part_len {s x : List UInt8} (h : x ∈ spl 32 s) : x.length ≤ s.length := by
  have : ∀ (l : List UInt8), ∀ a ∈ spl 32 l, a.length ≤ l.length := by
    intro l
    induction l with
    | nil => intro a ha; simp [spl] at ha; subst ha; exact Nat.le_refl _
    | cons b l ih =>
      intro a ha
      unfold spl at ha
      split at ha
      · rcases List.mem_cons.1 ha with rfl | ha
        · simp
        · have := ih a ha; simp; omega
      · split at ha
        · rename_i x t hx
          rw [hx] at ih
          rcases List.mem_cons.1 ha with rfl | ha
          · have := ih x (by simp); simp; omega
          · have := ih a (by simp [ha]); simp; omega
        · rename_i hx; exact absurd hx (spl_ne _ _)
  exact this s x h
theorem ppS_bulk (s : List UInt8) : Ty.bulk (.sl .str) (ppS s).1 ≤ 60 := by
  rw [pp_eq]
  rcases ppI_cases s with e | ⟨e, h1, _⟩
  · rw [e]; exact Nat.zero_le _
  · rw [e]; exact validPat_bulk h1
theorem rd_Rule_mk' {w : World} {x : tRule.D} {v0 v1 : Value} (h0 : (Ty.sl .str).rd w [v0] x.1) (h1 : (Ty.sl .str).rd w [v1] x.2) : tRule.rd w [v0, v1] x := ⟨[v0], [v1], rfl, h0, h1⟩
theorem ow_zeroRule (w : World) : tRule.ow w [.slice none 0 0, .slice none 0 0] ([], []) ([] ++ []) := ⟨[.slice none 0 0], [.slice none 0 0], [], [], rfl, rfl, rd_ow_nil _ _, rd_ow_nil _ _⟩
set_option maxHeartbeats 4000000 in
theorem C_spec_ParseRule (w : World) (s : List UInt8) (hs : s.length ≤ 1000000000) :
    Calls Tryd.prog 10 #[vS s] w (RetAgg2 w tRule (prS s).1 (.bool (prS s).2)) := by
  have HNO := Lib.hid (fun h => prS_no3 (s := s) h)
  have HY3 := Lib.hid (fun x m y h hm => prS_3 (s := s) (x := x) (m := m) (y := y) h hm)
  have HPL := Lib.hid (fun x h => spl_part_len (s := s) (x := x) h)
  have hcall : Calls Tryd.prog 22 #[vS s, .int .u8 32] (w.alloc (.cells #[.slice none 0 0, .slice none 0 0] 37)) (RetRow flatS (w.alloc (.cells #[.slice none 0 0, .slice none 0 0] 37)) 9 (spl 32 s)) := C_spec_l4Split _ s 32 hs
  generalize prS s = F at HNO HY3 ⊢
  have hL := spl_pos 32 s
  generalize spl 32 s = L at HNO HY3 HPL hL hcall
  go_enter Tryd.func10, Tryd.ntmps10
  go_wp2_with fail
  refine hcall.mono ?_
  rintro e w1 ⟨v1, rfl, hr1, hb1⟩
  obtain ⟨A1, c1, fp1, rfl, how1, hfr1⟩ := hr1.own hb1.size
  have hw1 : Below w.heap.size w w1 := bel_trans (by repeat' (first | (with_reducible exact Below.refl _ _) | (with_reducible assumption) | (with_reducible refine bel_set ?_ (by (try dsimp only); omega) _) | (with_reducible refine bel_alloc ?_ _) | (with_reducible refine bel_drewN ?_ _) | (with_reducible refine bel_drew ?_))) hb1
  have hB1 : Blk w1 w.heap.size 37 #[.slice none 0 0, .slice none 0 0] := (Blk.new w _ _).below hb1 (by rw [World.size_alloc]; omega)
  have k10 : w1.cell? ⟨w.heap.size, 0, none⟩ = some (.slice none 0 0) := hB1.cell 0
  have k11 : w1.cell? ⟨w.heap.size, 1, none⟩ = some (.slice none 0 0) := hB1.cell 1
  have f10 : w1.frozen? ⟨w.heap.size, 0, none⟩ = false := hB1.frozen 0
  have f11 : w1.frozen? ⟨w.heap.size, 1, none⟩ = false := hB1.frozen 1
  have z1 : w.heap.size < w1.heap.size := hB1.lt
  have hs1 := hb1.size
  simp only [World.size_alloc] at hs1 hfr1
  clear hcall
  by_cases h3 : L.length = 3
  · obtain ⟨x, m, y, rfl⟩ : ∃ x m y, L = [x, m, y] := by
      match L, h3 with
      | [x, m, y], _ => exact ⟨x, m, y, rfl⟩
    obtain ⟨b, o, ds, rfl, hl, hcell, hrd⟩ := Ty.rd_at (Ty.ow_rd how1) (k := 0) (by simp)
    obtain ⟨rfl, hsl⟩ := hrd
    have e0 : w1.cell? ⟨b, o, none⟩ = some (vS x) := by simpa [Ty.sz] using hcell 0 (by decide)
    clear hl hcell hsl
    obtain ⟨b', o', ds, he, hl, hcell, hrd⟩ := Ty.rd_at (Ty.ow_rd how1) (k := 1) (by simp)
    injection he with he; injection he with he1 he2; subst he1; subst he2
    obtain ⟨rfl, hsl⟩ := hrd
    have e1 : w1.cell? ⟨b, o + 1, none⟩ = some (vS m) := by simpa [Ty.sz] using hcell 0 (by decide)
    clear hl hcell hsl
    obtain ⟨b', o', ds, he, hl, hcell, hrd⟩ := Ty.rd_at (Ty.ow_rd how1) (k := 2) (by simp)
    injection he with he; injection he with he1 he2; subst he1; subst he2
    obtain ⟨rfl, hsl⟩ := hrd
    have e2 : w1.cell? ⟨b, o + 2, none⟩ = some (vS y) := by simpa [Ty.sz] using hcell 0 (by decide)
    clear hl hcell hsl
    have hbl : b < w1.heap.size := World.block_lt_of_cell? _ _ e0
    by_cases hm : m = [60]
    · have HF : Hid (F = _) := HY3.out x m y rfl hm
      have hxl : x.length ≤ s.length := HPL.out x (by simp)
      have hyl : y.length ≤ s.length := HPL.out y (by simp)
      rw [← pp_eq x, ← pp_eq y] at HF
      have hp1 := fun W => C_spec_ParsePattern W x (by omega)
      have hp2 := fun W => C_spec_ParsePattern W y (by omega)
      have hq1 := ppS_bulk x
      have hq2 := ppS_bulk y
      generalize ppS x = a at hp1 hq1 HF
      generalize ppS y = b2 at hp2 hq2 HF
      have hbk : Ty.bulk tRule (ruleOf a b2) ≤ 1048576 := by show Ty.bulk (.sl .str) a.1 + Ty.bulk (.sl .str) b2.1 ≤ _; omega
      have qm : (m == [60]) = true := by simp [hm]
      clear hm HNO HY3 HPL h3
      have HFN := Lib.hid (fun (h : (a.2 && b2.2 && validRule (ruleOf a b2)) = false) => show F = (([], []), false) from by have := HF.out; rw [h] at this; exact this)
      have HFY := Lib.hid (fun (h : (a.2 && b2.2 && validRule (ruleOf a b2)) = true) => show F = (ruleOf a b2, true) from by have := HF.out; rw [if_pos h] at this; exact this)
      clear HF hr1 hL
      go_wp2_with fail
      refine (hp1 _).mono ?_
      rintro e w2 ⟨cs2, fp2, rfl, how2, hfr2, hb2⟩
      obtain ⟨A2, c2, rfl⟩ := Ty.ow_slv how2
      have hs2 := hb2.size
      have hw2 : Below w.heap.size w w2 := bel_trans hw1 hb2
      have hB2 := hB1.below hb2 z1
      have g1 : w2.cell? ⟨b, o + 1, none⟩ = some (vS m) := (hb2.cell (p := ⟨b, o + 1, none⟩) hbl).trans e1
      have g2 : w2.cell? ⟨b, o + 2, none⟩ = some (vS y) := (hb2.cell (p := ⟨b, o + 2, none⟩) hbl).trans e2
      have hbl2 : b < w2.heap.size := by omega
      have z2 : w.heap.size < w2.heap.size := by omega
      clear e0 e1 e2 k10 k11 f10 f11
      go_wp2_with fail
      refine (hp2 _).mono ?_
      rintro e w3 ⟨cs3, fp3, rfl, how3, hfr3, hb3⟩
      obtain ⟨A3, c3, rfl⟩ := Ty.ow_slv how3
      have hs3 := hb3.size
      simp only [World.size_alloc] at hs3 hfr3
      have hx3 : Below w2.heap.size w2 w3 := bel_trans (bel_alloc (Below.refl _ _) _) hb3
      have hw3 : Below w.heap.size w w3 := bel_trans hw2 hx3
      have hB3 := hB2.below hx3 z2
      have hP3 : Blk w3 w2.heap.size 35 #[.slice A2 a.1.length c2] := (Blk.new w2 _ _).below hb3 (by rw [World.size_alloc]; omega)
      have k30 : w3.cell? ⟨w.heap.size, 0, none⟩ = some (.slice none 0 0) := hB3.cell 0
      have k31 : w3.cell? ⟨w.heap.size, 1, none⟩ = some (.slice none 0 0) := hB3.cell 1
      have f30 : w3.frozen? ⟨w.heap.size, 0, none⟩ = false := hB3.frozen 0
      have f31 : w3.frozen? ⟨w.heap.size, 1, none⟩ = false := hB3.frozen 1
      have j3 : w3.cell? ⟨w2.heap.size, 0, none⟩ = some (.slice A2 a.1.length c2) := hP3.cell 0
      have z3 : w.heap.size < w3.heap.size := by omega
      have y3 : w2.heap.size < w3.heap.size := by omega
      have how2' : (Ty.sl .str).ow w3 [.slice A2 a.1.length c2] a.1 fp2 := Ty.ow_keep (by intro b hb'; have hb'' := (hfr2).2 b hb'; (try simp only [World.size_alloc, World.size_setCell, size_drewN, World.size_drew] at hb''); repeat (first | (with_reducible rfl) | (rw [Below.heap_setCell _ _ _ _ (by (try dsimp only); omega)]) | (rw [Below.heap_alloc _ _ _ (by (try simp only [World.size_alloc, World.size_setCell]); omega)]) | (rw [hx3.block _ (by (try simp only [World.size_alloc, World.size_setCell, size_drewN, World.size_drew]); omega)]))) how2
      clear hp1 hp2 g1 g2
      cases qa : a.2 with
      | false =>
        have HN := Lib.hid (HFN.out (by rw [qa]; rfl))
        go_wp2
        refine bodyPost_ret (v := .tuple #[.agg #[.slice none 0 0, .slice none 0 0], .bool false]) (by simp [results, Tryd.results10, go_sem, k30, k31, f30, f31, z3]) rfl ?_
        rw [HN.out]
        exact ⟨_, _, rfl, ow_zeroRule _, FrI.nil _ _, (by repeat' (first | (with_reducible exact Below.refl _ _) | (with_reducible assumption) | (with_reducible refine bel_set ?_ (by (try dsimp only); omega) _) | (with_reducible refine bel_alloc ?_ _) | (with_reducible refine bel_drewN ?_ _) | (with_reducible refine bel_drew ?_)))⟩
      | true =>
        cases qb : b2.2 with
        | false =>
          have HN := Lib.hid (HFN.out (by rw [qa, qb]; rfl))
          go_wp2
          refine bodyPost_ret (v := .tuple #[.agg #[.slice none 0 0, .slice none 0 0], .bool false]) (by simp [results, Tryd.results10, go_sem, k30, k31, f30, f31, z3]) rfl ?_
          rw [HN.out]
          exact ⟨_, _, rfl, ow_zeroRule _, FrI.nil _ _, (by repeat' (first | (with_reducible exact Below.refl _ _) | (with_reducible assumption) | (with_reducible refine bel_set ?_ (by (try dsimp only); omega) _) | (with_reducible refine bel_alloc ?_ _) | (with_reducible refine bel_drewN ?_ _) | (with_reducible refine bel_drew ?_)))⟩
        | true =>
          go_wp2_with fail
          refine (C_spec_ValidRule _ _ (ruleOf a b2) (rd_Rule_mk' (Ty.rd_below (by repeat' (first | (with_reducible exact Below.refl _ _) | (with_reducible assumption) | (with_reducible refine bel_set ?_ (by (try dsimp only); omega) _) | (with_reducible refine bel_alloc ?_ _) | (with_reducible refine bel_drewN ?_ _) | (with_reducible refine bel_drew ?_))) (Ty.ow_rd how2')) (Ty.rd_below (by repeat' (first | (with_reducible exact Below.refl _ _) | (with_reducible assumption) | (with_reducible refine bel_set ?_ (by (try dsimp only); omega) _) | (with_reducible refine bel_alloc ?_ _) | (with_reducible refine bel_drewN ?_ _) | (with_reducible refine bel_drew ?_))) (Ty.ow_rd how3))) hbk).mono ?_
          rintro e w4 ⟨rfl, hb4⟩
          have hs4 := hb4.size
          simp only [World.size_alloc] at hs4
          have hx4 : Below w3.heap.size w3 w4 := bel_trans (bel_alloc (bel_alloc (Below.refl _ _) _) _) hb4
          have hw4 : Below w.heap.size w w4 := bel_trans hw3 hx4
          have hB4 := hB3.below hx4 z3
          have hR4 : Blk w4 (w3.heap.size + 1) 37 #[.slice A2 a.1.length c2, .slice A3 b2.1.length c3] := by
            have := (Blk.new (w3.alloc (.cells #[.slice A3 b2.1.length c3] 35)) 37 #[.slice A2 a.1.length c2, .slice A3 b2.1.length c3]).below hb4 (by simp only [World.size_alloc]; omega)
            rwa [World.size_alloc] at this
          have k40 : w4.cell? ⟨w.heap.size, 0, none⟩ = some (.slice none 0 0) := hB4.cell 0
          have k41 : w4.cell? ⟨w.heap.size, 1, none⟩ = some (.slice none 0 0) := hB4.cell 1
          have f40 : w4.frozen? ⟨w.heap.size, 0, none⟩ = false := hB4.frozen 0
          have f41 : w4.frozen? ⟨w.heap.size, 1, none⟩ = false := hB4.frozen 1
          have r40 : w4.cell? ⟨w3.heap.size + 1, 0, none⟩ = some (.slice A2 a.1.length c2) := hR4.cell 0
          have r41 : w4.cell? ⟨w3.heap.size + 1, 1, none⟩ = some (.slice A3 b2.1.length c3) := hR4.cell 1
          have z4 : w.heap.size < w4.heap.size := by omega
          have y4 : w3.heap.size + 1 < w4.heap.size := by omega
          clear k30 k31 f30 f31 j3
          cases qv : validRule (ruleOf a b2) with
          | false =>
            have HN := Lib.hid (HFN.out (by rw [qa, qb, qv]; rfl))
            go_wp2
            refine bodyPost_ret (v := .tuple #[.agg #[.slice none 0 0, .slice none 0 0], .bool false]) (by simp [results, Tryd.results10, go_sem, k40, k41, f40, f41, z4]) rfl ?_
            rw [HN.out]
            exact ⟨_, _, rfl, ow_zeroRule _, FrI.nil _ _, (by repeat' (first | (with_reducible exact Below.refl _ _) | (with_reducible assumption) | (with_reducible refine bel_set ?_ (by (try dsimp only); omega) _) | (with_reducible refine bel_alloc ?_ _) | (with_reducible refine bel_drewN ?_ _) | (with_reducible refine bel_drew ?_)))⟩
          | true =>
            have HY := Lib.hid (HFY.out (by rw [qa, qb, qv]; rfl))
            clear qv
            go_wp2
            refine bodyPost_ret (v := .tuple #[.agg #[.slice A2 a.1.length c2, .slice A3 b2.1.length c3], .bool true]) (by simp [results, Tryd.results10, go_sem, k40, k41, f40, f41, z4]) rfl ?_
            rw [HY.out]
            exact ⟨[.slice A2 a.1.length c2, .slice A3 b2.1.length c3], fp2 ++ fp3, rfl, ⟨[.slice A2 a.1.length c2], [.slice A3 b2.1.length c3], fp2, fp3, rfl, rfl, Ty.ow_keep (by intro b hb'; have hb'' := (hfr2).2 b hb'; (try simp only [World.size_alloc, World.size_setCell, size_drewN, World.size_drew] at hb''); repeat (first | (with_reducible rfl) | (rw [Below.heap_setCell _ _ _ _ (by (try dsimp only); omega)]) | (rw [Below.heap_alloc _ _ _ (by (try simp only [World.size_alloc, World.size_setCell]); omega)]) | (rw [hx4.block _ (by (try simp only [World.size_alloc, World.size_setCell, size_drewN, World.size_drew]); omega)]) | (rw [hx3.block _ (by (try simp only [World.size_alloc, World.size_setCell, size_drewN, World.size_drew]); omega)]))) how2', Ty.ow_keep (by intro b hb'; have hb'' := (hfr3).2 b hb'; (try simp only [World.size_alloc, World.size_setCell, size_drewN, World.size_drew] at hb''); repeat (first | (with_reducible rfl) | (rw [Below.heap_setCell _ _ _ _ (by (try dsimp only); omega)]) | (rw [Below.heap_alloc _ _ _ (by (try simp only [World.size_alloc, World.size_setCell]); omega)]) | (rw [hx4.block _ (by (try simp only [World.size_alloc, World.size_setCell, size_drewN, World.size_drew]); omega)]))) how3⟩, FrI.app (hfr2.mono (by (try simp only [World.size_alloc, World.size_setCell, size_drewN, World.size_drew]); omega) (Nat.le_refl _)) (hfr3.mono (Nat.le_refl _) (by (try simp only [World.size_alloc, World.size_setCell, size_drewN, World.size_drew]); omega)) (by (try simp only [World.size_alloc, World.size_setCell, size_drewN, World.size_drew]); omega) (by (try simp only [World.size_alloc, World.size_setCell, size_drewN, World.size_drew]); omega) (by (try simp only [World.size_alloc, World.size_setCell, size_drewN, World.size_drew]); omega), (by repeat' (first | (with_reducible exact Below.refl _ _) | (with_reducible assumption) | (with_reducible refine bel_set ?_ (by (try dsimp only); omega) _) | (with_reducible refine bel_alloc ?_ _) | (with_reducible refine bel_drewN ?_ _) | (with_reducible refine bel_drew ?_)))⟩
    · have HN := Lib.hid (HNO.out (by rintro ⟨_, h⟩; simp at h; exact hm h))
      have qm : (m == [60]) = false := by simp [hm]
      clear hm
      go_wp2
      refine bodyPost_ret (v := .tuple #[.agg #[.slice none 0 0, .slice none 0 0], .bool false]) (by simp [results, Tryd.results10, go_sem, k10, k11, f10, f11, z1]) rfl ?_
      rw [HN.out]
      exact ⟨_, _, rfl, ow_zeroRule _, FrI.nil _ _, (by repeat' (first | (with_reducible exact Below.refl _ _) | (with_reducible assumption) | (with_reducible refine bel_set ?_ (by (try dsimp only); omega) _) | (with_reducible refine bel_alloc ?_ _) | (with_reducible refine bel_drewN ?_ _) | (with_reducible refine bel_drew ?_)))⟩
  · have HN := Lib.hid (HNO.out (fun h => h3 h.1))
    have q3 : ¬ ((L.length : Int) = 3) := by omega
    go_wp2
    refine bodyPost_ret (v := .tuple #[.agg #[.slice none 0 0, .slice none 0 0], .bool false]) (by simp [results, Tryd.results10, go_sem, k10, k11, f10, f11, z1]) rfl ?_
    rw [HN.out]
    exact ⟨_, _, rfl, ow_zeroRule _, FrI.nil _ _, (by repeat' (first | (with_reducible exact Below.refl _ _) | (with_reducible assumption) | (with_reducible refine bel_set ?_ (by (try dsimp only); omega) _) | (with_reducible refine bel_alloc ?_ _) | (with_reducible refine bel_drewN ?_ _) | (with_reducible refine bel_drew ?_)))⟩
end Go.Proofs.YtpjnidfdkggpfaaDoor
