/- Patterns and rules read out of texts: the walks of the program's way. -/
import Derived.Test.YtpjnidfdkggpfaaDoorPsp
import Derived.Test.YtpjnidfdkggpfaaDoorPvl
import Derived.Test.YtpjnidfdkggpfaaDoorFmt
import Derived.Test.YtpjnidfdkggpfaaDoorCtx
import Derived.Test.YtpjnidfdkggpfaaDoorVru
import Derived.Test.YtpjnidfdkggpfaaDoorFru
import Derived.Test.YtpjnidfdkggpfaaDoorRet
import Derived.Test.YtpjnidfdkggpfaaDoorNb
namespace Go.Proofs.YtpjnidfdkggpfaaDoor
open Go.RowKit
set_option linter.unusedVariables false
set_option linter.unusedSimpArgs false

/-- The library's variable holds some number. -/
def MaxI (w : World) : Prop := ∃ m, w.cell? ⟨0, 0, none⟩ = some (.int .i64 m)
theorem maxI_bel {w w' : World} (h : MaxI w) (hb : Below w.heap.size w w') : MaxI w' := by
  obtain ⟨m, hm⟩ := h
  exact ⟨m, (hb.cell (World.block_lt_of_cell? _ _ hm)).trans hm⟩
theorem Row.litAll {e : Ty} (F : Flat e) (w : World) (te : TypeId) (x : List e.D) (hx : ∀ d ∈ x, F.ok d) (hl : x.length ≤ maxLen) {base : Nat} (hb : base ≤ w.heap.size) :
    Row F (w.alloc (.cells (x.map F.enc).toArray te)) base te (.slice (some ⟨w.heap.size, 0, none⟩) x.length x.length) x :=
  ⟨World.ownsRow_lit w (x.map F.enc).toArray x.length hb hl (by simp), hx⟩
theorem spl_len (c : UInt8) : ∀ s : List UInt8, (spl c s).length ≤ s.length + 1 ∧ ∀ a ∈ spl c s, a.length ≤ s.length
  | [] => ⟨by simp [spl], by simp [spl]⟩
  | b :: l => by
    obtain ⟨h1, h2⟩ := spl_len c l
    unfold spl
    split
    · refine ⟨by simp; omega, fun a ha => ?_⟩
      rcases List.mem_cons.1 ha with rfl | ha
      · simp
      · have := h2 a ha; simp; omega
    · split
      · rename_i x t hx
        rw [hx] at h1 h2
        refine ⟨by simp at h1 ⊢; omega, fun a ha => ?_⟩
        rcases List.mem_cons.1 ha with rfl | ha
        · have := h2 x (by simp); simp; omega
        · have := h2 a (by simp [ha]); simp; omega
      · exact ⟨by simp, by simp⟩
theorem run_tail (P : Program) (t : TypeId) (ht : P.underlying t = some .string) (s : List UInt8) (h : 1 ≤ s.length) (W : World) :
    (Instr.slice t (.string ⟨s.toArray⟩) (some (.int .i64 1)) none none).run P W = .ok (vS s.tail) W := by
  rw [run_slice_string_from_if (P := P) W t ⟨s.toArray⟩ .i64 1 ht]
  rw [if_pos ⟨by decide, by show (1 : Int) ≤ (s.toArray.size : Int); simp; omega⟩]
  show Result.ok (Value.string ((ByteArray.mk s.toArray).extract 1 (ByteArray.mk s.toArray).size)) W = _
  rw [ByteArray.extract_mk]
  have : (s.drop 1).take ((ByteArray.mk s.toArray).size - 1) = s.tail := by
    rw [List.take_of_length_le (by rw [List.length_drop]; show s.length - 1 ≤ s.toArray.size - 1; simp)]
    simp
  rw [this]
theorem C_Split (w : World) (s : List UInt8) (c : UInt8) (hs : s.length ≤ 1000000000) (hm : MaxI w) :
    Calls Tryd.prog 53 #[vS s, .string ⟨#[c]⟩] w (RetRow flatS w 9 (spl c s)) := by
  obtain ⟨m, hm⟩ := hm
  refine (strings_Split ⟨s.toArray⟩ ⟨#[c]⟩ m w (by show s.toArray.size < _; simp; omega) hm (Nat.le_refl 1)).mono ?_
  rintro e w' ⟨rfl, rfl⟩
  have hl := Lib.splitB_all ⟨#[c]⟩ (Nat.le_refl 1) 0 _ ⟨s.toArray⟩ rfl
  have hsp := splitB_spl c s.length s (Nat.le_refl _)
  generalize Lib.splitB ⟨#[c]⟩ 0 (Lib.countB ⟨s.toArray⟩ ⟨#[c]⟩) ⟨s.toArray⟩ = L at hl hsp ⊢
  have hn : Lib.countB ⟨s.toArray⟩ ⟨#[c]⟩ + 1 = (spl c s).length := by rw [← hsp, List.length_map, hl]
  have hv : L.map Value.string = (spl c s).map flatS.enc := by
    rw [← hsp, List.map_map]
    exact List.map_congr_left fun b _ => rfl
  obtain ⟨h1, h2⟩ := spl_len c s
  rw [hn, hv]
  exact ⟨_, rfl, Row.litAll flatS w _ _ (fun d hd => by have := h2 d hd; show d.length ≤ _; omega) (by unfold maxLen; omega) (Nat.le_refl _), (by repeat' (first | (with_reducible exact Below.refl _ _) | (with_reducible assumption) | (with_reducible refine bel_set ?_ (by (try dsimp only); omega) _) | (with_reducible refine bel_alloc ?_ _) | (with_reducible refine bel_drewN ?_ _) | (with_reducible refine bel_drew ?_)))⟩
theorem C_Cut (w : World) (s : List UInt8) (hs : s.length ≤ 1000000000) (hm : MaxI w) :
    Calls Tryd.prog 25 #[vS s, .string ⟨#[32, 60, 32]⟩] w (fun e w' => e = .returned (.tuple #[vS (Lib.cut s [32, 60, 32]).1, vS (Lib.cut s [32, 60, 32]).2.1, .bool (Lib.cut s [32, 60, 32]).2.2]) ∧ Below w.heap.size w w') := by
  obtain ⟨m, hm⟩ := hm
  refine (strings_Cut ⟨s.toArray⟩ ⟨#[32, 60, 32]⟩ m w (by show s.toArray.size < _; simp; omega) hm).mono ?_
  rintro e w' ⟨rfl, n, rfl⟩
  exact ⟨rfl, (by repeat' (first | (with_reducible exact Below.refl _ _) | (with_reducible assumption) | (with_reducible refine bel_set ?_ (by (try dsimp only); omega) _) | (with_reducible refine bel_alloc ?_ _) | (with_reducible refine bel_drewN ?_ _) | (with_reducible refine bel_drew ?_)))⟩
set_option maxHeartbeats 1000000 in
theorem C_impl_partsIn (w : World) (s : List UInt8) (hs : s.length ≤ 1000000000) (hm : MaxI w) :
    Calls Tryd.prog 41 #[vS s] w (RetRow flatS w 9 (partsIn s)) := by
  by_cases h0 : s = []
  · subst h0
    go_enter Tryd.func41, Tryd.ntmps41
    go_wp2
    go_ret
    exact ⟨_, rfl, Row.nil _ _ _ _, Below.refl _ _⟩
  by_cases h1 : s = [47]
  · subst h1
    go_enter Tryd.func41, Tryd.ntmps41
    go_wp2
    go_ret
    exact ⟨_, rfl, Row.nil _ _ _ _, Below.refl _ _⟩
  have HP : Hid (partsIn s = spl 47 s.tail) := by unfold Hid partsIn; rw [if_neg (by simp [h0, h1])]
  have q0 : s.isEmpty = false := by cases s with | nil => exact absurd rfl h0 | cons a l => rfl
  have q1 : (s == [47]) = false := by simp [h1]
  have hl : 1 ≤ s.length := by cases s with | nil => exact absurd rfl h0 | cons a l => simp
  have htl : s.tail.length ≤ 1000000000 := by rw [List.length_tail]; omega
  have hap : ∀ W : World, (Instr.slice 9 (.string ⟨s.toArray⟩) (some (.int .i64 1)) none none).run Tryd.prog W = .ok (vS s.tail) W := fun W => run_tail _ _ Tryd.underlying9 s hl W
  go_enter Tryd.func41, Tryd.ntmps41
  go_wp2_with fail
  refine (C_Split _ s.tail 47 htl hm).mono ?_
  rw [← HP.out]
  rintro e w1 ⟨v1, rfl, hr1, hb1⟩
  go_wp2
  go_ret
  exact ⟨_, rfl, hr1, hb1⟩
theorem ppI_no {s : List UInt8} (h : (validPat (partsIn s) && decide (fmtP (partsIn s) = s)) = false) : ppI s = ([], false) := by unfold ppI; rw [h]; rfl
theorem ppI_yes {s : List UInt8} (h : (validPat (partsIn s) && decide (fmtP (partsIn s) = s)) = true) : ppI s = (partsIn s, true) := by unfold ppI; rw [if_pos h]
set_option maxHeartbeats 2000000 in
theorem C_impl_ParsePattern (w : World) (s : List UInt8) (hs : s.length ≤ 1000000000) (hm : MaxI w) :
    Calls Tryd.prog 26 #[vS s] w (RetAgg2 w (.sl .str) (ppI s).1 (.bool (ppI s).2)) := by
  have HNO := Lib.hid (fun h => ppI_no (s := s) h)
  have HYES := Lib.hid (fun h => ppI_yes (s := s) h)
  have hcall : Calls Tryd.prog 41 #[vS s] (w.alloc (.cells #[.slice none 0 0] 35)) (RetRow flatS (w.alloc (.cells #[.slice none 0 0] 35)) 9 (partsIn s)) := C_impl_partsIn _ s hs (maxI_bel hm (by repeat' (first | (with_reducible exact Below.refl _ _) | (with_reducible assumption) | (with_reducible refine bel_set ?_ (by (try dsimp only); omega) _) | (with_reducible refine bel_alloc ?_ _) | (with_reducible refine bel_drewN ?_ _) | (with_reducible refine bel_drew ?_))))
  generalize ppI s = F at HNO HYES ⊢
  generalize partsIn s = p at HNO HYES hcall
  go_enter Tryd.func26, Tryd.ntmps26
  go_wp2_with fail
  refine hcall.mono ?_
  rintro e w1 ⟨v1, rfl, hr1, hb1⟩
  obtain ⟨A1, c1, fp1, rfl, how1, hfr1⟩ := hr1.own hb1.size
  have hw1 : Below w.heap.size w w1 := bel_trans (by repeat' (first | (with_reducible exact Below.refl _ _) | (with_reducible assumption) | (with_reducible refine bel_set ?_ (by (try dsimp only); omega) _) | (with_reducible refine bel_alloc ?_ _) | (with_reducible refine bel_drewN ?_ _) | (with_reducible refine bel_drew ?_))) hb1
  have hB1 : Blk w1 w.heap.size 35 #[.slice none 0 0] := (Blk.new w _ _).below hb1 (by rw [World.size_alloc]; omega)
  have k1 : w1.cell? ⟨w.heap.size, 0, none⟩ = some (.slice none 0 0) := hB1.cell 0
  have f1 : w1.frozen? ⟨w.heap.size, 0, none⟩ = false := hB1.frozen 0
  have z1 : w.heap.size < w1.heap.size := hB1.lt
  clear hr1 hcall
  go_wp2_with fail
  refine (C_impl_ValidPattern _ _ p (Ty.rd_below (by repeat' (first | (with_reducible exact Below.refl _ _) | (with_reducible assumption) | (with_reducible refine bel_set ?_ (by (try dsimp only); omega) _) | (with_reducible refine bel_alloc ?_ _) | (with_reducible refine bel_drewN ?_ _) | (with_reducible refine bel_drew ?_))) (Ty.ow_rd how1))).mono ?_
  rintro e w2 ⟨rfl, hb2⟩
  have hs1 := hb1.size
  have hs2 := hb2.size
  simp only [World.size_alloc] at hs2
  have hw2 : Below w.heap.size w w2 := bel_trans (bel_alloc hw1 _) hb2
  have hB2 : Blk w2 w.heap.size 35 #[.slice none 0 0] := (hB1.alloc _).below hb2 (by rw [World.size_alloc]; omega)
  have hP2 : Blk w2 w1.heap.size 35 #[.slice A1 p.length c1] := (Blk.new w1 _ _).below hb2 (by rw [World.size_alloc]; omega)
  have k2 : w2.cell? ⟨w.heap.size, 0, none⟩ = some (.slice none 0 0) := hB2.cell 0
  have f2 : w2.frozen? ⟨w.heap.size, 0, none⟩ = false := hB2.frozen 0
  have j2 : w2.cell? ⟨w1.heap.size, 0, none⟩ = some (.slice A1 p.length c1) := hP2.cell 0
  have z2 : w.heap.size < w2.heap.size := hB2.lt
  have y2 : w1.heap.size < w2.heap.size := hP2.lt
  clear k1 f1
  cases hv : validPat p with
  | false =>
    have HN := Lib.hid (HNO.out (by rw [hv]; rfl))
    go_wp2
    refine bodyPost_ret (v := .tuple #[.agg #[.slice none 0 0], .bool false]) (by simp [results, Tryd.results26, go_sem, k2, f2, z2]) rfl ?_
    rw [HN.out]
    exact ⟨[.slice none 0 0], [], rfl, rd_ow_nil _ _, FrI.nil _ _, (by repeat' (first | (with_reducible exact Below.refl _ _) | (with_reducible assumption) | (with_reducible refine bel_set ?_ (by (try dsimp only); omega) _) | (with_reducible refine bel_alloc ?_ _) | (with_reducible refine bel_drewN ?_ _) | (with_reducible refine bel_drew ?_)))⟩
  | true =>
    have hbk := validPat_bulk hv
    have HV := Lib.hid hv
    clear hv
    go_wp2_with fail
    refine (C_impl_FormatPattern _ _ p (Ty.rd_below (bel_trans (by repeat' (first | (with_reducible exact Below.refl _ _) | (with_reducible assumption) | (with_reducible refine bel_set ?_ (by (try dsimp only); omega) _) | (with_reducible refine bel_alloc ?_ _) | (with_reducible refine bel_drewN ?_ _) | (with_reducible refine bel_drew ?_))) hb2) (Ty.ow_rd how1)) (by omega)).mono ?_
    rintro e w3 ⟨rfl, hb3⟩
    have hs3 := hb3.size
    have hw3 : Below w.heap.size w w3 := bel_trans hw2 hb3
    have k3 : w3.cell? ⟨w.heap.size, 0, none⟩ = some (.slice none 0 0) := (hB2.below hb3 z2).cell 0
    have f3 : w3.frozen? ⟨w.heap.size, 0, none⟩ = false := (hB2.below hb3 z2).frozen 0
    have j3 : w3.cell? ⟨w1.heap.size, 0, none⟩ = some (.slice A1 p.length c1) := (hP2.below hb3 y2).cell 0
    have z3 : w.heap.size < w3.heap.size := by omega
    have y3 : w1.heap.size < w3.heap.size := by omega
    clear k2 f2 j2
    by_cases hq : fmtP p = s
    · have HY := Lib.hid (HYES.out (by rw [HV.out, hq]; simp))
      have q0 : (fmtP p == s) = true := by simp [hq]
      clear hq
      go_wp2
      refine bodyPost_ret (v := .tuple #[.agg #[.slice A1 p.length c1], .bool true]) (by simp [results, Tryd.results26, go_sem, k3, f3, z3]) rfl ?_
      rw [HY.out]
      exact ⟨[.slice A1 p.length c1], fp1, rfl, Ty.ow_keep (by intro b hb'; have hb'' := (hfr1).2 b hb'; (try simp only [World.size_alloc, World.size_setCell, size_drewN, World.size_drew] at hb''); repeat (first | (with_reducible rfl) | (rw [Below.heap_setCell _ _ _ _ (by (try dsimp only); omega)]) | (rw [Below.heap_alloc _ _ _ (by (try simp only [World.size_alloc, World.size_setCell]); omega)]) | (rw [hb3.block _ (by (try simp only [World.size_alloc, World.size_setCell, size_drewN, World.size_drew]); omega)]) | (rw [hb2.block _ (by (try simp only [World.size_alloc, World.size_setCell, size_drewN, World.size_drew]); omega)]))) how1, hfr1.mono (by (try simp only [World.size_alloc, World.size_setCell, size_drewN, World.size_drew]); omega) (by (try simp only [World.size_alloc, World.size_setCell, size_drewN, World.size_drew]); omega), (by repeat' (first | (with_reducible exact Below.refl _ _) | (with_reducible assumption) | (with_reducible refine bel_set ?_ (by (try dsimp only); omega) _) | (with_reducible refine bel_alloc ?_ _) | (with_reducible refine bel_drewN ?_ _) | (with_reducible refine bel_drew ?_)))⟩
    · have HN := Lib.hid (HNO.out (by rw [HV.out]; simp [hq]))
      have q0 : (fmtP p == s) = false := by simp [hq]
      clear hq
      go_wp2
      refine bodyPost_ret (v := .tuple #[.agg #[.slice none 0 0], .bool false]) (by simp [results, Tryd.results26, go_sem, k3, f3, z3]) rfl ?_
      rw [HN.out]
      exact ⟨[.slice none 0 0], [], rfl, rd_ow_nil _ _, FrI.nil _ _, (by repeat' (first | (with_reducible exact Below.refl _ _) | (with_reducible assumption) | (with_reducible refine bel_set ?_ (by (try dsimp only); omega) _) | (with_reducible refine bel_alloc ?_ _) | (with_reducible refine bel_drewN ?_ _) | (with_reducible refine bel_drew ?_)))⟩
theorem prI_no {s : List UInt8} {a b : List (List UInt8) × Bool} (ha : a = ppI (Lib.cut s [32, 60, 32]).1) (hb : b = ppI (Lib.cut s [32, 60, 32]).2.1) (h : (a.2 && b.2 && validRule (ruleOf a b) && decide (f_FormatRule (ruleOf a b) = s)) = false) : prI s = (([], []), false) := by
  subst ha; subst hb; unfold prI; rw [h]; rfl
theorem prI_yes {s : List UInt8} {a b : List (List UInt8) × Bool} (ha : a = ppI (Lib.cut s [32, 60, 32]).1) (hb : b = ppI (Lib.cut s [32, 60, 32]).2.1) (h : (a.2 && b.2 && validRule (ruleOf a b) && decide (f_FormatRule (ruleOf a b) = s)) = true) : prI s = (ruleOf a b, true) := by
  subst ha; subst hb; unfold prI; rw [if_pos h]
theorem cut_len (s sep : List UInt8) : (Lib.cut s sep).1.length ≤ s.length ∧ (Lib.cut s sep).2.1.length ≤ s.length := by
  unfold Lib.cut
  split
  · refine ⟨by show (s.take _).length ≤ _; rw [List.length_take]; omega, by show (s.drop _).length ≤ _; rw [List.length_drop]; omega⟩
  · exact ⟨Nat.le_refl _, by simp⟩
theorem ppI_bulk (s : List UInt8) : Ty.bulk (.sl .str) (ppI s).1 ≤ 60 := by
  rcases ppI_cases s with e | ⟨e, h1, _⟩
  · rw [e]; exact Nat.zero_le _
  · rw [e]; exact validPat_bulk h1
theorem rd_Rule_mk {w : World} {x : tRule.D} {v0 v1 : Value} (h0 : (Ty.sl .str).rd w [v0] x.1) (h1 : (Ty.sl .str).rd w [v1] x.2) : tRule.rd w [v0, v1] x := ⟨[v0], [v1], rfl, h0, h1⟩
set_option maxHeartbeats 4000000 in
theorem C_impl_ParseRule (w : World) (s : List UInt8) (hs : s.length ≤ 1000000000) (hm : MaxI w) :
    Calls Tryd.prog 11 #[vS s] w (RetAgg2 w tRule (prI s).1 (.bool (prI s).2)) := by
  obtain ⟨hl1, hl2⟩ := cut_len s [32, 60, 32]
  have hcut := fun W (h : MaxI W) => C_Cut W s hs h
  generalize hd : (Lib.cut s [32, 60, 32]).1 = d at hl1 hcut
  generalize hk : (Lib.cut s [32, 60, 32]).2.1 = k at hl2 hcut
  generalize (Lib.cut s [32, 60, 32]).2.2 = fnd at hcut
  have hp1 := fun W (h : MaxI W) => C_impl_ParsePattern W d (by omega) h
  have hp2 := fun W (h : MaxI W) => C_impl_ParsePattern W k (by omega) h
  have hb1 := ppI_bulk d
  have hb2 := ppI_bulk k
  have HNO := Lib.hid (fun a b (ha : a = ppI d) (hb : b = ppI k) h => prI_no (s := s) (a := a) (b := b) (by rw [hd]; exact ha) (by rw [hk]; exact hb) h)
  have HYES := Lib.hid (fun a b (ha : a = ppI d) (hb : b = ppI k) h => prI_yes (s := s) (a := a) (b := b) (by rw [hd]; exact ha) (by rw [hk]; exact hb) h)
  generalize ppI d = a at hp1 hb1 HNO HYES
  generalize ppI k = b at hp2 hb2 HNO HYES
  have HNO := Lib.hid (fun h => HNO.out a b rfl rfl h)
  have HYES := Lib.hid (fun h => HYES.out a b rfl rfl h)
  have hbk : Ty.bulk tRule (ruleOf a b) ≤ 1048576 := by show Ty.bulk (.sl .str) a.1 + Ty.bulk (.sl .str) b.1 ≤ _; omega
  generalize prI s = F at HNO HYES ⊢
  clear hd hk hl1 hl2
  go_enter Tryd.func11, Tryd.ntmps11
  go_wp2_with fail
  refine (hcut _ (maxI_bel hm (by repeat' (first | (with_reducible exact Below.refl _ _) | (with_reducible assumption) | (with_reducible refine bel_set ?_ (by (try dsimp only); omega) _) | (with_reducible refine bel_alloc ?_ _) | (with_reducible refine bel_drewN ?_ _) | (with_reducible refine bel_drew ?_))))).mono ?_
  rintro e w1 ⟨rfl, hb1'⟩
  have hB1 : Blk w1 w.heap.size 37 #[.slice none 0 0, .slice none 0 0] := (Blk.new w _ _).below hb1' (by rw [World.size_alloc]; omega)
  have hw1 : Below w.heap.size w w1 := bel_trans (by repeat' (first | (with_reducible exact Below.refl _ _) | (with_reducible assumption) | (with_reducible refine bel_set ?_ (by (try dsimp only); omega) _) | (with_reducible refine bel_alloc ?_ _) | (with_reducible refine bel_drewN ?_ _) | (with_reducible refine bel_drew ?_))) hb1'
  have z1 := hB1.lt
  go_wp2_with fail
  refine (hp1 _ (maxI_bel hm hw1)).mono ?_
  rintro e w2 ⟨cs2, fp2, rfl, how2, hfr2, hb2'⟩
  obtain ⟨A2, c2, rfl⟩ := Ty.ow_slv how2
  have hB2 := hB1.below hb2' z1
  have hw2 : Below w.heap.size w w2 := bel_trans hw1 hb2'
  go_wp2_with fail
  refine (hp2 _ (maxI_bel hm (by repeat' (first | (with_reducible exact Below.refl _ _) | (with_reducible assumption) | (with_reducible refine bel_set ?_ (by (try dsimp only); omega) _) | (with_reducible refine bel_alloc ?_ _) | (with_reducible refine bel_drewN ?_ _) | (with_reducible refine bel_drew ?_))))).mono ?_
  rintro e w3 ⟨cs3, fp3, rfl, how3, hfr3, hb3'⟩
  obtain ⟨A3, c3, rfl⟩ := Ty.ow_slv how3
  have hs1 := hb1'.size
  have hs2 := hb2'.size
  have hs3 := hb3'.size
  simp only [World.size_alloc] at hs1 hs3 hfr3
  have hw3 : Below w.heap.size w w3 := bel_trans (bel_alloc hw2 _) hb3'
  have hB3 : Blk w3 w.heap.size 37 #[.slice none 0 0, .slice none 0 0] := (hB2.alloc _).below hb3' (by rw [World.size_alloc]; omega)
  have hP3 : Blk w3 w2.heap.size 35 #[.slice A2 a.1.length c2] := (Blk.new w2 _ _).below hb3' (by rw [World.size_alloc]; omega)
  have k30 : w3.cell? ⟨w.heap.size, 0, none⟩ = some (.slice none 0 0) := hB3.cell 0
  have k31 : w3.cell? ⟨w.heap.size, 1, none⟩ = some (.slice none 0 0) := hB3.cell 1
  have f30 : w3.frozen? ⟨w.heap.size, 0, none⟩ = false := hB3.frozen 0
  have f31 : w3.frozen? ⟨w.heap.size, 1, none⟩ = false := hB3.frozen 1
  have j3 : w3.cell? ⟨w2.heap.size, 0, none⟩ = some (.slice A2 a.1.length c2) := hP3.cell 0
  have z3 : w.heap.size < w3.heap.size := by omega
  have y3 : w2.heap.size < w3.heap.size := by omega
  have how2' : (Ty.sl .str).ow w3 [.slice A2 a.1.length c2] a.1 fp2 := Ty.ow_keep (by intro b hb'; have hb'' := (hfr2).2 b hb'; (try simp only [World.size_alloc, World.size_setCell, size_drewN, World.size_drew] at hb''); repeat (first | (with_reducible rfl) | (rw [Below.heap_setCell _ _ _ _ (by (try dsimp only); omega)]) | (rw [Below.heap_alloc _ _ _ (by (try simp only [World.size_alloc, World.size_setCell]); omega)]) | (rw [hb3'.block _ (by (try simp only [World.size_alloc, World.size_setCell, size_drewN, World.size_drew]); omega)]))) how2
  clear hcut hp1 hp2
  cases qa : a.2 with
  | false =>
    have HN := Lib.hid (HNO.out (by rw [qa]; rfl))
    go_wp2
    refine bodyPost_ret (v := .tuple #[.agg #[.slice none 0 0, .slice none 0 0], .bool false]) (by simp [results, Tryd.results11, go_sem, k30, k31, f30, f31, z3]) rfl ?_
    rw [HN.out]
    exact ⟨[.slice none 0 0, .slice none 0 0], [] ++ [], rfl, ⟨[.slice none 0 0], [.slice none 0 0], [], [], rfl, rfl, rd_ow_nil _ _, rd_ow_nil _ _⟩, FrI.nil _ _, (by repeat' (first | (with_reducible exact Below.refl _ _) | (with_reducible assumption) | (with_reducible refine bel_set ?_ (by (try dsimp only); omega) _) | (with_reducible refine bel_alloc ?_ _) | (with_reducible refine bel_drewN ?_ _) | (with_reducible refine bel_drew ?_)))⟩
  | true =>
    cases qb : b.2 with
    | false =>
      have HN := Lib.hid (HNO.out (by rw [qa, qb]; rfl))
      go_wp2
      refine bodyPost_ret (v := .tuple #[.agg #[.slice none 0 0, .slice none 0 0], .bool false]) (by simp [results, Tryd.results11, go_sem, k30, k31, f30, f31, z3]) rfl ?_
      rw [HN.out]
      exact ⟨[.slice none 0 0, .slice none 0 0], [] ++ [], rfl, ⟨[.slice none 0 0], [.slice none 0 0], [], [], rfl, rfl, rd_ow_nil _ _, rd_ow_nil _ _⟩, FrI.nil _ _, (by repeat' (first | (with_reducible exact Below.refl _ _) | (with_reducible assumption) | (with_reducible refine bel_set ?_ (by (try dsimp only); omega) _) | (with_reducible refine bel_alloc ?_ _) | (with_reducible refine bel_drewN ?_ _) | (with_reducible refine bel_drew ?_)))⟩
    | true =>
      go_wp2_with fail
      refine (C_impl_ValidRule _ _ (ruleOf a b) (rd_Rule_mk (Ty.rd_below (by repeat' (first | (with_reducible exact Below.refl _ _) | (with_reducible assumption) | (with_reducible refine bel_set ?_ (by (try dsimp only); omega) _) | (with_reducible refine bel_alloc ?_ _) | (with_reducible refine bel_drewN ?_ _) | (with_reducible refine bel_drew ?_))) (Ty.ow_rd how2')) (Ty.rd_below (by repeat' (first | (with_reducible exact Below.refl _ _) | (with_reducible assumption) | (with_reducible refine bel_set ?_ (by (try dsimp only); omega) _) | (with_reducible refine bel_alloc ?_ _) | (with_reducible refine bel_drewN ?_ _) | (with_reducible refine bel_drew ?_))) (Ty.ow_rd how3))) hbk).mono ?_
      rintro e w4 ⟨rfl, hb4⟩
      have hs4 := hb4.size
      simp only [World.size_alloc] at hs4
      have hw4 : Below w.heap.size w w4 := bel_trans (bel_alloc (bel_alloc hw3 _) _) hb4
      have hx4 : Below w3.heap.size w3 w4 := bel_trans (bel_alloc (bel_alloc (Below.refl _ _) _) _) hb4
      have hB4 := hB3.below hx4 z3
      have hR4 : Blk w4 (w3.heap.size + 1) 37 #[.slice A2 a.1.length c2, .slice A3 b.1.length c3] := by
        have := (Blk.new (w3.alloc (.cells #[.slice A3 b.1.length c3] 35)) 37 #[.slice A2 a.1.length c2, .slice A3 b.1.length c3]).below hb4 (by simp only [World.size_alloc]; omega)
        rwa [World.size_alloc] at this
      have k40 : w4.cell? ⟨w.heap.size, 0, none⟩ = some (.slice none 0 0) := hB4.cell 0
      have k41 : w4.cell? ⟨w.heap.size, 1, none⟩ = some (.slice none 0 0) := hB4.cell 1
      have f40 : w4.frozen? ⟨w.heap.size, 0, none⟩ = false := hB4.frozen 0
      have f41 : w4.frozen? ⟨w.heap.size, 1, none⟩ = false := hB4.frozen 1
      have r40 : w4.cell? ⟨w3.heap.size + 1, 0, none⟩ = some (.slice A2 a.1.length c2) := hR4.cell 0
      have r41 : w4.cell? ⟨w3.heap.size + 1, 1, none⟩ = some (.slice A3 b.1.length c3) := hR4.cell 1
      have z4 : w.heap.size < w4.heap.size := by omega
      have y4 : w3.heap.size + 1 < w4.heap.size := by omega
      clear k30 k31 f30 f31 j3
      cases qv : validRule (ruleOf a b) with
      | false =>
        have HN := Lib.hid (HNO.out (by rw [qa, qb, qv]; rfl))
        go_wp2
        refine bodyPost_ret (v := .tuple #[.agg #[.slice none 0 0, .slice none 0 0], .bool false]) (by simp [results, Tryd.results11, go_sem, k40, k41, f40, f41, z4]) rfl ?_
        rw [HN.out]
        exact ⟨[.slice none 0 0, .slice none 0 0], [] ++ [], rfl, ⟨[.slice none 0 0], [.slice none 0 0], [], [], rfl, rfl, rd_ow_nil _ _, rd_ow_nil _ _⟩, FrI.nil _ _, (by repeat' (first | (with_reducible exact Below.refl _ _) | (with_reducible assumption) | (with_reducible refine bel_set ?_ (by (try dsimp only); omega) _) | (with_reducible refine bel_alloc ?_ _) | (with_reducible refine bel_drewN ?_ _) | (with_reducible refine bel_drew ?_)))⟩
      | true =>
        have HV := Lib.hid qv
        clear qv
        go_wp2_with fail
        refine (C_impl_FormatRule _ _ (ruleOf a b) (rd_Rule_mk (Ty.rd_below hx4 (Ty.ow_rd how2')) (Ty.rd_below hx4 (Ty.ow_rd how3))) hbk).mono ?_
        rintro e w5 ⟨rfl, hb5⟩
        have hs5 := hb5.size
        have hw5 : Below w.heap.size w w5 := bel_trans hw4 hb5
        have hB5 := hB4.below hb5 z4
        have hR5 := hR4.below hb5 y4
        have k50 : w5.cell? ⟨w.heap.size, 0, none⟩ = some (.slice none 0 0) := hB5.cell 0
        have k51 : w5.cell? ⟨w.heap.size, 1, none⟩ = some (.slice none 0 0) := hB5.cell 1
        have f50 : w5.frozen? ⟨w.heap.size, 0, none⟩ = false := hB5.frozen 0
        have f51 : w5.frozen? ⟨w.heap.size, 1, none⟩ = false := hB5.frozen 1
        have r50 : w5.cell? ⟨w3.heap.size + 1, 0, none⟩ = some (.slice A2 a.1.length c2) := hR5.cell 0
        have r51 : w5.cell? ⟨w3.heap.size + 1, 1, none⟩ = some (.slice A3 b.1.length c3) := hR5.cell 1
        have z5 : w.heap.size < w5.heap.size := by omega
        have y5 : w3.heap.size + 1 < w5.heap.size := by omega
        clear k40 k41 f40 f41 r40 r41
        have hx5 : Below w3.heap.size w3 w5 := bel_trans hx4 hb5
        by_cases hq : f_FormatRule (ruleOf a b) = s
        · have HY := Lib.hid (HYES.out (by rw [qa, qb, HV.out, hq]; simp))
          have q0 : (f_FormatRule (ruleOf a b) == s) = true := by simp [hq]
          clear hq
          go_wp2
          refine bodyPost_ret (v := .tuple #[.agg #[.slice A2 a.1.length c2, .slice A3 b.1.length c3], .bool true]) (by simp [results, Tryd.results11, go_sem, k50, k51, f50, f51, z5]) rfl ?_
          rw [HY.out]
          exact ⟨[.slice A2 a.1.length c2, .slice A3 b.1.length c3], fp2 ++ fp3, rfl, ⟨[.slice A2 a.1.length c2], [.slice A3 b.1.length c3], fp2, fp3, rfl, rfl, Ty.ow_keep (by intro b hb'; have hb'' := (hfr2).2 b hb'; (try simp only [World.size_alloc, World.size_setCell, size_drewN, World.size_drew] at hb''); repeat (first | (with_reducible rfl) | (rw [Below.heap_setCell _ _ _ _ (by (try dsimp only); omega)]) | (rw [Below.heap_alloc _ _ _ (by (try simp only [World.size_alloc, World.size_setCell]); omega)]) | (rw [hx5.block _ (by (try simp only [World.size_alloc, World.size_setCell, size_drewN, World.size_drew]); omega)]) | (rw [hb3'.block _ (by (try simp only [World.size_alloc, World.size_setCell, size_drewN, World.size_drew]); omega)]))) how2', Ty.ow_keep (by intro b hb'; have hb'' := (hfr3).2 b hb'; (try simp only [World.size_alloc, World.size_setCell, size_drewN, World.size_drew] at hb''); repeat (first | (with_reducible rfl) | (rw [Below.heap_setCell _ _ _ _ (by (try dsimp only); omega)]) | (rw [Below.heap_alloc _ _ _ (by (try simp only [World.size_alloc, World.size_setCell]); omega)]) | (rw [hx5.block _ (by (try simp only [World.size_alloc, World.size_setCell, size_drewN, World.size_drew]); omega)]))) how3⟩, FrI.app (hfr2.mono (by (try simp only [World.size_alloc, World.size_setCell, size_drewN, World.size_drew]); omega) (Nat.le_refl _)) (hfr3.mono (Nat.le_refl _) (by (try simp only [World.size_alloc, World.size_setCell, size_drewN, World.size_drew]); omega)) (by (try simp only [World.size_alloc, World.size_setCell, size_drewN, World.size_drew]); omega) (by (try simp only [World.size_alloc, World.size_setCell, size_drewN, World.size_drew]); omega) (by (try simp only [World.size_alloc, World.size_setCell, size_drewN, World.size_drew]); omega), (by repeat' (first | (with_reducible exact Below.refl _ _) | (with_reducible assumption) | (with_reducible refine bel_set ?_ (by (try dsimp only); omega) _) | (with_reducible refine bel_alloc ?_ _) | (with_reducible refine bel_drewN ?_ _) | (with_reducible refine bel_drew ?_)))⟩
        · have HN := Lib.hid (HNO.out (by rw [qa, qb, HV.out]; simp [hq]))
          have q0 : (f_FormatRule (ruleOf a b) == s) = false := by simp [hq]
          clear hq
          go_wp2
          refine bodyPost_ret (v := .tuple #[.agg #[.slice none 0 0, .slice none 0 0], .bool false]) (by simp [results, Tryd.results11, go_sem, k50, k51, f50, f51, z5]) rfl ?_
          rw [HN.out]
          exact ⟨[.slice none 0 0, .slice none 0 0], [] ++ [], rfl, ⟨[.slice none 0 0], [.slice none 0 0], [], [], rfl, rfl, rd_ow_nil _ _, rd_ow_nil _ _⟩, FrI.nil _ _, (by repeat' (first | (with_reducible exact Below.refl _ _) | (with_reducible assumption) | (with_reducible refine bel_set ?_ (by (try dsimp only); omega) _) | (with_reducible refine bel_alloc ?_ _) | (with_reducible refine bel_drewN ?_ _) | (with_reducible refine bel_drew ?_)))⟩
end Go.Proofs.YtpjnidfdkggpfaaDoor
