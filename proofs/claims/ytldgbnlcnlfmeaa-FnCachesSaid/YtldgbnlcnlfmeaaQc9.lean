/- Texts of this claim, merged by a program: Psp Asn Pnm Nmd Nmn Dow. -/
import Derived.Test.YtldgbnlcnlfmeaaQcP
import Derived.Test.YtldgbnlcnlfmeaaQc8
import Derived.Test.YtldgbnlcnlfmeaaQc0
import Derived.Test.YtldgbnlcnlfmeaaQc1
import Derived.WalkSpells
import Derived.Test.YtldgbnlcnlfmeaaQc2
import Derived.Deep.RegionHeld3
namespace Go.Proofs.Ytldgbnlcnlfmeaa
open Go.RowKit
set_option linter.unusedVariables false
set_option linter.unusedSimpArgs false
def splAt (c : UInt8) (s : List UInt8) (k f : Nat) (acc : List (List UInt8)) : Prop :=
 (k ≤ s.length ∧ f ≤ k ∧ acc.length ≤ k ∧ acc ++ spl c (s.drop f) = spl c s ∧ c ∉ (s.drop f).take (k - f)) ∨ (k = s.length + 1 ∧ f ≤ k ∧ acc.length ≤ k ∧ acc = spl c s)
theorem splAt_start (c : UInt8) (s : List UInt8) : splAt c s 0 0 [] := .inl ⟨by omega, by omega, by simp, by simp, by simp⟩
theorem splAt_no {c : UInt8} {s : List UInt8} {k f : Nat} {acc : List (List UInt8)} (h : splAt c s k f acc) (hk : k < s.length) (hc : ¬ s[k] = c) : splAt c s (k + 1) f acc := by
 rcases h with ⟨h1, h2, h3, h4, h5⟩ | ⟨h1, _⟩
 ·refine .inl ⟨by omega, by omega, by omega, h4, ?_⟩
  have hd : k - f < (s.drop f).length := by rw [List.length_drop]; omega
  rw [show k + 1 - f = (k - f) + 1 from by omega, List.take_succ_eq_append_getElem hd]
  intro hm
  rcases List.mem_append.1 hm with hm | hm
  ·exact h5 hm
  ·have : (s.drop f)[k - f] = s[k] := by rw [List.getElem_drop]; congr 1; omega
   rw [this] at hm
   exact hc (by simpa using (List.mem_singleton.1 hm).symm)
 ·omega
theorem splAt_yes {c : UInt8} {s : List UInt8} {k f : Nat} {acc : List (List UInt8)} (h : splAt c s k f acc) (hk : k < s.length) (hc : s[k] = c) : splAt c s (k + 1) (k + 1) (acc ++ [(s.drop f).take (k - f)]) := by
 rcases h with ⟨h1, h2, h3, h4, h5⟩ | ⟨h1, _⟩
 ·refine .inl ⟨by omega, by omega, by simp; omega, ?_, by simp⟩
  have hd : k - f < (s.drop f).length := by rw [List.length_drop]; omega
  have e : s.drop f = (s.drop f).take (k - f) ++ c :: s.drop (k + 1) := by
   conv => lhs; rw [← List.take_append_drop (k - f) (s.drop f)]
   congr 1
   rw [List.drop_eq_getElem_cons hd, List.drop_drop, List.getElem_drop]
   congr 1
   ·rw [← hc]; congr 1; omega
   ·congr 1; omega
  rw [e, spl_app _ h5] at h4
  rw [← h4, List.append_assoc]; rfl
 ·omega
theorem splAt_end {c : UInt8} {s : List UInt8} {f : Nat} {acc : List (List UInt8)} (h : splAt c s s.length f acc) : splAt c s (s.length + 1) (s.length + 1) (acc ++ [(s.drop f).take (s.length - f)]) := by
 rcases h with ⟨h1, h2, h3, h4, h5⟩ | ⟨h1, _⟩
 ·refine .inr ⟨rfl, by omega, by simp; omega, ?_⟩
  rw [List.take_of_length_le (by rw [List.length_drop]; omega)] at h5 ⊢
  rw [← h4, spl_notin h5]
 ·omega
theorem splAt_bd {c : UInt8} {s : List UInt8} {k f : Nat} {acc : List (List UInt8)} (h : splAt c s k f acc) : k ≤ s.length + 1 ∧ f ≤ k ∧ acc.length ≤ k := by
 rcases h with ⟨h1, h2, h3, _⟩ | ⟨h1, h2, h3, _⟩
 ·exact ⟨by omega, h2, h3⟩
 ·exact ⟨by omega, h2, h3⟩
theorem splAt_done {c : UInt8} {s : List UInt8} {k f : Nat} {acc : List (List UInt8)} (h : splAt c s k f acc) (hk : ¬ k ≤ s.length) : acc = spl c s := by
 rcases h with ⟨h1, _⟩ | ⟨_, _, _, h1⟩
 ·omega
 ·exact h1
theorem run_sub (P : Program) (t : TypeId) (ht : P.underlying t = some .string) (s : List UInt8) (a b : Nat) (h : a ≤ b) (hb : b ≤ s.length) (W : World) :
  (Instr.slice t (.string ⟨s.toArray⟩) (some (.int .i64 a)) (some (.int .i64 b)) none).run P W = .ok (vS ((s.drop a).take (b - a))) W := by
 have := run_slice_string (P := P) W t ⟨s.toArray⟩ .i64 .i64 a b ht b_34 b_34 (by show (b : Int) ≤ (s.toArray.size : Int); simp; omega)
 rw [this]
 show Result.ok (Value.string ((ByteArray.mk s.toArray).extract a b)) W = _
 rw [ByteArray.extract_mk]
set_option maxHeartbeats 4000000 in
theorem C_spec_l4Split (w : World) (s : List UInt8) (c : UInt8) (hs : s.length ≤ 1000000000) :
  Calls Try.prog 170 #[vS s, .int .u8 (c.toNat : Int)] w (RetRow flatS w 9 (spl c s)) := by
 go_enter Try.func170, Try.ntmps170
 go_wp2
 go_loopw [5, 6, 7] (fun vv fr i wr => ∃ (k f : Nat) (acc : List (List UInt8)), i = .int .i64 k ∧ fr = .int .i64 f ∧ Row flatS wr w.heap.size 9 vv acc ∧ Hid (splAt c s k f acc) ∧ Below w.heap.size w wr) (fun _ _ i _ => s.length + 1 - (intOf i).toNat)
 case atStart => exact ⟨0, 0, [], by first | rfl | simp, by first | rfl | simp, Row.lit0 flatS w _ (Nat.le_refl _), Lib.hid (splAt_start c s), b_6⟩
 case round =>
  obtain ⟨k, f, acc, rfl, rfl, hr, hA, hb⟩ := hrel
  have HRow := Lib.hid hr
  obtain ⟨h1, h2, h3⟩ := splAt_bd hA.out
  clear hr
  by_cases hle : k ≤ s.length
  ·have hap : ∀ (W : World), (Instr.slice 9 (.string ⟨s.toArray⟩) (some (.int .i64 f)) (some (.int .i64 k)) none).run Try.prog W = .ok (vS ((s.drop f).take (k - f))) W := fun W => run_sub _ _ Try.underlying9 s f k h2 hle W
   have HX : Hid (((s.drop f).take (k - f)).length ≤ 9223372036854775807) := by unfold Hid; rw [List.length_take, List.length_drop]; omega
   generalize hxx : (s.drop f).take (k - f) = x at hap HX
   have HLX := Lib.hid (Row.lit1 flatS wr 9 x HX.out (Nat.le_refl _))
   by_cases hlt : k < s.length
   ·have HY := Lib.hid (fun hc : s[k] = c => splAt_yes hA.out hlt hc)
    rw [hxx] at HY
    have HN := Lib.hid (fun hc : ¬ s[k] = c => splAt_no hA.out hlt hc)
    have HC : Hid (∀ b : Bool, ((({ data := s.toArray } : ByteArray)[k]'(by show k < s.toArray.size; simpa using hlt)).toNat == (c.toNat : Int)) = b → (b = true → s[k] = c) ∧ (b = false → ¬ s[k] = c)) := by
     intro b hb
     have hb' : ((s[k].toNat : Int) == (c.toNat : Int)) = b := hb
     refine ⟨fun e => ?_, fun e => ?_⟩
     ·subst e; exact UInt8.toNat_inj.1 (by have := beq_iff_eq.1 hb'; omega)
     ·subst e; intro e2; rw [e2] at hb'; simp at hb'
    have hL : (k : Int) ≠ s.length := by omega
    clear hxx
    set_option maxRecDepth 100000 in go_wp2_with (at_builtin; go_loud (refine wpList_append_row rfl _ _ 25 rfl flatS w.heap.size 9 info_str rfl Try.underlying25 _ _ acc [x] rfl rfl (HRow.out.below b_6) (HLX.out.rd b_27) ?_ ?_ ?_ ?_))
    case refine_1 => rw [List.length_singleton]; omega
    case refine_2 => rw [List.length_singleton]; unfold maxLen; omega
    case refine_3 => simp only [World.size_alloc]; have := hb.size; omega
    ·rename_i hh _ hK
     have HY2 := Lib.hid (HY.out ((HC.out _ (hh.resolve_left (by simp; omega))).1 rfl))
     intro v' w' hr' hg'
     have hb' : Below w.heap.size w w' := bel_grown (bel_alloc hb _) (by simp only [World.size_alloc]; have := hb.size; omega) hg' (fun g hg => (HRow.out.block g hg).1)
     have HR' := Lib.hid hr'
     clear hr'
     go_wp2
     go_roundw
     case rel => exact ⟨k + 1, k + 1, acc ++ [x], by go_num, by first | rfl | go_num, HR'.out, Lib.hid HY2.out, hb'⟩
     case measure => simp [intOf] <;> omega
    ·rename_i hh
     have HN2 := Lib.hid (HN.out ((HC.out _ hh.2).2 rfl))
     refine ⟨⟨k + 1, f, acc, by go_num, rfl, HRow.out, Lib.hid HN2.out, hb⟩, ?_⟩
     simp [intOf] <;> omega
   ·obtain rfl : k = s.length := by omega
    have HN := Lib.hid (splAt_end hA.out)
    rw [hxx] at HN
    clear hxx
    set_option maxRecDepth 100000 in go_wp2_with (at_builtin; go_loud (refine wpList_append_row rfl _ _ 25 rfl flatS w.heap.size 9 info_str rfl Try.underlying25 _ _ acc [x] rfl rfl (HRow.out.below b_6) (HLX.out.rd b_27) ?_ ?_ ?_ ?_))
    case refine_1 => rw [List.length_singleton]; omega
    case refine_2 => rw [List.length_singleton]; unfold maxLen; omega
    case refine_3 => simp only [World.size_alloc]; have := hb.size; omega
    intro v' w' hr' hg'
    have hb' : Below w.heap.size w w' := bel_grown (bel_alloc hb _) (by simp only [World.size_alloc]; have := hb.size; omega) hg' (fun g hg => (HRow.out.block g hg).1)
    have HR' := Lib.hid hr'
    clear hr'
    go_wp2
    go_roundw
    case rel => exact ⟨s.length + 1, s.length + 1, acc ++ [x], by go_num, by first | rfl | go_num, HR'.out, Lib.hid HN.out, hb'⟩
    case measure => simp [intOf] <;> omega
  ·have HE := Lib.hid (splAt_done hA.out hle)
   go_wp2
   go_ret
   obtain rfl := HE.out
   exact ⟨_, rfl, HRow.out, hb⟩
theorem Ty.ow_tail {w : World} {e : Ty} {b o n c : Nat} {x : List e.D} {fp : List Nat} {lo hi : Nat} (h : (Ty.sl e).ow w [.slice (some ⟨b, o, none⟩) n c] x fp) (h1 : 1 < x.length) (hf : FrI lo hi fp) :
  ∃ fp', (Ty.sl e).ow w [.slice (some ⟨b, o + e.sz, none⟩) (n - 1) (c - 1)] (x.drop 1) fp' ∧ FrI lo hi fp' := by
 obtain ⟨A, c', h2, h3, h4, h5, h6⟩ := h
 injection h2 with h2 _
 injection h2 with h2 hn2 h7
 subst h7
 have h3' : x.length ≤ c := h3
 have h5' : x.length ≤ 9223372036854775807 := h5
 rcases h6 with h6 | ⟨_, b', o', fs, hA, hfp, hc⟩
 ·exact absurd h6.1 (by show ¬ x.length = 0; omega)
 rw [← h2] at hA
 injection hA with hA
 injection hA with hb ho
 subst hb; subst ho
 have hl : (x.drop 1).length = x.length - 1 := List.length_drop
 have hr : List.range x.length = 0 :: (List.range (x.length - 1)).map Nat.succ := by
  rw [show x.length = (x.length - 1) + 1 from by omega, List.range_succ_eq_map, Nat.add_sub_cancel]
 have hfp2 : fp = b :: (fs 0 ++ (List.range (x.length - 1)).flatMap (fun i => fs (i + 1))) := by
  have hfp' : fp = b :: (List.range x.length).flatMap fs := hfp
  rw [hfp', hr, List.flatMap_cons, List.flatMap_map]
 refine ⟨b :: (List.range (x.drop 1).length).flatMap (fun i => fs (i + 1)), ⟨_, c - 1, ?_, ?_, ⟨by have := h4.1; omega, fun h => by cases h⟩, ?_, .inr ⟨?_, b, o + e.sz, fun i => fs (i + 1), rfl, rfl, fun i hi => ?_⟩⟩, ?_⟩
 ·rw [show n - 1 = List.length (x.drop 1) from by have : n = x.length := hn2; rw [hl]; omega]
 ·show (x.drop 1).length ≤ c - 1; omega
 ·show (x.drop 1).length ≤ _; omega
 ·show 0 < (x.drop 1).length; omega
 ·have hi' : i + 1 < x.length := by have : i < (x.drop 1).length := hi; omega
  obtain ⟨ds, g1, g2, g3⟩ := hc (i + 1) hi'
  refine ⟨ds, g1, fun j hj => ?_, ?_⟩
  ·have := g2 j hj
   rw [show o + e.sz + i * e.sz + j = o + (i + 1) * e.sz + j from by rw [Nat.succ_mul]; omega]
   exact this
  ·have : (x.drop 1)[i]'hi = x[i + 1] := by rw [List.getElem_drop]; congr 1; omega
   rw [this]; exact g3
 ·rw [hfp2] at hf
  rw [hl]
  refine ⟨?_, fun y hy => hf.2 y ?_⟩
  ·have h8 := hf.1
   rw [List.nodup_cons] at h8 ⊢
   exact ⟨fun hm => h8.1 (List.mem_append_right _ hm), (List.nodup_append.1 h8.2).2.1⟩
  ·rcases List.mem_cons.1 hy with rfl | hy
   ·exact List.mem_cons_self
   ·exact List.mem_cons_of_mem _ (List.mem_append_right _ hy)
end Go.Proofs.Ytldgbnlcnlfmeaa
namespace Go.Proofs.Ytldgbnlcnlfmeaa
open Go.RowKit
set_option linter.unusedVariables false
set_option linter.unusedSimpArgs false
set_option maxHeartbeats 2000000 in
theorem C_spec_ParseName (w : World) (s : List UInt8) (hs : s.length ≤ 1000000000) :
  Calls Try.prog 169 #[vS s] w (RetAgg2 w (.sl .str) (pnS s).1 (.bool (pnS s).2)) := by
 by_cases h1 : s = [47]
 ·have HY := Lib.hid (pnS_one h1)
  have q1 : (s == [47]) = true := by simp [h1]
  generalize pnS s = F at HY ⊢
  clear h1
  go_enter Try.func169, Try.ntmps169
  go_wp2
  refine bodyPost_ret (v := .tuple #[.agg #[.slice none 0 0], .bool true]) (by simp [results, Try.results169, go_sem]) rfl ?_
  rw [HY.out]
  exact ⟨[.slice none 0 0], [], rfl, rd_ow_nil _ _, FrI.nil _ _, b_6⟩
 have HNO := Lib.hid (fun h => pnS_no h1 h)
 have HYES := Lib.hid (fun h => pnS_yes h1 h)
 have q1 : (s == [47]) = false := by simp [h1]
 have hL := spl_pos 47 s
 have hcall : Calls Try.prog 170 #[vS s, .int .u8 47] (w.alloc (.cells #[.slice none 0 0] 27)) (RetRow flatS (w.alloc (.cells #[.slice none 0 0] 27)) 9 (spl 47 s)) := C_spec_l4Split _ s 47 hs
 generalize pnS s = F at HNO HYES ⊢
 generalize spl 47 s = L at HNO HYES hL hcall
 go_enter Try.func169, Try.ntmps169
 go_wp2_with fail
 refine hcall.mono ?_
 rintro e w1 ⟨v1, rfl, hr1, hb1⟩
 obtain ⟨A1, c1, fp1, rfl, how1, hfr1⟩ := hr1.own hb1.size
 have hcl : L.length ≤ c1 := by obtain ⟨A, c, h2, h3, _⟩ := how1; injection h2 with h2 _; injection h2 with _ _ h7; rw [h7]; exact h3
 obtain ⟨b, o, ds, rfl, hl, hcell, hrd⟩ := Ty.rd_at (Ty.ow_rd how1) hL
 obtain ⟨rfl, hsl⟩ := hrd
 have e0 : w1.cell? ⟨b, o, none⟩ = some (vS L[0]) := by simpa [Ty.sz] using hcell 0 b_33
 clear hcell hl hcall hr1 h1
 have hw1 : Below w.heap.size w w1 := bel_trans b_6 hb1
 have hB1 : Blk w1 w.heap.size 27 #[.slice none 0 0] := (Blk.new w _ _).below hb1 (by rw [World.size_alloc]; omega)
 have k1 : w1.cell? ⟨w.heap.size, 0, none⟩ = some (.slice none 0 0) := hB1.cell 0
 have f1 : w1.frozen? ⟨w.heap.size, 0, none⟩ = false := hB1.frozen 0
 have z1 : w.heap.size < w1.heap.size := hB1.lt
 have hbl : b < w1.heap.size := World.block_lt_of_cell? _ _ e0
 have hs1 := hb1.size
 simp only [World.size_alloc] at hs1 hfr1
 by_cases h2 : 2 ≤ L.length
 ·obtain ⟨fp2, how2, hfr2⟩ := Ty.ow_tail how1 b_34 hfr1
  have ht : L.drop 1 = L.tail := by simp
  rw [ht] at how2
  have hhead : L.head? = some L[0] := by cases L with | nil => simp at hL | cons a l => rfl
  have q2 : ¬ ((L.length : Int) < 2) := by omega
  have q4 : ¬ c1 = 1 := by omega
  have q5 : decide ((L.length : Int) < 2) = false := by simp; omega
  clear ht
  have how2 : (Ty.sl .str).ow w1 [.slice (some ⟨b, o + 1, none⟩) (L.length - 1) (c1 - 1)] L.tail fp2 := how2
  by_cases h3 : L[0] = []
  ·have q3 : L[0].isEmpty = true := by rw [h3]; rfl
   generalize hvv : validName L.tail = vv at HNO HYES
   have HVV := Lib.hid hvv
   have HC : Hid ((decide (2 ≤ L.length) && decide (L.head? = some []) && vv) = vv) := by unfold Hid; rw [hhead, h3]; simp [h2]
   clear h3 hhead hvv
   go_wp2_with fail
   have hv := C_spec_ValidName (w1.alloc (.cells #[.slice (some ⟨b, o + 1, none⟩) (L.length - 1) (c1 - 1)] 27)) _ L.tail (Ty.rd_below b_6 (Ty.ow_rd how2))
   rw [HVV.out] at hv
   refine hv.mono ?_
   rintro e w2 ⟨rfl, hb2⟩
   clear hv
   have hs2 := hb2.size
   simp only [World.size_alloc] at hs2
   have hx2 : Below w1.heap.size w1 w2 := bel_trans (bel_alloc (Below.refl _ _) _) hb2
   have hw2 : Below w.heap.size w w2 := bel_trans hw1 hx2
   have hB2 := hB1.below hx2 z1
   have hP2 : Blk w2 w1.heap.size 27 #[.slice (some ⟨b, o + 1, none⟩) (L.length - 1) (c1 - 1)] := (Blk.new w1 _ _).below hb2 (by rw [World.size_alloc]; omega)
   have k2 : w2.cell? ⟨w.heap.size, 0, none⟩ = some (.slice none 0 0) := hB2.cell 0
   have f2 : w2.frozen? ⟨w.heap.size, 0, none⟩ = false := hB2.frozen 0
   have j2 : w2.cell? ⟨w1.heap.size, 0, none⟩ = some (.slice (some ⟨b, o + 1, none⟩) (L.length - 1) (c1 - 1)) := hP2.cell 0
   have z2 : w.heap.size < w2.heap.size := by omega
   have y2 : w1.heap.size < w2.heap.size := by omega
   clear k1 f1 e0
   cases vv with
   | false =>
    have HN := Lib.hid (HNO.out HC.out)
    go_wp2
    refine bodyPost_ret (v := .tuple #[.agg #[.slice none 0 0], .bool false]) (by simp [results, Try.results169, go_sem, k2, f2, z2]) rfl ?_
    rw [HN.out]
    exact ⟨[.slice none 0 0], [], rfl, rd_ow_nil _ _, FrI.nil _ _, b_6⟩
   | true =>
    have HY := Lib.hid (HYES.out HC.out)
    go_wp2
    refine bodyPost_ret (v := .tuple #[.agg #[.slice (some ⟨b, o + 1, none⟩) (L.length - 1) (c1 - 1)], .bool true]) (by simp [results, Try.results169, go_sem, k2, f2, z2]) rfl ?_
    rw [HY.out]
    exact ⟨[.slice (some ⟨b, o + 1, none⟩) (L.length - 1) (c1 - 1)], fp2, rfl, Ty.ow_keep (by intro b hb'; have hb'' := (hfr2).2 b hb'; (try simp only [szz] at hb''); repeat (first | (with_reducible rfl) | (rw [Below.heap_setCell _ _ _ _ b_29]) | (rw [Below.heap_alloc _ _ _ b_20]) | (rw [hx2.block _ b_27]))) how2, hfr2.mono b_27 b_27, b_6⟩
  ·have q3 : L[0].isEmpty = false := by cases hq : L[0] with | nil => exact absurd hq h3 | cons a l => rfl
   have HN := Lib.hid (HNO.out (by rw [hhead]; simp [h3]))
   clear h3
   go_wp2
   refine bodyPost_ret (v := .tuple #[.agg #[.slice none 0 0], .bool false]) (by simp [results, Try.results169, go_sem, k1, f1, z1]) rfl ?_
   rw [HN.out]
   exact ⟨[.slice none 0 0], [], rfl, rd_ow_nil _ _, FrI.nil _ _, b_6⟩
 ·have HN := Lib.hid (HNO.out (by simp; omega))
  have q2 : ((L.length : Int) < 2) := by omega
  go_wp2
  all_goals refine bodyPost_ret (v := .tuple #[.agg #[.slice none 0 0], .bool false]) (by simp [results, Try.results169, go_sem, k1, f1, z1]) rfl ?_
  all_goals rw [HN.out]
  all_goals exact ⟨[.slice none 0 0], [], rfl, rd_ow_nil _ _, FrI.nil _ _, b_6⟩
set_option maxHeartbeats 1000000 in
theorem C_spec_l4Of (w : World) (s : List UInt8) (hs : s.length ≤ 1000000000) :
  Calls Try.prog 138 #[vS s] w (RetAgg w (.sl .str) (pnS s).1) := by
 go_enter Try.func138, Try.ntmps138
 go_wp2_with fail
 refine (C_spec_ParseName _ s hs).mono ?_
 rintro e w1 ⟨cs1, fp1, rfl, how1, hfr1, hb1⟩
 obtain ⟨A1, c1, rfl⟩ := Ty.ow_slv how1
 have hw1 : Below w.heap.size w w1 := bel_trans b_6 hb1
 have hB1 : Blk w1 w.heap.size 27 #[.slice none 0 0] := (Blk.new w _ _).below hb1 (by rw [World.size_alloc]; omega)
 have k1 : w1.cell? ⟨w.heap.size, 0, none⟩ = some (.slice none 0 0) := hB1.cell 0
 have f1 : w1.frozen? ⟨w.heap.size, 0, none⟩ = false := hB1.frozen 0
 have z1 : w.heap.size < w1.heap.size := hB1.lt
 have hs1 := hb1.size
 simp only [World.size_alloc] at hs1 hfr1
 go_wp2
 refine bodyPost_ret (v := .agg #[.slice A1 (List.length (pnS s).1) c1]) (by simp [results, Try.results138, go_sem, k1, f1, z1]) rfl ?_
 exact ⟨_, fp1, rfl, Ty.ow_keep b_5 how1, hfr1.mono b_27 b_27, b_6⟩
theorem Row.dr {e : Ty} {F : Flat e} {B : Nat} {w w' : World} {base : Nat} {te : TypeId} {v : Value} {x : List e.D} (h : Row F w base te v x) (hd : Dr B w w') (hB : B < base) : Row F w' base te v x := by
 refine ⟨⟨h.1.1, ?_⟩, h.2⟩
 rcases h.1.2 with hn | ⟨g, cap, cur, rfl, hbg, hgg, rest⟩
 ·exact .inl hn
 ·exact .inr ⟨g, cap, cur, rfl, hbg, (Dr.block hd (Blk.lt (t := te) (cs := cur) hgg) b_34).trans hgg, rest⟩
theorem row_setN {e : Ty} {F : Flat e} {w : World} {base : Nat} {te : TypeId} {v : Value} {x : List e.D} (h : Row F w base te v x) {p : Addr} (hp : p.block < base) (u : Value) : Row F (w.setCell p u) base te v x := by
 refine ⟨⟨h.1.1, ?_⟩, h.2⟩
 rcases h.1.2 with hn | ⟨g, cap, cur, rfl, hbg, hgg, rest⟩
 ·exact .inl hn
 ·exact .inr ⟨g, cap, cur, rfl, hbg, (Below.heap_setCell _ _ _ _ b_34).trans hgg, rest⟩
theorem Row.rdH {e : Ty} {F : Flat e} {B : Nat} {w : World} {base : Nat} {te : TypeId} {v : Value} {x : List e.D} (h : Row F w base te v x) (hb : base ≤ w.heap.size) (hB : B < base) : (Ty.sl e).rd (hide B w) [v] x := by
 obtain ⟨A, c, fp, _, how, hfr⟩ := h.own hb
 exact Ty.ow_rd (ow_hideF how hfr hB)
theorem rd_lits (B : Nat) (w : World) (te : TypeId) (l : List (List UInt8)) (hl : ∀ s ∈ l, s.length ≤ 9223372036854775807) (hn : l.length ≤ 256) (hB : B < w.heap.size) :
  (Ty.sl .str).rd (hide B (w.alloc (.cells (l.map flatS.enc).toArray te))) [.slice (some ⟨w.heap.size, 0, none⟩) l.length l.length] l :=
 Row.rdH (F := flatS) (base := w.heap.size) ⟨World.ownsRow_lit w (l.map flatS.enc).toArray l.length (Nat.le_refl _) (by unfold maxLen; omega) (by simp), hl⟩ (by rw [World.size_alloc]; omega) hB
theorem rd_liti (B : Nat) (w : World) (te : TypeId) (l : List Int) (hl : ∀ s ∈ l, -9223372036854775808 ≤ s ∧ s ≤ 9223372036854775807) (hn : l.length ≤ 256) (hB : B < w.heap.size) :
  (Ty.sl .int).rd (hide B (w.alloc (.cells (l.map flatI.enc).toArray te))) [.slice (some ⟨w.heap.size, 0, none⟩) l.length l.length] l :=
 Row.rdH (F := flatI) (base := w.heap.size) ⟨World.ownsRow_lit w (l.map flatI.enc).toArray l.length (Nat.le_refl _) (by unfold maxLen; omega) (by simp), hl⟩ (by rw [World.size_alloc]; omega) hB
theorem rd_drewH {B : Nat} {w : World} {t : Ty} {cs : List Value} {x : t.D} (h : t.rd (hide B w) cs x) : t.rd (hide B w.drew) cs x := Dr.rd (Dr.drew (Dr.refl B w)) h
def RetRA (te : TypeId) (w : World) (x : List (List UInt8)) (e : Ending) (w' : World) : Prop := ∃ v, e = .returned (.agg #[v]) ∧ Row flatS w' w.heap.size te v x ∧ Below w.heap.size w w'
def RetRA2 (te : TypeId) (w : World) (x : List (List UInt8)) (u : Value) (e : Ending) (w' : World) : Prop := ∃ v, e = .returned (.tuple #[.agg #[v], u]) ∧ Row flatS w' w.heap.size te v x ∧ Below w.heap.size w w'
def apS (n : List (List UInt8)) (s : List UInt8) : List (List UInt8) × Bool := if validName (n ++ [s]) then (n ++ [s], true) else (n, false)
set_option maxHeartbeats 1000000 in
theorem C_spec_l4CopyR (w : World) (cs : List Value) (x : List (List UInt8)) (h : (Ty.sl .str).rd w cs x) (hx : x.length ≤ 1000000000000) :
  Calls Try.prog 73 #[.agg cs.toArray] w (RetRA 9 w x) := by
 obtain ⟨A0, c0, rfl⟩ := Ty.rd_slv h
 have hl0 : Row flatS (((w.alloc (.cells #[.slice A0 x.length c0] 27)).alloc (.cells #[.slice none 0 0] 27)).alloc (.cells #[] 9)) (w.heap.size + 1 + 1) 9 (.slice (some ⟨w.heap.size + 1 + 1, 0, none⟩) 0 0) [] := by
  have := Row.lit0 flatS ((w.alloc (.cells #[.slice A0 x.length c0] 27)).alloc (.cells #[.slice none 0 0] 27)) 9 (base := w.heap.size + 1 + 1) b_26
  simp only [World.size_alloc] at this
  exact this
 have HL0 := Lib.hid hl0
 clear hl0
 go_enter Try.func73, Try.ntmps73
 set_option maxRecDepth 100000 in go_wp2_with (at_builtin; go_loud (refine wpList_append_row rfl _ _ 25 rfl flatS (w.heap.size + 1 + 1) 9 info_str rfl Try.underlying25 _ _ [] x rfl rfl HL0.out (Ty.rd_below b_6 h) ?_ ?_ ?_ ?_))
 case refine_1 => simp only [List.length_nil]; omega
 case refine_2 => simp only [List.length_nil]; unfold maxLen; omega
 case refine_3 => simp only [World.size_alloc]; omega
 intro v1 w1 hr1 hg1
 have hb1 : Below ((w.alloc (.cells #[.slice A0 x.length c0] 27)).alloc (.cells #[.slice none 0 0] 27)).heap.size ((w.alloc (.cells #[.slice A0 x.length c0] 27)).alloc (.cells #[.slice none 0 0] 27)) w1 := bel_grown (bel_alloc (Below.refl _ _) _) b_26 hg1 (fun g hg => by simp [Value.ownBlock] at hg; simp only [World.size_alloc]; omega)
 have hz1 := hb1.size
 simp only [World.size_alloc] at hz1
 obtain ⟨A1, c1, fp1, rfl, how1, hfr1⟩ := hr1.own b_34
 have hw1 : Below w.heap.size w w1 := bel_trans b_6 hb1
 obtain ⟨hc1, hf1⟩ := bcell hb1
 have z0 : w.heap.size < w1.heap.size := by omega
 have z1 : w.heap.size + 1 < w1.heap.size := by omega
 have HR1 := Lib.hid hr1
 clear hr1
 obtain ⟨A2, c2, hv2⟩ := HR1.out.form
 go_wp2
 refine bodyPost_ret (v := .agg #[.slice A1 (List.length x) c1]) (by simp [results, Try.results73, go_sem, hc1, hf1, z0, z1]) rfl ?_
 exact ⟨_, rfl, (row_setN HR1.out b_30 _).mono b_34, b_6⟩
set_option maxHeartbeats 2000000 in
theorem C_spec_AppendPart (w : World) (v : Value) (n : List (List UInt8)) (s : List UInt8) (h : (Ty.sl .str).rd w [v] n) (hn : n.length ≤ 1000000) (hs : s.length ≤ 1000000) :
  Calls Try.prog 139 #[.agg #[v], vS s] w (RetRA2 9 w (apS n s).1 (.bool (apS n s).2)) := by
 obtain ⟨A0, c0, rfl, _, _, _⟩ := Ty.rd_sl h
 have hl0 : Row flatS (((w.alloc (.cells #[.slice A0 n.length c0] 27)).alloc (.cells #[.slice none 0 0] 27)).alloc (.cells #[] 9)) (w.heap.size + 1 + 1) 9 (.slice (some ⟨w.heap.size + 1 + 1, 0, none⟩) 0 0) [] := by
  have := Row.lit0 flatS ((w.alloc (.cells #[.slice A0 n.length c0] 27)).alloc (.cells #[.slice none 0 0] 27)) 9 (base := w.heap.size + 1 + 1) b_26
  simp only [World.size_alloc] at this
  exact this
 have HL0 := Lib.hid hl0
 clear hl0
 go_enter Try.func139, Try.ntmps139
 set_option maxRecDepth 100000 in go_wp2_with (at_builtin; go_loud (refine wpList_append_row rfl _ _ 25 rfl flatS (w.heap.size + 1 + 1) 9 info_str rfl Try.underlying25 _ _ [] n rfl rfl HL0.out (Ty.rd_below b_6 h) ?_ ?_ ?_ ?_))
 case refine_1 => simp only [List.length_nil]; omega
 case refine_2 => simp only [List.length_nil]; unfold maxLen; omega
 case refine_3 => simp only [World.size_alloc]; omega
 intro v1 w1 hr1 hg1
 have hb1 : Below ((w.alloc (.cells #[.slice A0 n.length c0] 27)).alloc (.cells #[.slice none 0 0] 27)).heap.size ((w.alloc (.cells #[.slice A0 n.length c0] 27)).alloc (.cells #[.slice none 0 0] 27)) w1 := bel_grown (bel_alloc (Below.refl _ _) _) b_26 hg1 (fun g hg => by simp [Value.ownBlock] at hg; simp only [World.size_alloc]; omega)
 have hz1 := hb1.size
 simp only [World.size_alloc] at hz1
 have hw1 : Below w.heap.size w w1 := bel_trans b_6 hb1
 have HR1 := Lib.hid (show Row flatS w1 (w.heap.size + 1 + 1) 9 v1 n from hr1)
 have hA1 : Blk w1 w.heap.size 27 #[.slice A0 n.length c0] := ((Blk.new w _ _).alloc _).below hb1 b_26
 have hO1 : Blk w1 (w.heap.size + 1) 27 #[.slice none 0 0] := by
  have := (Blk.new (w.alloc (.cells #[.slice A0 n.length c0] 27)) 27 #[.slice none 0 0]).below hb1 b_26
  rwa [World.size_alloc] at this
 clear hr1
 have HL1 := Lib.hid (Row.lit1 flatS w1 9 s (by show s.length ≤ _; omega) (Nat.le_refl _))
 set_option maxRecDepth 100000 in go_wp2_with (at_builtin; go_loud (refine wpList_append_row rfl _ _ 25 rfl flatS (w.heap.size + 1 + 1) 9 info_str rfl Try.underlying25 _ _ n [s] rfl rfl (HR1.out.below b_6) (HL1.out.rd b_27) ?_ ?_ ?_ ?_))
 case refine_1 => simp only [List.length_singleton]; omega
 case refine_2 => simp only [List.length_singleton]; unfold maxLen; omega
 case refine_3 => simp only [World.size_alloc]; omega
 intro v2 w2 hr2 hg2
 have hne : ∀ g, g < w.heap.size + 1 + 1 → some g ≠ v1.ownBlock := fun g hg e => by have := (HR1.out.block _ e.symm).1; omega
 have hA2 : Blk w2 w.heap.size 27 #[.slice A0 n.length c0] := (hA1.alloc _).grown hg2 (hne _ b_34)
 have hO2 : Blk w2 (w.heap.size + 1) 27 #[.slice none 0 0] := (hO1.alloc _).grown hg2 (hne _ b_34)
 have hw2 : Below w.heap.size w w2 := bel_grown (bel_alloc hw1 _) b_26 hg2 (fun g hg => by have := (HR1.out.block g hg).1; omega)
 have hz2 := hg2.size
 simp only [World.size_alloc] at hz2
 obtain ⟨A2, c2, rfl⟩ := hr2.form
 have HR2 := Lib.hid hr2
 have hm2 := HR2.out
 have how2 := hm2.own b_34
 obtain ⟨A2', c2', fp2, hv2, how2, hfr2⟩ := how2
 have hval := C_spec_ValidName (w2.alloc (.cells #[.slice A2 (n ++ [s]).length c2] 27)) [.slice A2 (n ++ [s]).length c2] (n ++ [s]) (Ty.rd_below b_6 (Ty.ow_rd how2))
 have HNO := Lib.hid (fun h : validName (n ++ [s]) = false => show apS n s = (n, false) from by unfold apS; rw [h]; rfl)
 have HYES := Lib.hid (fun h : validName (n ++ [s]) = true => show apS n s = (n ++ [s], true) from by unfold apS; rw [if_pos h])
 generalize validName (n ++ [s]) = vv at hval HNO HYES
 have hk2 : w2.cell? ⟨w.heap.size, 0, none⟩ = some (.slice A0 n.length c0) := hA2.cell 0
 clear hr2 hm2 hg2 hne
 generalize hnn : (n ++ [s]).length = nn at *
 go_wp2_with fail
 refine hval.mono ?_
 rintro e w3 ⟨rfl, hb3⟩
 have hs3 := hb3.size
 simp only [World.size_alloc] at hs3
 have hx3 : Below w2.heap.size w2 w3 := bel_trans (bel_alloc (Below.refl _ _) _) hb3
 have hw3 : Below w.heap.size w w3 := bel_trans hw2 hx3
 have hA3 := hA2.below hx3 b_34
 have hO3 := hO2.below hx3 b_34
 have hP3 : Blk w3 w2.heap.size 27 #[.slice A2 nn c2] := (Blk.new w2 _ _).below hb3 (by rw [World.size_alloc]; omega)
 have kA3 : w3.cell? ⟨w.heap.size, 0, none⟩ = some (.slice A0 n.length c0) := hA3.cell 0
 have kO3 : w3.cell? ⟨w.heap.size + 1, 0, none⟩ = some (.slice none 0 0) := hO3.cell 0
 have fO3 : w3.frozen? ⟨w.heap.size + 1, 0, none⟩ = false := hO3.frozen 0
 have kP3 : w3.cell? ⟨w2.heap.size, 0, none⟩ = some (.slice A2 nn c2) := hP3.cell 0
 have z3 : w.heap.size + 1 < w3.heap.size := by omega
 have y3 : w2.heap.size < w3.heap.size := by omega
 clear hk2 hval
 cases vv with
 | true =>
  have HY := Lib.hid (HYES.out rfl)
  go_wp2
  refine bodyPost_ret (v := .tuple #[.agg #[.slice A2 nn c2], .bool true]) (by simp [results, Try.results139, go_sem, kO3, fO3, z3]) rfl ?_
  rw [HY.out]
  exact ⟨_, rfl, (row_setN (HR2.out.below hx3) b_30 _).mono b_34, b_6⟩
 | false =>
  have HN := Lib.hid (HNO.out rfl)
  go_wp2_with fail
  refine (C_spec_l4CopyR _ _ n (Ty.rd_below hw3 h) b_34).mono ?_
  rintro e w4 ⟨v4, rfl, hr4, hb4⟩
  have hO4 := hO3.below hb4 z3
  have kO4 : w4.cell? ⟨w.heap.size + 1, 0, none⟩ = some (.slice none 0 0) := hO4.cell 0
  have fO4 : w4.frozen? ⟨w.heap.size + 1, 0, none⟩ = false := hO4.frozen 0
  have z4 : w.heap.size + 1 < w4.heap.size := hO4.lt
  have hs4 := hb4.size
  have HR4 := Lib.hid hr4
  obtain ⟨A4, c4, rfl⟩ := hr4.form
  clear hr4 kO3 fO3
  go_wp2
  refine bodyPost_ret (v := .tuple #[.agg #[.slice A4 n.length c4], .bool false]) (by simp [results, Try.results139, go_sem, kO4, fO4, z4]) rfl ?_
  rw [HN.out]
  exact ⟨_, rfl, (row_setN HR4.out b_30 _).mono b_34, bel_set (bel_trans hw3 hb4) b_30 _⟩
theorem Blk.c1 {w : World} {g : Nat} {t : TypeId} {v : Value} (h : Blk w g t #[v]) : w.cell? ⟨g, 0, none⟩ = some v := h.cell 0
theorem Blk.f1 {w : World} {g i : Nat} {t : TypeId} {cs : Array Value} (h : Blk w g t cs) : w.frozen? ⟨g, i, none⟩ = false := h.frozen i
theorem rd_litsA {B : Nat} {w : World} {te : TypeId} {l : List (List UInt8)} {arr : Array Value} {g n c : Nat} (ha : arr = (l.map flatS.enc).toArray) (hl : (l.all fun s => decide (s.length ≤ 256)) = true) (hg : g = w.heap.size) (hn : n = l.length) (hc : c = n) (h256 : l.length ≤ 256) (hB : B < w.heap.size) :
  (Ty.sl .str).rd (hide B (w.alloc (.cells arr te))) [.slice (some ⟨g, 0, none⟩) n c] l := by
 subst ha hg hn hc
 exact rd_lits B w te l (fun s hs => by have := List.all_eq_true.1 hl s hs; simp only [decide_eq_true_eq] at this; omega) h256 hB
theorem rd_litiA {B : Nat} {w : World} {te : TypeId} {l : List Int} {arr : Array Value} {g n c : Nat} (ha : arr = (l.map flatI.enc).toArray) (hl : (l.all fun s => decide (-9223372036854775808 ≤ s ∧ s ≤ 9223372036854775807)) = true) (hg : g = w.heap.size) (hn : n = l.length) (hc : c = n) (h256 : l.length ≤ 256) (hB : B < w.heap.size) :
  (Ty.sl .int).rd (hide B (w.alloc (.cells arr te))) [.slice (some ⟨g, 0, none⟩) n c] l := by
 subst ha hg hn hc
 exact rd_liti B w te l (fun s hs => by have := List.all_eq_true.1 hl s hs; simpa only [decide_eq_true_eq] using this) h256 hB
theorem apS_ok {n : List (List UInt8)} {s : List UInt8} (h : validName n = true) : validName (apS n s).1 = true := by
 unfold apS; split
 ·assumption
 ·exact h
theorem validName_len {n : List (List UInt8)} (h : validName n = true) : n.length ≤ 6 := by
 unfold validName at h
 simp only [Bool.and_eq_true, decide_eq_true_eq] at h
 exact h.2
theorem l6_len {s : List UInt8} (h : s ∈ [[97], [98], [110, 101, 119, 115], [120, 45, 49], [49], [107, 101, 121]]) : s.length ≤ 1000000 := by
 simp at h
 rcases h with rfl | rfl | rfl | rfl | rfl | rfl <;> simp
set_option maxRecDepth 100000 in
set_option maxHeartbeats 2000000 in
theorem C_spec_l4Name (w : World) (B : Nat) (hc : CurT w B) :
  Calls Try.prog 68 #[pB B] w (RetDT B w (fun e w' => ∃ v n, e = .returned (.agg #[v]) ∧ Row flatS w' w.heap.size 9 v n ∧ validName n = true)) := by
 have hB := hc.lt
 go_enter Try.func68, Try.ntmps68
 go_wp2_with fail
 refine (C_spec_l1Below _ B 4 b_9 b_33 b_33).mono ?_
 rintro e w1 ⟨hd1, hc1, x, rfl, hx0, hx1⟩
 have hO1 : Blk w1 w.heap.size 27 #[.slice none 0 0] := Dr.blk hd1 ((Blk.new w _ _).alloc _) b_34
 have hN1 : Blk w1 (w.heap.size + 1) 27 #[.slice none 0 0] := Dr.blk hd1 (by have := Blk.new (w.alloc (.cells #[.slice none 0 0] 27)) 27 #[.slice none 0 0]; rwa [World.size_alloc] at this) b_34
 have hD1 : Dr B w w1 := b_3
 have z1 := hd1.size
 simp only [World.size_alloc] at z1
 go_wp2
 go_loopw [4] (fun i wr => ∃ (k : Int) (v : Value) (n : List (List UInt8)), i = .int .i64 k ∧ k ≤ 3 ∧ 0 ≤ k ∧ CurT wr B ∧ Dr B w wr ∧ Blk wr w.heap.size 27 #[.slice none 0 0] ∧ Blk wr (w.heap.size + 1) 27 #[v] ∧ Row flatS wr (w.heap.size + 1 + 1) 9 v n ∧ validName n = true) (fun i _ => (intOf i).toNat)
 case atStart => exact ⟨x, _, [], rfl, by omega, by omega, hc1, hD1, hO1, hN1, Row.nil _ _ _ _, rfl⟩
 case round =>
  obtain ⟨k, v, n, rfl, hk3, hk0, hcr, hdr, hO, hN, hR, hV⟩ := hrel
  have zr : w.heap.size + 1 < wr.heap.size := hN.lt
  have kO := hO.c1
  have kN : wr.cell? ⟨w.heap.size + 1, 0, none⟩ = some v := hN.cell 0
  have fN : wr.frozen? ⟨w.heap.size + 1, 0, none⟩ = false := hN.frozen 0
  obtain ⟨A, c, rfl⟩ := hR.form
  have HR := Lib.hid hR
  have hnl := validName_len hV
  clear hR hO1 hN1 hD1 hd1
  by_cases hlt : 0 < k
  ·go_wp2_with fail
   refine wp_region_noPanic ?_
   refine wp_region_held_drew (S := (fun _ => True)) b_31 ?_ (fun hHeld => ?_)
   ·trivial
   refine tkz 1 ?_
   try simp only [layz]
   refine rz2 0 2 (fun K hK => ?_) (fun K hK => ?_)
   ·go_simp
    refine hK.out _ _ ?_ (fun hHeld => ?_)
    ·(try dsimp only)
     try trivial
    clear hK K
    try simp only [layz]
    refine rz1 2 (fun K hK => ?_)
    go_simp
    refine hK.out _ _ ?_ (fun hHeld => ?_)
    ·(try dsimp only)
     try trivial
    clear hK K
    try simp only [layz]
    refine rz1 3 (fun K hK => ?_)
    go_simp
    go_at_call 140
    refine (C_spec_l1Str _ B _ [[97], [98], [110, 101, 119, 115], [120, 45, 49], [49], [107, 101, 121]] b_9 b_7 b_33 b_33).mono ?_
    rintro e w3 ⟨hd3, hc3, s, hs, rfl⟩
    have z3 := hd3.size
    simp only [World.size_alloc, World.size_drew, size_drewN] at z3
    have E3 : Dr B wr w3 := b_3
    have D3 : Dr B w w3 := hdr.trans E3
    have R3 := Row.dr HR.out E3 b_34
    have hO3 : Blk w3 w.heap.size 27 #[.slice none 0 0] := Dr.blk hd3 b_14 b_34
    have hN3 : Blk w3 (w.heap.size + 1) 27 #[.slice A n.length c] := Dr.blk hd3 b_14 b_34
    have kN := hN3.c1
    refine hK.out _ _ ?_ (fun hHeld => ?_)
    ·(try dsimp only)
     try trivial
    clear hK K
    try simp only [layz]
    refine rz1 4 (fun K hK => ?_)
    go_simp
    go_at_call 139
    refine (C_spec_AppendPart _ _ n s (Ty.rd_below b_6 (R3.rd b_34)) b_34 (l6_len hs)).mono ?_
    rintro e w4 ⟨v4, rfl, hr4, hb4⟩
    have z4 := hb4.size
    (try simp only [World.size_alloc, World.size_drew, size_drewN] at z4)
    have D4 : Dr B w w4 := Dr.then_ b_3 hb4
    have C4 : CurT w4 B := Cur.below b_9 hb4
    have hO4 : Blk w4 w.heap.size 27 #[.slice none 0 0] := Blk.below b_14 hb4 b_34
    have hN4 : Blk w4 (w.heap.size + 1) 27 #[.slice A n.length c] := Blk.below b_14 hb4 b_34
    have k4 : w4.cell? ⟨w.heap.size + 1, 0, none⟩ = some (.slice A n.length c) := hN4.cell 0
    have f4 : w4.frozen? ⟨w.heap.size + 1, 0, none⟩ = false := hN4.frozen 0
    have HR4 := Lib.hid hr4
    obtain ⟨A4, c4, rfl⟩ := hr4.form
    clear hr4
    refine hK.out _ _ ?_ (fun hHeld => ?_)
    ·(try dsimp only)
     try trivial
    clear hK K
    try simp only [layz]
    refine tkz3 5 6 7 ?_
    try simp only [layz]
    refine rz1 8 (fun K hK => ?_)
    go_simp
    have C5 : CurT (w4.setCell ⟨w.heap.size + 1, 0, none⟩ (.slice A4 (apS n s).fst.length c4)) B := b_9
    have D5 : Dr B w (w4.setCell ⟨w.heap.size + 1, 0, none⟩ (.slice A4 (apS n s).fst.length c4)) := b_3
    have hN5 := hN4.set_ 0 (.slice A4 (apS n s).fst.length c4)
    have hO5 := hO4.far (p := ⟨w.heap.size + 1, 0, none⟩) b_30 (.slice A4 (apS n s).fst.length c4)
    have R5 := (row_setN HR4.out (p := ⟨w.heap.size + 1, 0, none⟩) b_30 (.slice A4 (apS n s).fst.length c4)).mono (base' := w.heap.size + 1 + 1) b_34
    refine hK.out _ _ ?_ (fun hHeld => ?_)
    ·(try dsimp only)
     try trivial
    clear hK K
    try simp only [layz]
    refine wpAnyH_done b_31 ?_ _
    refine NoPanic.normal ?_
    go_wp2
    go_roundw
    case rel => exact ⟨k - 1, _, _, rfl, by omega, by omega, C5, D5, hO5, hN5, R5, apS_ok hV⟩
    case measure => simp [intOf]; omega
   ·go_simp
    refine hK.out _ _ ?_ (fun hHeld => ?_)
    ·(try dsimp only)
     try trivial
    clear hK K
    try simp only [layz]
    refine rz2 0 3 (fun K hK => ?_) (fun K hK => ?_)
    ·go_simp
     refine hK.out _ _ ?_ (fun hHeld => ?_)
     ·(try dsimp only)
      try trivial
     clear hK K
     try simp only [layz]
     refine rz1 3 (fun K hK => ?_)
     go_simp
     go_at_call 140
     refine (C_spec_l1Str _ B _ [[97], [98], [110, 101, 119, 115], [120, 45, 49], [49], [107, 101, 121]] b_9 b_7 b_33 b_33).mono ?_
     rintro e w3 ⟨hd3, hc3, s, hs, rfl⟩
     have z3 := hd3.size
     simp only [World.size_alloc, World.size_drew, size_drewN] at z3
     have E3 : Dr B wr w3 := b_3
     have D3 : Dr B w w3 := hdr.trans E3
     have R3 := Row.dr HR.out E3 b_34
     have hO3 : Blk w3 w.heap.size 27 #[.slice none 0 0] := Dr.blk hd3 b_14 b_34
     have hN3 : Blk w3 (w.heap.size + 1) 27 #[.slice A n.length c] := Dr.blk hd3 b_14 b_34
     have kN := hN3.c1
     refine hK.out _ _ ?_ (fun hHeld => ?_)
     ·(try dsimp only)
      try trivial
     clear hK K
     try simp only [layz]
     refine rz1 4 (fun K hK => ?_)
     go_simp
     go_at_call 139
     refine (C_spec_AppendPart _ _ n s (Ty.rd_below b_6 (R3.rd b_34)) b_34 (l6_len hs)).mono ?_
     rintro e w4 ⟨v4, rfl, hr4, hb4⟩
     have z4 := hb4.size
     (try simp only [World.size_alloc, World.size_drew, size_drewN] at z4)
     have D4 : Dr B w w4 := Dr.then_ b_3 hb4
     have C4 : CurT w4 B := Cur.below b_9 hb4
     have hO4 : Blk w4 w.heap.size 27 #[.slice none 0 0] := Blk.below b_14 hb4 b_34
     have hN4 : Blk w4 (w.heap.size + 1) 27 #[.slice A n.length c] := Blk.below b_14 hb4 b_34
     have k4 : w4.cell? ⟨w.heap.size + 1, 0, none⟩ = some (.slice A n.length c) := hN4.cell 0
     have f4 : w4.frozen? ⟨w.heap.size + 1, 0, none⟩ = false := hN4.frozen 0
     have HR4 := Lib.hid hr4
     obtain ⟨A4, c4, rfl⟩ := hr4.form
     clear hr4
     refine hK.out _ _ ?_ (fun hHeld => ?_)
     ·(try dsimp only)
      try trivial
     clear hK K
     try simp only [layz]
     refine tkz3 5 6 7 ?_
     try simp only [layz]
     refine rz1 8 (fun K hK => ?_)
     go_simp
     have C5 : CurT (w4.setCell ⟨w.heap.size + 1, 0, none⟩ (.slice A4 (apS n s).fst.length c4)) B := b_9
     have D5 : Dr B w (w4.setCell ⟨w.heap.size + 1, 0, none⟩ (.slice A4 (apS n s).fst.length c4)) := b_3
     have hN5 := hN4.set_ 0 (.slice A4 (apS n s).fst.length c4)
     have hO5 := hO4.far (p := ⟨w.heap.size + 1, 0, none⟩) b_30 (.slice A4 (apS n s).fst.length c4)
     have R5 := (row_setN HR4.out (p := ⟨w.heap.size + 1, 0, none⟩) b_30 (.slice A4 (apS n s).fst.length c4)).mono (base' := w.heap.size + 1 + 1) b_34
     refine hK.out _ _ ?_ (fun hHeld => ?_)
     ·(try dsimp only)
      try trivial
     clear hK K
     try simp only [layz]
     refine wpAnyH_done b_31 ?_ _
     refine NoPanic.normal ?_
     go_wp2
     go_roundw
     case rel => exact ⟨k - 1, _, _, rfl, by omega, by omega, C5, D5, hO5, hN5, R5, apS_ok hV⟩
     case measure => simp [intOf]; omega
    ·go_simp
     go_at_call 140
     refine (C_spec_l1Str _ B _ [[97], [98], [110, 101, 119, 115], [120, 45, 49], [49], [107, 101, 121]] b_9 b_7 b_33 b_33).mono ?_
     rintro e w3 ⟨hd3, hc3, s, hs, rfl⟩
     have z3 := hd3.size
     simp only [World.size_alloc, World.size_drew, size_drewN] at z3
     have E3 : Dr B wr w3 := b_3
     have D3 : Dr B w w3 := hdr.trans E3
     have R3 := Row.dr HR.out E3 b_34
     have hO3 : Blk w3 w.heap.size 27 #[.slice none 0 0] := Dr.blk hd3 b_14 b_34
     have hN3 : Blk w3 (w.heap.size + 1) 27 #[.slice A n.length c] := Dr.blk hd3 b_14 b_34
     have kN := hN3.c1
     refine hK.out _ _ ?_ (fun hHeld => ?_)
     ·(try dsimp only)
      try trivial
     clear hK K
     try simp only [layz]
     refine rz1 0 (fun K hK => ?_)
     go_simp
     refine hK.out _ _ ?_ (fun hHeld => ?_)
     ·(try dsimp only)
      try trivial
     clear hK K
     try simp only [layz]
     refine rz1 4 (fun K hK => ?_)
     go_simp
     go_at_call 139
     refine (C_spec_AppendPart _ _ n s (Ty.rd_below b_6 (R3.rd b_34)) b_34 (l6_len hs)).mono ?_
     rintro e w4 ⟨v4, rfl, hr4, hb4⟩
     have z4 := hb4.size
     (try simp only [World.size_alloc, World.size_drew, size_drewN] at z4)
     have D4 : Dr B w w4 := Dr.then_ b_3 hb4
     have C4 : CurT w4 B := Cur.below b_9 hb4
     have hO4 : Blk w4 w.heap.size 27 #[.slice none 0 0] := Blk.below b_14 hb4 b_34
     have hN4 : Blk w4 (w.heap.size + 1) 27 #[.slice A n.length c] := Blk.below b_14 hb4 b_34
     have k4 : w4.cell? ⟨w.heap.size + 1, 0, none⟩ = some (.slice A n.length c) := hN4.cell 0
     have f4 : w4.frozen? ⟨w.heap.size + 1, 0, none⟩ = false := hN4.frozen 0
     have HR4 := Lib.hid hr4
     obtain ⟨A4, c4, rfl⟩ := hr4.form
     clear hr4
     refine hK.out _ _ ?_ (fun hHeld => ?_)
     ·(try dsimp only)
      try trivial
     clear hK K
     try simp only [layz]
     refine tkz3 5 6 7 ?_
     try simp only [layz]
     refine rz1 8 (fun K hK => ?_)
     go_simp
     have C5 : CurT (w4.setCell ⟨w.heap.size + 1, 0, none⟩ (.slice A4 (apS n s).fst.length c4)) B := b_9
     have D5 : Dr B w (w4.setCell ⟨w.heap.size + 1, 0, none⟩ (.slice A4 (apS n s).fst.length c4)) := b_3
     have hN5 := hN4.set_ 0 (.slice A4 (apS n s).fst.length c4)
     have hO5 := hO4.far (p := ⟨w.heap.size + 1, 0, none⟩) b_30 (.slice A4 (apS n s).fst.length c4)
     have R5 := (row_setN HR4.out (p := ⟨w.heap.size + 1, 0, none⟩) b_30 (.slice A4 (apS n s).fst.length c4)).mono (base' := w.heap.size + 1 + 1) b_34
     refine hK.out _ _ ?_ (fun hHeld => ?_)
     ·(try dsimp only)
      try trivial
     clear hK K
     try simp only [layz]
     refine wpAnyH_done b_31 ?_ _
     refine NoPanic.normal ?_
     go_wp2
     go_roundw
     case rel => exact ⟨k - 1, _, _, rfl, by omega, by omega, C5, D5, hO5, hN5, R5, apS_ok hV⟩
     case measure => simp [intOf]; omega
  ·have fO : wr.frozen? ⟨w.heap.size, 0, none⟩ = false := hO.f1
   have zO := hO.lt
   have CO : CurT (wr.setCell ⟨w.heap.size, 0, none⟩ (.slice A n.length c)) B := b_9
   go_wp2
   refine bodyPost_ret (v := .agg #[.slice A n.length c]) (by simp [results, Try.results68, go_sem, kO, fO, zO]) rfl ?_
   exact ⟨b_3, CO, _, rfl, _, (row_setN HR.out b_30 _).mono b_34, hV⟩
theorem Row.ow {e : Ty} {F : Flat e} {w : World} {base : Nat} {te : TypeId} {A : Option Addr} {c n : Nat} {x : List e.D} (h : Row F w base te (.slice A n c) x) (hb : base ≤ w.heap.size) : ∃ fp, (Ty.sl e).ow w [.slice A n c] x fp ∧ FrI base w.heap.size fp := by
 obtain ⟨A', c', fp, hv, how, hfr⟩ := h.own hb
 exact ⟨fp, how, hfr⟩
theorem Row.litA {w : World} {te : TypeId} {l : List (List UInt8)} {arr : Array Value} {g n c base : Nat} (ha : arr = (l.map flatS.enc).toArray) (hl : (l.all fun s => decide (s.length ≤ 256)) = true) (hg : g = w.heap.size) (hn : n = l.length) (hc : c = n) (h256 : l.length ≤ 256) (hb : base ≤ w.heap.size) :
  Row flatS (w.alloc (.cells arr te)) base te (.slice (some ⟨g, 0, none⟩) n c) l := by
 subst ha hg hn hc
 exact ⟨World.ownsRow_lit w (l.map flatS.enc).toArray l.length hb (by unfold maxLen; omega) (by simp), fun s hs => by have := List.all_eq_true.1 hl s hs; simp only [decide_eq_true_eq] at this; show s.length ≤ _; omega⟩
def DrA (t : Ty) (w : World) (ok : t.D → Prop) (e : Ending) (w' : World) : Prop := ∃ cs x fp, e = .returned (.agg cs.toArray) ∧ t.ow w' cs x fp ∧ FrI w.heap.size w'.heap.size fp ∧ ok x
def DrS (t : Ty) (w : World) (ok : List t.D → Prop) (e : Ending) (w' : World) : Prop := ∃ A x c fp, e = .returned (.slice A (List.length x) c) ∧ (Ty.sl t).ow w' [.slice A (List.length x) c] x fp ∧ FrI w.heap.size w'.heap.size fp ∧ ok x
theorem Dr.grown {B : Nat} {w w1 w' : World} {row : Option Nat} (h : Dr B w w1) (hg : w1.grownBy w' row) (hr : ∀ g, row = some g → w.heap.size ≤ g) : Dr B w w' := by
 have h1 := h.size
 refine ⟨hg.os.trans h.os, hg.tape.trans h.tape, hg.output.trans h.output, by rw [hide_size, hide_size]; have := hg.size; omega, fun k hk => ?_⟩
 by_cases e : k = B
 ·subst e
  rw [hide_same (by have := hg.size; omega), hide_same hk]
 ·rw [hide_other e, hide_other e, hg.block k b_34 (fun e' => by have := hr k e'.symm; omega)]
  have := Below.block h k hk
  rw [hide_other e, hide_other e] at this
  exact this
def lenVd : Value → Nat
 | .slice _ n _ => n
 | _ => 0
end Go.Proofs.Ytldgbnlcnlfmeaa
