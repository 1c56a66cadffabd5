/- Texts of this claim, merged by a program: Dda. -/
import Derived.Test.YtldgbnlcnlfmeaaQhP
import Derived.Test.YtldgbnlcnlfmeaaQh12
import Derived.Test.YtldgbnlcnlfmeaaQh5
import Derived.RegionTactic
import Derived.ChangeAlike
namespace Go.Proofs.Ytldgbnlcnlfmeaa
open Go.RowKit
set_option linter.unusedVariables false
set_option linter.unusedSimpArgs false
def decodeData (b : List UInt8) : Option tData.D := match readName b 0 with
 | none => none
 | some n => match readBytes b n.2 60 with
  | none => none
  | some s => match readName b s.2 with
   | none => none
   | some kn => match decodeInts b kn.2 2 with
    | none => none
    | some l => if l.2 = b.length then (if f_ValidData (n.1, s.1, kn.1, l.1.getD 0 0, l.1.getD 1 0) then some (n.1, s.1, kn.1, l.1.getD 0 0, l.1.getD 1 0) else none) else none
def f0_DecodeData (b : List UInt8) : tData.D := (decodeData b).getD ([], [], [], 0, 0)
def f1_DecodeData (b : List UInt8) : Bool := (decodeData b).isSome
theorem ow_Data_mkD {w : World} {A0 A1 A2 : Option Addr} {c0 c1 c2 : Nat} {x : tData.D} {f0 f1 f2 : List Nat} (h0 : (Ty.sl .str).ow w [.slice A0 (List.length x.1) c0] x.1 f0) (h1 : (Ty.sl .byte).ow w [.slice A1 (List.length x.2.1) c1] x.2.1 f1) (h2 : (Ty.sl .str).ow w [.slice A2 (List.length x.2.2.1) c2] x.2.2.1 f2)
  (b3 : -9223372036854775808 ≤ x.2.2.2.1 ∧ x.2.2.2.1 ≤ 9223372036854775807) (b4 : -9223372036854775808 ≤ x.2.2.2.2 ∧ x.2.2.2.2 ≤ 9223372036854775807) :
  tData.ow w [.slice A0 (List.length x.1) c0, .slice A1 (List.length x.2.1) c1, .slice A2 (List.length x.2.2.1) c2, .int .i64 x.2.2.2.1, .int .i64 x.2.2.2.2] x (f0 ++ (f1 ++ f2)) :=
 ⟨[_], [_, _, _, _], f0, f1 ++ f2, rfl, rfl, h0, [_], [_, _, _], f1, f2, rfl, rfl, h1, [_], [_, _], f2, [], rfl, (List.append_nil _).symm, h2, [_], [_], [], [], rfl, rfl, ⟨⟨rfl, b3⟩, rfl⟩, ⟨rfl, b4⟩, rfl⟩
theorem ow_Data_zero (w : World) : tData.ow w [.slice none 0 0, .slice none 0 0, .slice none 0 0, .int .i64 0, .int .i64 0] ([], [], [], 0, 0) [] :=
 ow_Data_mkD (x := ([], [], [], 0, 0)) (f0 := []) (f1 := []) (f2 := []) (rd_ow_nil w .str) (rd_ow_nil w .byte) (rd_ow_nil w .str) b_30 b_30
theorem ow_set {w : World} {t : Ty} {cs : List Value} {x : t.D} {fp : List Nat} (h : t.ow w cs x fp) {p : Addr} (hp : p.block ∉ fp) (u : Value) : t.ow (w.setCell p u) cs x fp :=
 Ty.ow_keep (fun b hb => Below.heap_setCell _ _ _ _ (fun e => hp (by rw [← e]; exact hb))) h
theorem fri_not {lo hi : Nat} {fp : List Nat} (h : FrI lo hi fp) {b : Nat} (hb : b < lo) : b ∉ fp := fun hm => by have := h.2 b hm; omega
theorem ow_blk {w : World} {e : Ty} {b o n c : Nat} {x : List e.D} {fp : List Nat} (h : (Ty.sl e).ow w [.slice (some ⟨b, o, none⟩) n c] x fp) (hx : 0 < x.length) : b ∈ fp := by
 obtain ⟨A', c', h1, h2, h3, h4, h5⟩ := h
 rcases h5 with ⟨h0, _⟩ | ⟨_, b', o', fs, hA, hfp, _⟩
 ·have h0' : x.length = 0 := h0
  omega
 ·injection h1 with h1 _
  injection h1 with h1 _ _
  rw [← h1] at hA
  injection hA with hA
  injection hA with hA1 _
  rw [hfp, hA1]; exact List.mem_cons_self ..
theorem two_of {l : List Int} (h : (l.length : Int) = 2) : ∃ a b, l = [a, b] := by
 match l, h with
 | [a, b], _ => exact ⟨a, b, rfl⟩
 | [], h => simp at h
 | [a], h => simp at h
 | a :: b :: c :: l, h => simp at h; omega
theorem dd_1 {b : List UInt8} (h : readName b 0 = none) : decodeData b = none := by unfold decodeData; rw [h]
theorem dd_2 {b : List UInt8} {n} (h : readName b 0 = some n) (h2 : readBytes b n.2 60 = none) : decodeData b = none := by unfold decodeData; rw [h]; simp only; rw [h2]
theorem dd_3 {b : List UInt8} {n s} (h : readName b 0 = some n) (h2 : readBytes b n.2 60 = some s) (h3 : readName b s.2 = none) : decodeData b = none := by unfold decodeData; rw [h]; simp only; rw [h2]; simp only; rw [h3]
theorem dd_4 {b : List UInt8} {n s k} (h : readName b 0 = some n) (h2 : readBytes b n.2 60 = some s) (h3 : readName b s.2 = some k) (h4 : decodeInts b k.2 2 = none) : decodeData b = none := by unfold decodeData; rw [h]; simp only; rw [h2]; simp only; rw [h3]; simp only; rw [h4]
theorem dd_5 {b : List UInt8} {n s k l} (h : readName b 0 = some n) (h2 : readBytes b n.2 60 = some s) (h3 : readName b s.2 = some k) (h4 : decodeInts b k.2 2 = some l) (h5 : ¬ l.2 = b.length) : decodeData b = none := by unfold decodeData; rw [h]; simp only; rw [h2]; simp only; rw [h3]; simp only; rw [h4]; exact if_neg h5
theorem dd_6 {b : List UInt8} {n s k l} (h : readName b 0 = some n) (h2 : readBytes b n.2 60 = some s) (h3 : readName b s.2 = some k) (h4 : decodeInts b k.2 2 = some l) (h5 : l.2 = b.length) {l0 l1 : Int} (h6 : l.1 = [l0, l1]) : decodeData b = if f_ValidData (n.1, s.1, k.1, l0, l1) then some (n.1, s.1, k.1, l0, l1) else none := by
 unfold decodeData; rw [h]; simp only; rw [h2]; simp only; rw [h3]; simp only; rw [h4]; simp only [h6]; rw [if_pos h5]; rfl
theorem name_bulkD {n : List (List UInt8)} (h : validName n = true) : Ty.bulk (.sl .str) n ≤ 54 ∧ n.length ≤ 6 := by
 have hv := validName_parts h
 have h1 := bulk_strs hv.2
 have : n.length * (8 + 1) ≤ 6 * 9 := Nat.mul_le_mul_right _ hv.1
 exact ⟨by omega, hv.1⟩
theorem data_bulkD {n k : List (List UInt8)} {s : List UInt8} {l0 l1 : Int} (h1 : validName n = true) (h2 : s.length ≤ 60) (h3 : validName k = true) : Ty.bulk tData (n, s, k, l0, l1) ≤ 1048576 := by
 have g1 := name_bulkD h1
 have g3 := name_bulkD h3
 have g2 : Ty.bulk (.sl .byte) s = s.length := Ty.bulk_flat (e := .byte) (fun _ => rfl) s
 show Ty.bulk (.sl .str) n + (Ty.bulk (.sl .byte) s + (Ty.bulk (.sl .str) k + (0 + 0))) ≤ 1048576
 omega
theorem decodeData_bulk {b : List UInt8} {x : tData.D} (h : decodeData b = some x) : Ty.bulk tData x ≤ 1048576 := by
 unfold decodeData at h
 cases h1 : readName b 0 with
 | none => rw [h1] at h; cases h
 | some n =>
  rw [h1] at h; simp only at h
  cases h2 : readBytes b n.2 60 with
  | none => rw [h2] at h; cases h
  | some s =>
   rw [h2] at h; simp only at h
   cases h3 : readName b s.2 with
   | none => rw [h3] at h; cases h
   | some k =>
    rw [h3] at h; simp only at h
    cases h4 : decodeInts b k.2 2 with
    | none => rw [h4] at h; cases h
    | some l =>
     rw [h4] at h; simp only at h
     split at h
     ·split at h
      ·injection h with h; subst h
       have := readBytes_bd h2
       exact data_bulkD (readName_bd h1).1 b_29 (readName_bd h3).1
      ·cases h
     ·cases h
set_option maxHeartbeats 8000000 in
theorem C_impl_DecodeData (w : World) (v : Value) (b : List UInt8) (h : (Ty.sl .byte).rd w [v] b) (s0 : Ty.bulk (.sl .byte) b ≤ 1048576) :
  Calls Try.prog 47 #[v] w (RetAgg2 w tData (f0_DecodeData b) (.bool (f1_DecodeData b))) := by
 obtain ⟨A, c, rfl, hc, hm, hn⟩ := Ty.rd_sl h
 have hbl : b.length ≤ 1048576 := Ty.bulk_len s0
 have HR0 : Hid (∀ r, decodeData b = r → f0_DecodeData b = r.getD ([], [], [], 0, 0) ∧ f1_DecodeData b = r.isSome) := fun r hr => by unfold f0_DecodeData f1_DecodeData; rw [hr]; exact ⟨rfl, rfl⟩
 generalize f0_DecodeData b = F0 at HR0 ⊢
 generalize f1_DecodeData b = F1 at HR0 ⊢
 have BR0 : Blk ((w.alloc (.cells #[.slice none 0 0, .slice none 0 0, .slice none 0 0, .int .i64 0, .int .i64 0] 46)).alloc (.cells #[.slice none 0 0, .slice none 0 0, .slice none 0 0, .int .i64 0, .int .i64 0] 46)) w.heap.size 46 #[.slice none 0 0, .slice none 0 0, .slice none 0 0, .int .i64 0, .int .i64 0] := (Blk.new w _ _).alloc _
 have BX0 : Blk ((w.alloc (.cells #[.slice none 0 0, .slice none 0 0, .slice none 0 0, .int .i64 0, .int .i64 0] 46)).alloc (.cells #[.slice none 0 0, .slice none 0 0, .slice none 0 0, .int .i64 0, .int .i64 0] 46)) (w.heap.size + 1) 46 #[.slice none 0 0, .slice none 0 0, .slice none 0 0, .int .i64 0, .int .i64 0] := by have := Blk.new (w.alloc (.cells #[.slice none 0 0, .slice none 0 0, .slice none 0 0, .int .i64 0, .int .i64 0] 46)) 46 #[.slice none 0 0, .slice none 0 0, .slice none 0 0, .int .i64 0, .int .i64 0]; rwa [World.size_alloc] at this
 have hv0 : Below w.heap.size w ((w.alloc (.cells #[.slice none 0 0, .slice none 0 0, .slice none 0 0, .int .i64 0, .int .i64 0] 46)).alloc (.cells #[.slice none 0 0, .slice none 0 0, .slice none 0 0, .int .i64 0, .int .i64 0] 46)) := b_5
 have hzz0 : w.heap.size + 2 ≤ ((w.alloc (.cells #[.slice none 0 0, .slice none 0 0, .slice none 0 0, .int .i64 0, .int .i64 0] 46)).alloc (.cells #[.slice none 0 0, .slice none 0 0, .slice none 0 0, .int .i64 0, .int .i64 0] 46)).heap.size := by simp only [World.size_alloc]; omega
 go_enter Try.func47, Try.ntmps47
 go_wp2_with fail
 generalize hW0 : ((w.alloc (.cells #[.slice none 0 0, .slice none 0 0, .slice none 0 0, .int .i64 0, .int .i64 0] 46)).alloc (.cells #[.slice none 0 0, .slice none 0 0, .slice none 0 0, .int .i64 0, .int .i64 0] 46)) = W0 at BR0 BX0 hv0 hzz0 ⊢
 clear hW0
 cases hv : readName b 0 with
 | none =>
  have HN := Lib.hid (dd_1 hv)
  have hcall : Calls Try.prog 119 #[.slice A b.length c, .int .i64 0] W0 (RetAgg3 W0 (.sl .str) [] (.int .i64 0) (.bool false)) := by
   have hrd := Ty.rd_below hv0 h
   have := C_impl_ReadName W0 _ b 0 hrd b_29 b_29
   rw [hv] at this; exact this
  clear hv
  refine hcall.mono ?_
  rintro e V ⟨cs, fp, rfl, how, hfr, hb⟩
  obtain ⟨A9, c9, rfl⟩ := Ty.ow_slv how
  have BR9 := BR0.below hb BR0.lt
  have BX9 := BX0.below hb BX0.lt
  have hv9 := bel_trans hv0 hb
  clear hcall how hfr
  have R0 : V.cell? ⟨w.heap.size, 0, none⟩ = some (.slice none 0 0) := BR9.cell 0
  have RF0 : V.frozen? ⟨w.heap.size, 0, none⟩ = false := BR9.frozen 0
  have X0 : V.cell? ⟨w.heap.size + 1, 0, none⟩ = some (.slice none 0 0) := BX9.cell 0
  have XF0 : V.frozen? ⟨w.heap.size + 1, 0, none⟩ = false := BX9.frozen 0
  have R1 : V.cell? ⟨w.heap.size, 1, none⟩ = some (.slice none 0 0) := BR9.cell 1
  have RF1 : V.frozen? ⟨w.heap.size, 1, none⟩ = false := BR9.frozen 1
  have X1 : V.cell? ⟨w.heap.size + 1, 1, none⟩ = some (.slice none 0 0) := BX9.cell 1
  have XF1 : V.frozen? ⟨w.heap.size + 1, 1, none⟩ = false := BX9.frozen 1
  have R2 : V.cell? ⟨w.heap.size, 2, none⟩ = some (.slice none 0 0) := BR9.cell 2
  have RF2 : V.frozen? ⟨w.heap.size, 2, none⟩ = false := BR9.frozen 2
  have X2 : V.cell? ⟨w.heap.size + 1, 2, none⟩ = some (.slice none 0 0) := BX9.cell 2
  have XF2 : V.frozen? ⟨w.heap.size + 1, 2, none⟩ = false := BX9.frozen 2
  have R3 : V.cell? ⟨w.heap.size, 3, none⟩ = some (.int .i64 0) := BR9.cell 3
  have RF3 : V.frozen? ⟨w.heap.size, 3, none⟩ = false := BR9.frozen 3
  have X3 : V.cell? ⟨w.heap.size + 1, 3, none⟩ = some (.int .i64 0) := BX9.cell 3
  have XF3 : V.frozen? ⟨w.heap.size + 1, 3, none⟩ = false := BX9.frozen 3
  have R4 : V.cell? ⟨w.heap.size, 4, none⟩ = some (.int .i64 0) := BR9.cell 4
  have RF4 : V.frozen? ⟨w.heap.size, 4, none⟩ = false := BR9.frozen 4
  have X4 : V.cell? ⟨w.heap.size + 1, 4, none⟩ = some (.int .i64 0) := BX9.cell 4
  have XF4 : V.frozen? ⟨w.heap.size + 1, 4, none⟩ = false := BX9.frozen 4
  have ZR := BR9.lt
  have ZX := BX9.lt
  set_option maxRecDepth 100000 in go_wp2
  refine bodyPost_ret (v := .tuple #[.agg #[.slice none 0 0, .slice none 0 0, .slice none 0 0, .int .i64 0, .int .i64 0], .bool false]) b_13 rfl ?_
  obtain ⟨hF0, hF1⟩ := HR0.out _ HN.out
  rw [hF0, hF1]
  exact ⟨[.slice none 0 0, .slice none 0 0, .slice none 0 0, .int .i64 0, .int .i64 0], [], rfl, ow_Data_zero _, FrI.nil _ _, b_5⟩
 | some r1 =>
  obtain ⟨n1, p1⟩ := r1
  have E1 := Lib.hid hv
  have D1 := readName_bd hv
  simp only at D1
  have hcall : Calls Try.prog 119 #[.slice A b.length c, .int .i64 0] W0 (RetAgg3 W0 (.sl .str) n1 (.int .i64 p1) (.bool true)) := by
   have hrd := Ty.rd_below hv0 h
   have := C_impl_ReadName W0 _ b 0 hrd b_29 b_29
   rw [hv] at this; exact this
  clear hv
  refine hcall.mono ?_
  rintro e V1 ⟨cs1, fp1, rfl, how1, hfr1, hb1⟩
  obtain ⟨A1, c1, rfl⟩ := Ty.ow_slv how1
  clear hcall
  have BRv := BR0.below hb1 BR0.lt
  have BXv := BX0.below hb1 BX0.lt
  have hvv := bel_trans hv0 hb1
  have hzv : w.heap.size + 2 ≤ V1.heap.size := Nat.le_trans hzz0 hb1.size
  have hfz1 : FrI W0.heap.size V1.heap.size fp1 := hfr1
  obtain ⟨R0, R1, R2, R3, R4, -, -, -, -, -, -⟩ := bk5 BRv
  have X0 : V1.cell? ⟨w.heap.size + 1, 0, none⟩ = some (.slice none 0 0) := BXv.cell 0
  have XF : V1.frozen? ⟨w.heap.size + 1, 0, none⟩ = false := BXv.frozen 0
  set_option maxRecDepth 100000 in go_wp2_with fail
  have BR1 := BRv.far (p := ⟨w.heap.size + 1, 0, none⟩) b_30 (.slice A1 (List.length n1) c1)
  have BX1 : Blk (V1.setCell ⟨w.heap.size + 1, 0, none⟩ (.slice A1 (List.length n1) c1)) (w.heap.size + 1) 46 #[.slice A1 (List.length n1) c1, .slice none 0 0, .slice none 0 0, .int .i64 0, .int .i64 0] := BXv.set_ 0 (.slice A1 (List.length n1) c1)
  have hv1 : Below w.heap.size w (V1.setCell ⟨w.heap.size + 1, 0, none⟩ (.slice A1 (List.length n1) c1)) := bel_set hvv b_30 _
  have hzz1 : w.heap.size + 2 ≤ (V1.setCell ⟨w.heap.size + 1, 0, none⟩ (.slice A1 (List.length n1) c1)).heap.size := by rw [World.size_setCell]; exact hzv
  have HZ1 := Lib.hid (hfz1.mono (show w.heap.size + 2 ≤ _ from hzz0) (Nat.le_refl _))
  have how1 := ow_set how1 (p := ⟨w.heap.size + 1, 0, none⟩) (fri_not HZ1.out (show w.heap.size + 1 < w.heap.size + 2 by omega)) (.slice A1 (List.length n1) c1)
  have HSZ1 : Hid (W0.heap.size ≤ V1.heap.size) := hb1.size
  clear R0 R1 R2 R3 R4 X0 XF BRv BXv hvv hzv
  generalize hW : V1.setCell ⟨w.heap.size + 1, 0, none⟩ (.slice A1 (List.length n1) c1) = W1 at BR1 BX1 hv1 hzz1 how1 ⊢
  have HWZ1 : Hid (W1.heap.size = V1.heap.size) := by rw [← hW, World.size_setCell]; exact rfl
  clear hW
  cases hv : readBytes b p1 60 with
  | none =>
   have HN := Lib.hid (dd_2 E1.out hv)
   have hcall : Calls Try.prog 120 #[.slice A b.length c, .int .i64 p1, .int .i64 60] W1 (RetSl3 W1 .byte [] (.int .i64 0) (.bool false)) := by
    have hrd := Ty.rd_below hv1 h
    have := C_impl_ReadBytes W1 _ b p1 60 hrd b_29 b_29 b_29
    rw [hv] at this; exact this
   clear hv
   refine hcall.mono ?_
   rintro e V ⟨A9, c9, fp, rfl, how, hfr, hb⟩
   have BR9 := BR1.below hb BR1.lt
   have BX9 := BX1.below hb BX1.lt
   have hv9 := bel_trans hv1 hb
   clear hcall how hfr
   have R0 : V.cell? ⟨w.heap.size, 0, none⟩ = some (.slice none 0 0) := BR9.cell 0
   have RF0 : V.frozen? ⟨w.heap.size, 0, none⟩ = false := BR9.frozen 0
   have X0 : V.cell? ⟨w.heap.size + 1, 0, none⟩ = some (.slice A1 (List.length n1) c1) := BX9.cell 0
   have XF0 : V.frozen? ⟨w.heap.size + 1, 0, none⟩ = false := BX9.frozen 0
   have R1 : V.cell? ⟨w.heap.size, 1, none⟩ = some (.slice none 0 0) := BR9.cell 1
   have RF1 : V.frozen? ⟨w.heap.size, 1, none⟩ = false := BR9.frozen 1
   have X1 : V.cell? ⟨w.heap.size + 1, 1, none⟩ = some (.slice none 0 0) := BX9.cell 1
   have XF1 : V.frozen? ⟨w.heap.size + 1, 1, none⟩ = false := BX9.frozen 1
   have R2 : V.cell? ⟨w.heap.size, 2, none⟩ = some (.slice none 0 0) := BR9.cell 2
   have RF2 : V.frozen? ⟨w.heap.size, 2, none⟩ = false := BR9.frozen 2
   have X2 : V.cell? ⟨w.heap.size + 1, 2, none⟩ = some (.slice none 0 0) := BX9.cell 2
   have XF2 : V.frozen? ⟨w.heap.size + 1, 2, none⟩ = false := BX9.frozen 2
   have R3 : V.cell? ⟨w.heap.size, 3, none⟩ = some (.int .i64 0) := BR9.cell 3
   have RF3 : V.frozen? ⟨w.heap.size, 3, none⟩ = false := BR9.frozen 3
   have X3 : V.cell? ⟨w.heap.size + 1, 3, none⟩ = some (.int .i64 0) := BX9.cell 3
   have XF3 : V.frozen? ⟨w.heap.size + 1, 3, none⟩ = false := BX9.frozen 3
   have R4 : V.cell? ⟨w.heap.size, 4, none⟩ = some (.int .i64 0) := BR9.cell 4
   have RF4 : V.frozen? ⟨w.heap.size, 4, none⟩ = false := BR9.frozen 4
   have X4 : V.cell? ⟨w.heap.size + 1, 4, none⟩ = some (.int .i64 0) := BX9.cell 4
   have XF4 : V.frozen? ⟨w.heap.size + 1, 4, none⟩ = false := BX9.frozen 4
   have ZR := BR9.lt
   have ZX := BX9.lt
   set_option maxRecDepth 100000 in go_wp2
   refine bodyPost_ret (v := .tuple #[.agg #[.slice none 0 0, .slice none 0 0, .slice none 0 0, .int .i64 0, .int .i64 0], .bool false]) b_13 rfl ?_
   obtain ⟨hF0, hF1⟩ := HR0.out _ HN.out
   rw [hF0, hF1]
   exact ⟨[.slice none 0 0, .slice none 0 0, .slice none 0 0, .int .i64 0, .int .i64 0], [], rfl, ow_Data_zero _, FrI.nil _ _, b_5⟩
  | some r2 =>
   obtain ⟨s1, p2⟩ := r2
   have E2 := Lib.hid hv
   have D2 := readBytes_bd hv
   simp only at D2
   have hcall : Calls Try.prog 120 #[.slice A b.length c, .int .i64 p1, .int .i64 60] W1 (RetSl3 W1 .byte s1 (.int .i64 p2) (.bool true)) := by
    have hrd := Ty.rd_below hv1 h
    have := C_impl_ReadBytes W1 _ b p1 60 hrd b_29 b_29 b_29
    rw [hv] at this; exact this
   clear hv
   refine hcall.mono ?_
   rintro e V2 ⟨A2, c2, fp2, rfl, how2, hfr2, hb2⟩
   clear hcall
   have BRv := BR1.below hb2 BR1.lt
   have BXv := BX1.below hb2 BX1.lt
   have hvv := bel_trans hv1 hb2
   have hzv : w.heap.size + 2 ≤ V2.heap.size := Nat.le_trans hzz1 hb2.size
   have hfz2 : FrI W1.heap.size V2.heap.size fp2 := hfr2
   have how1 := Ty.ow_bel hb2 how1
   obtain ⟨R0, R1, R2, R3, R4, -, -, -, -, -, -⟩ := bk5 BRv
   have X1 : V2.cell? ⟨w.heap.size + 1, 1, none⟩ = some (.slice none 0 0) := BXv.cell 1
   have XF : V2.frozen? ⟨w.heap.size + 1, 1, none⟩ = false := BXv.frozen 1
   set_option maxRecDepth 100000 in go_wp2_with fail
   have BR2 := BRv.far (p := ⟨w.heap.size + 1, 1, none⟩) b_30 (.slice A2 (List.length s1) c2)
   have BX2 : Blk (V2.setCell ⟨w.heap.size + 1, 1, none⟩ (.slice A2 (List.length s1) c2)) (w.heap.size + 1) 46 #[.slice A1 (List.length n1) c1, .slice A2 (List.length s1) c2, .slice none 0 0, .int .i64 0, .int .i64 0] := BXv.set_ 1 (.slice A2 (List.length s1) c2)
   have hv2 : Below w.heap.size w (V2.setCell ⟨w.heap.size + 1, 1, none⟩ (.slice A2 (List.length s1) c2)) := bel_set hvv b_30 _
   have hzz2 : w.heap.size + 2 ≤ (V2.setCell ⟨w.heap.size + 1, 1, none⟩ (.slice A2 (List.length s1) c2)).heap.size := by rw [World.size_setCell]; exact hzv
   have how1 := ow_set how1 (p := ⟨w.heap.size + 1, 1, none⟩) (fri_not HZ1.out (show w.heap.size + 1 < w.heap.size + 2 by omega)) (.slice A2 (List.length s1) c2)
   have HZ2 := Lib.hid (hfz2.mono (show w.heap.size + 2 ≤ _ from hzz1) (Nat.le_refl _))
   have how2 := ow_set how2 (p := ⟨w.heap.size + 1, 1, none⟩) (fri_not HZ2.out (show w.heap.size + 1 < w.heap.size + 2 by omega)) (.slice A2 (List.length s1) c2)
   have HSZ2 : Hid (W1.heap.size ≤ V2.heap.size) := hb2.size
   clear R0 R1 R2 R3 R4 X1 XF BRv BXv hvv hzv
   generalize hW : V2.setCell ⟨w.heap.size + 1, 1, none⟩ (.slice A2 (List.length s1) c2) = W2 at BR2 BX2 hv2 hzz2 how1 how2 ⊢
   have HWZ2 : Hid (W2.heap.size = V2.heap.size) := by rw [← hW, World.size_setCell]; exact rfl
   clear hW
   cases hv : readName b p2 with
   | none =>
    have HN := Lib.hid (dd_3 E1.out E2.out hv)
    have hcall : Calls Try.prog 119 #[.slice A b.length c, .int .i64 p2] W2 (RetAgg3 W2 (.sl .str) [] (.int .i64 0) (.bool false)) := by
     have hrd := Ty.rd_below hv2 h
     have := C_impl_ReadName W2 _ b p2 hrd b_29 b_29
     rw [hv] at this; exact this
    clear hv
    refine hcall.mono ?_
    rintro e V ⟨cs, fp, rfl, how, hfr, hb⟩
    obtain ⟨A9, c9, rfl⟩ := Ty.ow_slv how
    have BR9 := BR2.below hb BR2.lt
    have BX9 := BX2.below hb BX2.lt
    have hv9 := bel_trans hv2 hb
    clear hcall how hfr
    have R0 : V.cell? ⟨w.heap.size, 0, none⟩ = some (.slice none 0 0) := BR9.cell 0
    have RF0 : V.frozen? ⟨w.heap.size, 0, none⟩ = false := BR9.frozen 0
    have X0 : V.cell? ⟨w.heap.size + 1, 0, none⟩ = some (.slice A1 (List.length n1) c1) := BX9.cell 0
    have XF0 : V.frozen? ⟨w.heap.size + 1, 0, none⟩ = false := BX9.frozen 0
    have R1 : V.cell? ⟨w.heap.size, 1, none⟩ = some (.slice none 0 0) := BR9.cell 1
    have RF1 : V.frozen? ⟨w.heap.size, 1, none⟩ = false := BR9.frozen 1
    have X1 : V.cell? ⟨w.heap.size + 1, 1, none⟩ = some (.slice A2 (List.length s1) c2) := BX9.cell 1
    have XF1 : V.frozen? ⟨w.heap.size + 1, 1, none⟩ = false := BX9.frozen 1
    have R2 : V.cell? ⟨w.heap.size, 2, none⟩ = some (.slice none 0 0) := BR9.cell 2
    have RF2 : V.frozen? ⟨w.heap.size, 2, none⟩ = false := BR9.frozen 2
    have X2 : V.cell? ⟨w.heap.size + 1, 2, none⟩ = some (.slice none 0 0) := BX9.cell 2
    have XF2 : V.frozen? ⟨w.heap.size + 1, 2, none⟩ = false := BX9.frozen 2
    have R3 : V.cell? ⟨w.heap.size, 3, none⟩ = some (.int .i64 0) := BR9.cell 3
    have RF3 : V.frozen? ⟨w.heap.size, 3, none⟩ = false := BR9.frozen 3
    have X3 : V.cell? ⟨w.heap.size + 1, 3, none⟩ = some (.int .i64 0) := BX9.cell 3
    have XF3 : V.frozen? ⟨w.heap.size + 1, 3, none⟩ = false := BX9.frozen 3
    have R4 : V.cell? ⟨w.heap.size, 4, none⟩ = some (.int .i64 0) := BR9.cell 4
    have RF4 : V.frozen? ⟨w.heap.size, 4, none⟩ = false := BR9.frozen 4
    have X4 : V.cell? ⟨w.heap.size + 1, 4, none⟩ = some (.int .i64 0) := BX9.cell 4
    have XF4 : V.frozen? ⟨w.heap.size + 1, 4, none⟩ = false := BX9.frozen 4
    have ZR := BR9.lt
    have ZX := BX9.lt
    set_option maxRecDepth 100000 in go_wp2
    refine bodyPost_ret (v := .tuple #[.agg #[.slice none 0 0, .slice none 0 0, .slice none 0 0, .int .i64 0, .int .i64 0], .bool false]) b_13 rfl ?_
    obtain ⟨hF0, hF1⟩ := HR0.out _ HN.out
    rw [hF0, hF1]
    exact ⟨[.slice none 0 0, .slice none 0 0, .slice none 0 0, .int .i64 0, .int .i64 0], [], rfl, ow_Data_zero _, FrI.nil _ _, b_5⟩
   | some r3 =>
    obtain ⟨k1, p3⟩ := r3
    have E3 := Lib.hid hv
    have D3 := readName_bd hv
    simp only at D3
    have hcall : Calls Try.prog 119 #[.slice A b.length c, .int .i64 p2] W2 (RetAgg3 W2 (.sl .str) k1 (.int .i64 p3) (.bool true)) := by
     have hrd := Ty.rd_below hv2 h
     have := C_impl_ReadName W2 _ b p2 hrd b_29 b_29
     rw [hv] at this; exact this
    clear hv
    refine hcall.mono ?_
    rintro e V3 ⟨cs3, fp3, rfl, how3, hfr3, hb3⟩
    obtain ⟨A3, c3, rfl⟩ := Ty.ow_slv how3
    clear hcall
    have BRv := BR2.below hb3 BR2.lt
    have BXv := BX2.below hb3 BX2.lt
    have hvv := bel_trans hv2 hb3
    have hzv : w.heap.size + 2 ≤ V3.heap.size := Nat.le_trans hzz2 hb3.size
    have hfz3 : FrI W2.heap.size V3.heap.size fp3 := hfr3
    have how1 := Ty.ow_bel hb3 how1
    have how2 := Ty.ow_bel hb3 how2
    obtain ⟨R0, R1, R2, R3, R4, -, -, -, -, -, -⟩ := bk5 BRv
    have X2 : V3.cell? ⟨w.heap.size + 1, 2, none⟩ = some (.slice none 0 0) := BXv.cell 2
    have XF : V3.frozen? ⟨w.heap.size + 1, 2, none⟩ = false := BXv.frozen 2
    set_option maxRecDepth 100000 in go_wp2_with fail
    have BR3 := BRv.far (p := ⟨w.heap.size + 1, 2, none⟩) b_30 (.slice A3 (List.length k1) c3)
    have BX3 : Blk (V3.setCell ⟨w.heap.size + 1, 2, none⟩ (.slice A3 (List.length k1) c3)) (w.heap.size + 1) 46 #[.slice A1 (List.length n1) c1, .slice A2 (List.length s1) c2, .slice A3 (List.length k1) c3, .int .i64 0, .int .i64 0] := BXv.set_ 2 (.slice A3 (List.length k1) c3)
    have hv3 : Below w.heap.size w (V3.setCell ⟨w.heap.size + 1, 2, none⟩ (.slice A3 (List.length k1) c3)) := bel_set hvv b_30 _
    have hzz3 : w.heap.size + 2 ≤ (V3.setCell ⟨w.heap.size + 1, 2, none⟩ (.slice A3 (List.length k1) c3)).heap.size := by rw [World.size_setCell]; exact hzv
    have how1 := ow_set how1 (p := ⟨w.heap.size + 1, 2, none⟩) (fri_not HZ1.out (show w.heap.size + 1 < w.heap.size + 2 by omega)) (.slice A3 (List.length k1) c3)
    have how2 := ow_set how2 (p := ⟨w.heap.size + 1, 2, none⟩) (fri_not HZ2.out (show w.heap.size + 1 < w.heap.size + 2 by omega)) (.slice A3 (List.length k1) c3)
    have HZ3 := Lib.hid (hfz3.mono (show w.heap.size + 2 ≤ _ from hzz2) (Nat.le_refl _))
    have how3 := ow_set how3 (p := ⟨w.heap.size + 1, 2, none⟩) (fri_not HZ3.out (show w.heap.size + 1 < w.heap.size + 2 by omega)) (.slice A3 (List.length k1) c3)
    have HSZ3 : Hid (W2.heap.size ≤ V3.heap.size) := hb3.size
    clear R0 R1 R2 R3 R4 X2 XF BRv BXv hvv hzv
    generalize hW : V3.setCell ⟨w.heap.size + 1, 2, none⟩ (.slice A3 (List.length k1) c3) = W3 at BR3 BX3 hv3 hzz3 how1 how2 how3 ⊢
    have HWZ3 : Hid (W3.heap.size = V3.heap.size) := by rw [← hW, World.size_setCell]; exact rfl
    clear hW
    cases hv : decodeInts b p3 2 with
    | none =>
     have HN := Lib.hid (dd_4 E1.out E2.out E3.out hv)
     have hcall : Calls Try.prog 121 #[.slice A b.length c, .int .i64 p3, .int .i64 2] W3 (RetSl3 W3 .int [] (.int .i64 0) (.bool false)) := by
      have hrd := Ty.rd_below hv3 h
      have := C_impl_DecodeInts W3 _ b p3 2 hrd b_29 b_29
      rw [hv] at this; exact this
     clear hv
     refine hcall.mono ?_
     rintro e V ⟨A9, c9, fp, rfl, how, hfr, hb⟩
     have BR9 := BR3.below hb BR3.lt
     have BX9 := BX3.below hb BX3.lt
     have hv9 := bel_trans hv3 hb
     clear hcall how hfr
     have R0 : V.cell? ⟨w.heap.size, 0, none⟩ = some (.slice none 0 0) := BR9.cell 0
     have RF0 : V.frozen? ⟨w.heap.size, 0, none⟩ = false := BR9.frozen 0
     have X0 : V.cell? ⟨w.heap.size + 1, 0, none⟩ = some (.slice A1 (List.length n1) c1) := BX9.cell 0
     have XF0 : V.frozen? ⟨w.heap.size + 1, 0, none⟩ = false := BX9.frozen 0
     have R1 : V.cell? ⟨w.heap.size, 1, none⟩ = some (.slice none 0 0) := BR9.cell 1
     have RF1 : V.frozen? ⟨w.heap.size, 1, none⟩ = false := BR9.frozen 1
     have X1 : V.cell? ⟨w.heap.size + 1, 1, none⟩ = some (.slice A2 (List.length s1) c2) := BX9.cell 1
     have XF1 : V.frozen? ⟨w.heap.size + 1, 1, none⟩ = false := BX9.frozen 1
     have R2 : V.cell? ⟨w.heap.size, 2, none⟩ = some (.slice none 0 0) := BR9.cell 2
     have RF2 : V.frozen? ⟨w.heap.size, 2, none⟩ = false := BR9.frozen 2
     have X2 : V.cell? ⟨w.heap.size + 1, 2, none⟩ = some (.slice A3 (List.length k1) c3) := BX9.cell 2
     have XF2 : V.frozen? ⟨w.heap.size + 1, 2, none⟩ = false := BX9.frozen 2
     have R3 : V.cell? ⟨w.heap.size, 3, none⟩ = some (.int .i64 0) := BR9.cell 3
     have RF3 : V.frozen? ⟨w.heap.size, 3, none⟩ = false := BR9.frozen 3
     have X3 : V.cell? ⟨w.heap.size + 1, 3, none⟩ = some (.int .i64 0) := BX9.cell 3
     have XF3 : V.frozen? ⟨w.heap.size + 1, 3, none⟩ = false := BX9.frozen 3
     have R4 : V.cell? ⟨w.heap.size, 4, none⟩ = some (.int .i64 0) := BR9.cell 4
     have RF4 : V.frozen? ⟨w.heap.size, 4, none⟩ = false := BR9.frozen 4
     have X4 : V.cell? ⟨w.heap.size + 1, 4, none⟩ = some (.int .i64 0) := BX9.cell 4
     have XF4 : V.frozen? ⟨w.heap.size + 1, 4, none⟩ = false := BX9.frozen 4
     have ZR := BR9.lt
     have ZX := BX9.lt
     set_option maxRecDepth 100000 in go_wp2
     refine bodyPost_ret (v := .tuple #[.agg #[.slice none 0 0, .slice none 0 0, .slice none 0 0, .int .i64 0, .int .i64 0], .bool false]) b_13 rfl ?_
     obtain ⟨hF0, hF1⟩ := HR0.out _ HN.out
     rw [hF0, hF1]
     exact ⟨[.slice none 0 0, .slice none 0 0, .slice none 0 0, .int .i64 0, .int .i64 0], [], rfl, ow_Data_zero _, FrI.nil _ _, b_5⟩
    | some r4 =>
     obtain ⟨ll, p4⟩ := r4
     have E4 := Lib.hid hv
     have D4 := decodeInts_bd hv
     simp only at D4
     obtain ⟨l0, l1, rfl⟩ := two_of D4.1
     have hl0 := D4.2.2.2 l0 b_30
     have hl1 := D4.2.2.2 l1 b_30
     have hcall : Calls Try.prog 121 #[.slice A b.length c, .int .i64 p3, .int .i64 2] W3 (RetSl3 W3 .int [l0, l1] (.int .i64 p4) (.bool true)) := by
      have hrd := Ty.rd_below hv3 h
      have := C_impl_DecodeInts W3 _ b p3 2 hrd b_29 b_29
      rw [hv] at this; exact this
     clear hv
     refine hcall.mono ?_
     rintro e V4 ⟨A4, c4, fp4, rfl, how4, hfr4, hb4⟩
     clear hcall
     have BRv := BR3.below hb4 BR3.lt
     have BXv := BX3.below hb4 BX3.lt
     have hvv := bel_trans hv3 hb4
     have hzv : w.heap.size + 2 ≤ V4.heap.size := Nat.le_trans hzz3 hb4.size
     have hfz4 : FrI W3.heap.size V4.heap.size fp4 := hfr4
     have how1 := Ty.ow_bel hb4 how1
     have how2 := Ty.ow_bel hb4 how2
     have how3 := Ty.ow_bel hb4 how3
     by_cases hend : p4 = b.length
     rotate_left
     ·have HN := Lib.hid (dd_5 E1.out E2.out E3.out E4.out hend)
      have hq : ((p4 : Int) != (b.length : Int)) = true := by rw [bne_iff_ne]; omega
      clear hend
      have BR9 := BRv
      have BX9 := BXv
      have R0 : V4.cell? ⟨w.heap.size, 0, none⟩ = some (.slice none 0 0) := BR9.cell 0
      have RF0 : V4.frozen? ⟨w.heap.size, 0, none⟩ = false := BR9.frozen 0
      have X0 : V4.cell? ⟨w.heap.size + 1, 0, none⟩ = some (.slice A1 (List.length n1) c1) := BX9.cell 0
      have XF0 : V4.frozen? ⟨w.heap.size + 1, 0, none⟩ = false := BX9.frozen 0
      have R1 : V4.cell? ⟨w.heap.size, 1, none⟩ = some (.slice none 0 0) := BR9.cell 1
      have RF1 : V4.frozen? ⟨w.heap.size, 1, none⟩ = false := BR9.frozen 1
      have X1 : V4.cell? ⟨w.heap.size + 1, 1, none⟩ = some (.slice A2 (List.length s1) c2) := BX9.cell 1
      have XF1 : V4.frozen? ⟨w.heap.size + 1, 1, none⟩ = false := BX9.frozen 1
      have R2 : V4.cell? ⟨w.heap.size, 2, none⟩ = some (.slice none 0 0) := BR9.cell 2
      have RF2 : V4.frozen? ⟨w.heap.size, 2, none⟩ = false := BR9.frozen 2
      have X2 : V4.cell? ⟨w.heap.size + 1, 2, none⟩ = some (.slice A3 (List.length k1) c3) := BX9.cell 2
      have XF2 : V4.frozen? ⟨w.heap.size + 1, 2, none⟩ = false := BX9.frozen 2
      have R3 : V4.cell? ⟨w.heap.size, 3, none⟩ = some (.int .i64 0) := BR9.cell 3
      have RF3 : V4.frozen? ⟨w.heap.size, 3, none⟩ = false := BR9.frozen 3
      have X3 : V4.cell? ⟨w.heap.size + 1, 3, none⟩ = some (.int .i64 0) := BX9.cell 3
      have XF3 : V4.frozen? ⟨w.heap.size + 1, 3, none⟩ = false := BX9.frozen 3
      have R4 : V4.cell? ⟨w.heap.size, 4, none⟩ = some (.int .i64 0) := BR9.cell 4
      have RF4 : V4.frozen? ⟨w.heap.size, 4, none⟩ = false := BR9.frozen 4
      have X4 : V4.cell? ⟨w.heap.size + 1, 4, none⟩ = some (.int .i64 0) := BX9.cell 4
      have XF4 : V4.frozen? ⟨w.heap.size + 1, 4, none⟩ = false := BX9.frozen 4
      have ZR := BR9.lt
      have ZX := BX9.lt
      set_option maxRecDepth 100000 in go_wp2
      refine bodyPost_ret (v := .tuple #[.agg #[.slice none 0 0, .slice none 0 0, .slice none 0 0, .int .i64 0, .int .i64 0], .bool false]) b_13 rfl ?_
      obtain ⟨hF0, hF1⟩ := HR0.out _ HN.out
      rw [hF0, hF1]
      exact ⟨[.slice none 0 0, .slice none 0 0, .slice none 0 0, .int .i64 0, .int .i64 0], [], rfl, ow_Data_zero _, FrI.nil _ _, b_5⟩
     have HN := Lib.hid (dd_6 E1.out E2.out E3.out E4.out hend rfl)
     have hq : ((p4 : Int) != (b.length : Int)) = false := by simp [hend]
     clear hend E4
     obtain ⟨lb, lo, rfl, le0, _⟩ := Ty.rd_int_at (Ty.ow_rd how4) (show 0 < [l0, l1].length by simp)
     obtain ⟨lb', lo', he', le1, _⟩ := Ty.rd_int_at (Ty.ow_rd how4) (show 1 < [l0, l1].length by simp)
     injection he' with he'; injection he' with he1 he2; subst he1; subst he2
     have le0 : V4.cell? ⟨lb, lo, none⟩ = some (.int .i64 l0) := le0
     have le1 : V4.cell? ⟨lb, lo + 1, none⟩ = some (.int .i64 l1) := le1
     have hlbm := hfz4.2 _ (ow_blk how4 (show 0 < [l0, l1].length by simp))
     have hlbn : ¬ lb = w.heap.size + 1 := by omega
     have hlbn2 : ¬ w.heap.size + 1 = lb := by omega
     have R0 : V4.cell? ⟨w.heap.size, 0, none⟩ = some (.slice none 0 0) := BRv.cell 0
     have RF0 : V4.frozen? ⟨w.heap.size, 0, none⟩ = false := BRv.frozen 0
     have X0 : V4.cell? ⟨w.heap.size + 1, 0, none⟩ = some (.slice A1 (List.length n1) c1) := BXv.cell 0
     have XF0 : V4.frozen? ⟨w.heap.size + 1, 0, none⟩ = false := BXv.frozen 0
     have R1 : V4.cell? ⟨w.heap.size, 1, none⟩ = some (.slice none 0 0) := BRv.cell 1
     have RF1 : V4.frozen? ⟨w.heap.size, 1, none⟩ = false := BRv.frozen 1
     have X1 : V4.cell? ⟨w.heap.size + 1, 1, none⟩ = some (.slice A2 (List.length s1) c2) := BXv.cell 1
     have XF1 : V4.frozen? ⟨w.heap.size + 1, 1, none⟩ = false := BXv.frozen 1
     have R2 : V4.cell? ⟨w.heap.size, 2, none⟩ = some (.slice none 0 0) := BRv.cell 2
     have RF2 : V4.frozen? ⟨w.heap.size, 2, none⟩ = false := BRv.frozen 2
     have X2 : V4.cell? ⟨w.heap.size + 1, 2, none⟩ = some (.slice A3 (List.length k1) c3) := BXv.cell 2
     have XF2 : V4.frozen? ⟨w.heap.size + 1, 2, none⟩ = false := BXv.frozen 2
     have R3 : V4.cell? ⟨w.heap.size, 3, none⟩ = some (.int .i64 0) := BRv.cell 3
     have RF3 : V4.frozen? ⟨w.heap.size, 3, none⟩ = false := BRv.frozen 3
     have X3 : V4.cell? ⟨w.heap.size + 1, 3, none⟩ = some (.int .i64 0) := BXv.cell 3
     have XF3 : V4.frozen? ⟨w.heap.size + 1, 3, none⟩ = false := BXv.frozen 3
     have R4 : V4.cell? ⟨w.heap.size, 4, none⟩ = some (.int .i64 0) := BRv.cell 4
     have RF4 : V4.frozen? ⟨w.heap.size, 4, none⟩ = false := BRv.frozen 4
     have X4 : V4.cell? ⟨w.heap.size + 1, 4, none⟩ = some (.int .i64 0) := BXv.cell 4
     have XF4 : V4.frozen? ⟨w.heap.size + 1, 4, none⟩ = false := BXv.frozen 4
     have ZR := BRv.lt
     have ZX := BXv.lt
     set_option maxRecDepth 100000 in go_wp2
     set_option maxRecDepth 100000 in go_region
     set_option maxRecDepth 100000 in go_wp2_with fail
     have BR5 : Blk ((V4.setCell ⟨w.heap.size + 1, 3, none⟩ (.int .i64 l0)).setCell ⟨w.heap.size + 1, 4, none⟩ (.int .i64 l1)).drew w.heap.size 46 #[.slice none 0 0, .slice none 0 0, .slice none 0 0, .int .i64 0, .int .i64 0] := ((BRv.far (p := ⟨w.heap.size + 1, 3, none⟩) b_30 (.int .i64 l0)).far (p := ⟨w.heap.size + 1, 4, none⟩) b_30 (.int .i64 l1)).drew
     have BX5 : Blk ((V4.setCell ⟨w.heap.size + 1, 3, none⟩ (.int .i64 l0)).setCell ⟨w.heap.size + 1, 4, none⟩ (.int .i64 l1)).drew (w.heap.size + 1) 46 #[.slice A1 (List.length n1) c1, .slice A2 (List.length s1) c2, .slice A3 (List.length k1) c3, .int .i64 l0, .int .i64 l1] := ((BXv.set_ 3 (.int .i64 l0)).set_ 4 (.int .i64 l1)).drew
     have hv5 : Below w.heap.size w ((V4.setCell ⟨w.heap.size + 1, 3, none⟩ (.int .i64 l0)).setCell ⟨w.heap.size + 1, 4, none⟩ (.int .i64 l1)).drew := b_5
     have how1 : Ty.ow ((V4.setCell ⟨w.heap.size + 1, 3, none⟩ (.int .i64 l0)).setCell ⟨w.heap.size + 1, 4, none⟩ (.int .i64 l1)).drew _ _ _ fp1 := Ty.ow_bel (bel_drew (Below.refl _ _)) (ow_set (ow_set how1 (p := ⟨w.heap.size + 1, 3, none⟩) (fri_not HZ1.out (show w.heap.size + 1 < w.heap.size + 2 by omega)) (.int .i64 l0)) (p := ⟨w.heap.size + 1, 4, none⟩) (fri_not HZ1.out (show w.heap.size + 1 < w.heap.size + 2 by omega)) (.int .i64 l1))
     have how2 : Ty.ow ((V4.setCell ⟨w.heap.size + 1, 3, none⟩ (.int .i64 l0)).setCell ⟨w.heap.size + 1, 4, none⟩ (.int .i64 l1)).drew _ _ _ fp2 := Ty.ow_bel (bel_drew (Below.refl _ _)) (ow_set (ow_set how2 (p := ⟨w.heap.size + 1, 3, none⟩) (fri_not HZ2.out (show w.heap.size + 1 < w.heap.size + 2 by omega)) (.int .i64 l0)) (p := ⟨w.heap.size + 1, 4, none⟩) (fri_not HZ2.out (show w.heap.size + 1 < w.heap.size + 2 by omega)) (.int .i64 l1))
     have how3 : Ty.ow ((V4.setCell ⟨w.heap.size + 1, 3, none⟩ (.int .i64 l0)).setCell ⟨w.heap.size + 1, 4, none⟩ (.int .i64 l1)).drew _ _ _ fp3 := Ty.ow_bel (bel_drew (Below.refl _ _)) (ow_set (ow_set how3 (p := ⟨w.heap.size + 1, 3, none⟩) (fri_not HZ3.out (show w.heap.size + 1 < w.heap.size + 2 by omega)) (.int .i64 l0)) (p := ⟨w.heap.size + 1, 4, none⟩) (fri_not HZ3.out (show w.heap.size + 1 < w.heap.size + 2 by omega)) (.int .i64 l1))
     have hz5 : V4.heap.size ≤ (((V4.setCell ⟨w.heap.size + 1, 3, none⟩ (.int .i64 l0)).setCell ⟨w.heap.size + 1, 4, none⟩ (.int .i64 l1)).drew).heap.size := by simp only [World.size_drew, World.size_setCell]; omega
     clear R0 RF0 X0 XF0 R1 RF1 X1 XF1 R2 RF2 X2 XF2 R3 RF3 X3 XF3 R4 RF4 X4 XF4 ZR ZX BRv BXv hvv hzv le0 le1
     generalize hW5 : ((V4.setCell ⟨w.heap.size + 1, 3, none⟩ (.int .i64 l0)).setCell ⟨w.heap.size + 1, 4, none⟩ (.int .i64 l1)).drew = W5 at BR5 BX5 hv5 how1 how2 how3 hz5 ⊢
     clear hW5
     have HD := Lib.hid (ow_Data_mkD (x := (n1, s1, k1, l0, l1)) how1 how2 how3 ⟨by show -9223372036854775808 ≤ l0; omega, by show l0 ≤ 9223372036854775807; omega⟩ ⟨by show -9223372036854775808 ≤ l1; omega, by show l1 ≤ 9223372036854775807; omega⟩)
     have hbkd := data_bulkD (l0 := l0) (l1 := l1) D1.1 b_29 D3.1 (s := s1)
     have hfD : FrI (w.heap.size + 2) V3.heap.size (fp1 ++ (fp2 ++ fp3)) := by
      have e1 := HWZ1.out; have e2 := HWZ2.out; have z2 := HSZ2.out; have z3 := HSZ3.out; have z1 := HZ1.out
      exact FrI.app HZ1.out (FrI.app (hfz2) (hfz3) b_29 b_29 b_29) b_29 b_29 b_29
     refine (C_impl_ValidData _ _ (n1, s1, k1, l0, l1) (Ty.ow_rd HD.out) hbkd).mono ?_
     rintro e V6 ⟨rfl, hb6⟩
     have BR6 := BR5.below hb6 BR5.lt
     have BX6 := BX5.below hb6 BX5.lt
     have hv6 := bel_trans hv5 hb6
     have hf6 : FrI (w.heap.size + 2) V6.heap.size (fp1 ++ (fp2 ++ fp3)) := hfD.mono (Nat.le_refl _) (by have h1 := HWZ3.out; have h2 := hb4.size; have h3 := hb6.size; omega)
     have HD6 := Lib.hid (Ty.ow_bel hb6 HD.out)
     have R0 : V6.cell? ⟨w.heap.size, 0, none⟩ = some (.slice none 0 0) := BR6.cell 0
     have RF0 : V6.frozen? ⟨w.heap.size, 0, none⟩ = false := BR6.frozen 0
     have X0 : V6.cell? ⟨w.heap.size + 1, 0, none⟩ = some (.slice A1 (List.length n1) c1) := BX6.cell 0
     have XF0 : V6.frozen? ⟨w.heap.size + 1, 0, none⟩ = false := BX6.frozen 0
     have R1 : V6.cell? ⟨w.heap.size, 1, none⟩ = some (.slice none 0 0) := BR6.cell 1
     have RF1 : V6.frozen? ⟨w.heap.size, 1, none⟩ = false := BR6.frozen 1
     have X1 : V6.cell? ⟨w.heap.size + 1, 1, none⟩ = some (.slice A2 (List.length s1) c2) := BX6.cell 1
     have XF1 : V6.frozen? ⟨w.heap.size + 1, 1, none⟩ = false := BX6.frozen 1
     have R2 : V6.cell? ⟨w.heap.size, 2, none⟩ = some (.slice none 0 0) := BR6.cell 2
     have RF2 : V6.frozen? ⟨w.heap.size, 2, none⟩ = false := BR6.frozen 2
     have X2 : V6.cell? ⟨w.heap.size + 1, 2, none⟩ = some (.slice A3 (List.length k1) c3) := BX6.cell 2
     have XF2 : V6.frozen? ⟨w.heap.size + 1, 2, none⟩ = false := BX6.frozen 2
     have R3 : V6.cell? ⟨w.heap.size, 3, none⟩ = some (.int .i64 0) := BR6.cell 3
     have RF3 : V6.frozen? ⟨w.heap.size, 3, none⟩ = false := BR6.frozen 3
     have X3 : V6.cell? ⟨w.heap.size + 1, 3, none⟩ = some (.int .i64 l0) := BX6.cell 3
     have XF3 : V6.frozen? ⟨w.heap.size + 1, 3, none⟩ = false := BX6.frozen 3
     have R4 : V6.cell? ⟨w.heap.size, 4, none⟩ = some (.int .i64 0) := BR6.cell 4
     have RF4 : V6.frozen? ⟨w.heap.size, 4, none⟩ = false := BR6.frozen 4
     have X4 : V6.cell? ⟨w.heap.size + 1, 4, none⟩ = some (.int .i64 l1) := BX6.cell 4
     have XF4 : V6.frozen? ⟨w.heap.size + 1, 4, none⟩ = false := BX6.frozen 4
     have ZR := BR6.lt
     have ZX := BX6.lt
     cases q0 : f_ValidData (n1, s1, k1, l0, l1)
     ·rw [q0] at HN
      have HN0 : Hid (decodeData b = none) := HN.out
      set_option maxRecDepth 100000 in go_wp2
      refine bodyPost_ret (v := .tuple #[.agg #[.slice none 0 0, .slice none 0 0, .slice none 0 0, .int .i64 0, .int .i64 0], .bool false]) b_13 rfl ?_
      obtain ⟨hF0, hF1⟩ := HR0.out _ HN0.out
      rw [hF0, hF1]
      exact ⟨[.slice none 0 0, .slice none 0 0, .slice none 0 0, .int .i64 0, .int .i64 0], [], rfl, ow_Data_zero _, FrI.nil _ _, b_5⟩
     ·rw [q0] at HN
      have HN0 : Hid (decodeData b = some (n1, s1, k1, l0, l1)) := HN.out
      set_option maxRecDepth 100000 in go_wp2
      refine bodyPost_ret (v := .tuple #[.agg #[.slice A1 (List.length n1) c1, .slice A2 (List.length s1) c2, .slice A3 (List.length k1) c3, .int .i64 l0, .int .i64 l1], .bool true]) b_13 rfl ?_
      obtain ⟨hF0, hF1⟩ := HR0.out _ HN0.out
      rw [hF0, hF1]
      exact ⟨[.slice A1 (List.length n1) c1, .slice A2 (List.length s1) c2, .slice A3 (List.length k1) c3, .int .i64 l0, .int .i64 l1], fp1 ++ (fp2 ++ fp3), rfl, Ty.ow_keep (by intro b hb'; have hb'' := (hf6).2 b hb'; (try simp only [szz] at hb''); repeat (first | (with_reducible rfl) | (rw [Below.heap_setCell _ _ _ _ b_24]) | (rw [Below.heap_alloc _ _ _ (by simp only [World.size_alloc, World.size_setCell]; omega)]))) HD6.out, hf6.mono b_29 b_19, b_5⟩
set_option maxHeartbeats 8000000 in
theorem C_spec_DecodeData (w : World) (v : Value) (b : List UInt8) (h : (Ty.sl .byte).rd w [v] b) (s0 : Ty.bulk (.sl .byte) b ≤ 1048576) :
  Calls Try.prog 48 #[v] w (RetAgg2 w tData (f0_DecodeData b) (.bool (f1_DecodeData b))) := by
 obtain ⟨A, c, rfl, hc, hm, hn⟩ := Ty.rd_sl h
 have hbl : b.length ≤ 1048576 := Ty.bulk_len s0
 have HR0 : Hid (∀ r, decodeData b = r → f0_DecodeData b = r.getD ([], [], [], 0, 0) ∧ f1_DecodeData b = r.isSome) := fun r hr => by unfold f0_DecodeData f1_DecodeData; rw [hr]; exact ⟨rfl, rfl⟩
 generalize f0_DecodeData b = F0 at HR0 ⊢
 generalize f1_DecodeData b = F1 at HR0 ⊢
 have BR0 : Blk (w.alloc (.cells #[.slice none 0 0, .slice none 0 0, .slice none 0 0, .int .i64 0, .int .i64 0] 46)) w.heap.size 46 #[.slice none 0 0, .slice none 0 0, .slice none 0 0, .int .i64 0, .int .i64 0] := Blk.new w _ _
 have hv0 : Below w.heap.size w (w.alloc (.cells #[.slice none 0 0, .slice none 0 0, .slice none 0 0, .int .i64 0, .int .i64 0] 46)) := b_5
 go_enter Try.func48, Try.ntmps48
 go_wp2_with fail
 generalize hW0 : (w.alloc (.cells #[.slice none 0 0, .slice none 0 0, .slice none 0 0, .int .i64 0, .int .i64 0] 46)) = W0 at BR0 hv0 ⊢
 clear hW0
 cases hv : readName b 0 with
 | none =>
  have HN := Lib.hid (dd_1 hv)
  have hcall : Calls Try.prog 122 #[.slice A b.length c, .int .i64 0] W0 (RetAgg3 W0 (.sl .str) [] (.int .i64 0) (.bool false)) := by
   have hrd := Ty.rd_below hv0 h
   have := C_spec_ReadName W0 _ b 0 hrd b_29 b_29
   rw [hv] at this; exact this
  clear hv
  refine hcall.mono ?_
  rintro e V ⟨cs, fp, rfl, how, hfr, hb⟩
  obtain ⟨A9, c9, rfl⟩ := Ty.ow_slv how
  clear hcall hfr
  clear how
  have BR9 := BR0.below hb BR0.lt
  have hv9 := bel_trans hv0 hb
  obtain ⟨R0, R1, R2, R3, R4, RF0, RF1, RF2, RF3, RF4, -⟩ := bk5 BR9
  have ZR := BR9.lt
  set_option maxRecDepth 100000 in go_wp2
  refine bodyPost_ret (v := .tuple #[.agg #[.slice none 0 0, .slice none 0 0, .slice none 0 0, .int .i64 0, .int .i64 0], .bool false]) b_14 rfl ?_
  obtain ⟨hF0, hF1⟩ := HR0.out _ HN.out
  rw [hF0, hF1]
  exact ⟨[.slice none 0 0, .slice none 0 0, .slice none 0 0, .int .i64 0, .int .i64 0], [], rfl, ow_Data_zero _, FrI.nil _ _, b_5⟩
 | some r1 =>
  obtain ⟨n1, p1⟩ := r1
  have E1 := Lib.hid hv
  have D1 := readName_bd hv
  simp only at D1
  have hcall : Calls Try.prog 122 #[.slice A b.length c, .int .i64 0] W0 (RetAgg3 W0 (.sl .str) n1 (.int .i64 p1) (.bool true)) := by
   have hrd := Ty.rd_below hv0 h
   have := C_spec_ReadName W0 _ b 0 hrd b_29 b_29
   rw [hv] at this; exact this
  clear hv
  refine hcall.mono ?_
  rintro e V1 ⟨cs1, fp1, rfl, how1, hfr1, hb1⟩
  obtain ⟨A1, c1, rfl⟩ := Ty.ow_slv how1
  clear hcall
  have BRv := BR0.below hb1 BR0.lt
  have hvv := bel_trans hv0 hb1
  have BR1 := BRv.alloc (.cells #[.slice A1 (List.length n1) c1] 27)
  have hv1 : Below w.heap.size w (V1.alloc (.cells #[.slice A1 (List.length n1) c1] 27)) := bel_alloc hvv _
  have Bn1 : Blk (V1.alloc (.cells #[.slice A1 (List.length n1) c1] 27)) V1.heap.size 27 #[.slice A1 (List.length n1) c1] := Blk.new _ _ _
  have how1 : Ty.ow (V1.alloc (.cells #[.slice A1 (List.length n1) c1] 27)) _ _ _ fp1 := Ty.ow_bel ((Below.refl _ _).alloc (Nat.le_refl _) _) how1
  have hs1 : V1.heap.size ≤ (V1.alloc (.cells #[.slice A1 (List.length n1) c1] 27)).heap.size := by rw [World.size_alloc]; omega
  set_option maxRecDepth 100000 in go_wp2_with fail
  generalize hW : (V1.alloc (.cells #[.slice A1 (List.length n1) c1] 27)) = W1 at BR1 hv1 Bn1  how1 hs1 ⊢
  clear hW BRv hvv
  cases hv : readBytes b p1 60 with
  | none =>
   have HN := Lib.hid (dd_2 E1.out hv)
   have hcall : Calls Try.prog 123 #[.slice A b.length c, .int .i64 p1, .int .i64 60] W1 (RetSl3 W1 .byte [] (.int .i64 0) (.bool false)) := by
    have hrd := Ty.rd_below hv1 h
    have := C_spec_ReadBytes W1 _ b p1 60 hrd b_29 b_29 b_29
    rw [hv] at this; exact this
   clear hv
   refine hcall.mono ?_
   rintro e V ⟨A9, c9, fp, rfl, how, hfr, hb⟩
   clear hcall hfr
   clear how
   have BR9 := BR1.below hb BR1.lt
   have hv9 := bel_trans hv1 hb
   obtain ⟨R0, R1, R2, R3, R4, RF0, RF1, RF2, RF3, RF4, -⟩ := bk5 BR9
   have ZR := BR9.lt
   set_option maxRecDepth 100000 in go_wp2
   refine bodyPost_ret (v := .tuple #[.agg #[.slice none 0 0, .slice none 0 0, .slice none 0 0, .int .i64 0, .int .i64 0], .bool false]) b_14 rfl ?_
   obtain ⟨hF0, hF1⟩ := HR0.out _ HN.out
   rw [hF0, hF1]
   exact ⟨[.slice none 0 0, .slice none 0 0, .slice none 0 0, .int .i64 0, .int .i64 0], [], rfl, ow_Data_zero _, FrI.nil _ _, b_5⟩
  | some r2 =>
   obtain ⟨s1, p2⟩ := r2
   have E2 := Lib.hid hv
   have D2 := readBytes_bd hv
   simp only at D2
   have hcall : Calls Try.prog 123 #[.slice A b.length c, .int .i64 p1, .int .i64 60] W1 (RetSl3 W1 .byte s1 (.int .i64 p2) (.bool true)) := by
    have hrd := Ty.rd_below hv1 h
    have := C_spec_ReadBytes W1 _ b p1 60 hrd b_29 b_29 b_29
    rw [hv] at this; exact this
   clear hv
   refine hcall.mono ?_
   rintro e V2 ⟨A2, c2, fp2, rfl, how2, hfr2, hb2⟩
   clear hcall
   have how1 := Ty.ow_bel hb2 how1
   have Bn2 := Bn1.below hb2 Bn1.lt
   have BRv := BR1.below hb2 BR1.lt
   have hvv := bel_trans hv1 hb2
   have BR2 := BRv
   have hv2 := hvv
   clear BRv hvv
   set_option maxRecDepth 100000 in go_wp2_with fail
   generalize hW : V2 = W2 at BR2 hv2 Bn2 how1 how2 hb2 hfr2 ⊢
   clear hW
   cases hv : readName b p2 with
   | none =>
    have HN := Lib.hid (dd_3 E1.out E2.out hv)
    have hcall : Calls Try.prog 122 #[.slice A b.length c, .int .i64 p2] W2 (RetAgg3 W2 (.sl .str) [] (.int .i64 0) (.bool false)) := by
     have hrd := Ty.rd_below hv2 h
     have := C_spec_ReadName W2 _ b p2 hrd b_29 b_29
     rw [hv] at this; exact this
    clear hv
    refine hcall.mono ?_
    rintro e V ⟨cs, fp, rfl, how, hfr, hb⟩
    obtain ⟨A9, c9, rfl⟩ := Ty.ow_slv how
    clear hcall hfr
    have BR8 := (BR2.below hb BR2.lt).alloc (.cells #[.slice A9 (List.length ([] : List (List UInt8))) c9] 27)
    have hv8 : Below w.heap.size w (V.alloc (.cells #[.slice A9 (List.length ([] : List (List UInt8))) c9] 27)) := bel_alloc (bel_trans hv2 hb) _
    have hcall2 : Calls Try.prog 124 #[.slice A b.length c, .int .i64 0, .int .i64 2] (V.alloc (.cells #[.slice A9 (List.length ([] : List (List UInt8))) c9] 27)) (RetSl3 (V.alloc (.cells #[.slice A9 (List.length ([] : List (List UInt8))) c9] 27)) .int (di0 (decodeInts b 0 2)) (.int .i64 (di1 (decodeInts b 0 2))) (.bool (decodeInts b 0 2).isSome)) := by
     have hrd := Ty.rd_below hv8 h
     have := C_spec_DecodeInts (V.alloc (.cells #[.slice A9 (List.length ([] : List (List UInt8))) c9] 27)) _ b 0 2 hrd b_29 b_29
     exact this
    clear how
    set_option maxRecDepth 100000 in go_wp2_with fail
    refine hcall2.mono ?_
    rintro e V9 ⟨A8, c8, fp8, rfl, how8, hfr8, hb8⟩
    clear hcall2 how8 hfr8
    have BR9 := BR8.below hb8 BR8.lt
    have hv9 := bel_trans hv8 hb8
    generalize (decodeInts b 0 2).isSome = gg
    obtain ⟨R0, R1, R2, R3, R4, RF0, RF1, RF2, RF3, RF4, -⟩ := bk5 BR9
    have ZR := BR9.lt
    set_option maxRecDepth 100000 in go_wp2
    refine bodyPost_ret (v := .tuple #[.agg #[.slice none 0 0, .slice none 0 0, .slice none 0 0, .int .i64 0, .int .i64 0], .bool false]) b_14 rfl ?_
    obtain ⟨hF0, hF1⟩ := HR0.out _ HN.out
    rw [hF0, hF1]
    exact ⟨[.slice none 0 0, .slice none 0 0, .slice none 0 0, .int .i64 0, .int .i64 0], [], rfl, ow_Data_zero _, FrI.nil _ _, b_5⟩
   | some r3 =>
    obtain ⟨k1, p3⟩ := r3
    have E3 := Lib.hid hv
    have D3 := readName_bd hv
    simp only at D3
    have hcall : Calls Try.prog 122 #[.slice A b.length c, .int .i64 p2] W2 (RetAgg3 W2 (.sl .str) k1 (.int .i64 p3) (.bool true)) := by
     have hrd := Ty.rd_below hv2 h
     have := C_spec_ReadName W2 _ b p2 hrd b_29 b_29
     rw [hv] at this; exact this
    clear hv
    refine hcall.mono ?_
    rintro e V3 ⟨cs3, fp3, rfl, how3, hfr3, hb3⟩
    obtain ⟨A3, c3, rfl⟩ := Ty.ow_slv how3
    clear hcall
    have how1 := Ty.ow_bel hb3 how1
    have how2 := Ty.ow_bel hb3 how2
    have Bn3 := Bn2.below hb3 Bn2.lt
    have BRv := BR2.below hb3 BR2.lt
    have hvv := bel_trans hv2 hb3
    have BR3 := BRv.alloc (.cells #[.slice A3 (List.length k1) c3] 27)
    have hv3 : Below w.heap.size w (V3.alloc (.cells #[.slice A3 (List.length k1) c3] 27)) := bel_alloc hvv _
    have Bn3 := Bn3.alloc (.cells #[.slice A3 (List.length k1) c3] 27)
    have Bk3 : Blk (V3.alloc (.cells #[.slice A3 (List.length k1) c3] 27)) V3.heap.size 27 #[.slice A3 (List.length k1) c3] := Blk.new _ _ _
    have how1 : Ty.ow (V3.alloc (.cells #[.slice A3 (List.length k1) c3] 27)) _ _ _ fp1 := Ty.ow_bel ((Below.refl _ _).alloc (Nat.le_refl _) _) how1
    have how2 : Ty.ow (V3.alloc (.cells #[.slice A3 (List.length k1) c3] 27)) _ _ _ fp2 := Ty.ow_bel ((Below.refl _ _).alloc (Nat.le_refl _) _) how2
    have how3 : Ty.ow (V3.alloc (.cells #[.slice A3 (List.length k1) c3] 27)) _ _ _ fp3 := Ty.ow_bel ((Below.refl _ _).alloc (Nat.le_refl _) _) how3
    have hs3 : V3.heap.size ≤ (V3.alloc (.cells #[.slice A3 (List.length k1) c3] 27)).heap.size := by rw [World.size_alloc]; omega
    set_option maxRecDepth 100000 in go_wp2_with fail
    generalize hW : (V3.alloc (.cells #[.slice A3 (List.length k1) c3] 27)) = W3 at BR3 hv3 Bn3 Bk3 how1 how2 how3 hs3 ⊢
    clear hW BRv hvv
    cases hv : decodeInts b p3 2 with
    | none =>
     have HN := Lib.hid (dd_4 E1.out E2.out E3.out hv)
     have hcall : Calls Try.prog 124 #[.slice A b.length c, .int .i64 p3, .int .i64 2] W3 (RetSl3 W3 .int [] (.int .i64 0) (.bool false)) := by
      have hrd := Ty.rd_below hv3 h
      have := C_spec_DecodeInts W3 _ b p3 2 hrd b_29 b_29
      rw [hv] at this; exact this
     clear hv
     refine hcall.mono ?_
     rintro e V ⟨A9, c9, fp, rfl, how, hfr, hb⟩
     clear hcall hfr
     clear how
     have BR9 := BR3.below hb BR3.lt
     have hv9 := bel_trans hv3 hb
     obtain ⟨R0, R1, R2, R3, R4, RF0, RF1, RF2, RF3, RF4, -⟩ := bk5 BR9
     have ZR := BR9.lt
     set_option maxRecDepth 100000 in go_wp2
     refine bodyPost_ret (v := .tuple #[.agg #[.slice none 0 0, .slice none 0 0, .slice none 0 0, .int .i64 0, .int .i64 0], .bool false]) b_14 rfl ?_
     obtain ⟨hF0, hF1⟩ := HR0.out _ HN.out
     rw [hF0, hF1]
     exact ⟨[.slice none 0 0, .slice none 0 0, .slice none 0 0, .int .i64 0, .int .i64 0], [], rfl, ow_Data_zero _, FrI.nil _ _, b_5⟩
    | some r4 =>
     obtain ⟨ll, p4⟩ := r4
     have E4 := Lib.hid hv
     have D4 := decodeInts_bd hv
     simp only at D4
     obtain ⟨l0, l1, rfl⟩ := two_of D4.1
     have hl0 := D4.2.2.2 l0 b_30
     have hl1 := D4.2.2.2 l1 b_30
     have hcall : Calls Try.prog 124 #[.slice A b.length c, .int .i64 p3, .int .i64 2] W3 (RetSl3 W3 .int [l0, l1] (.int .i64 p4) (.bool true)) := by
      have hrd := Ty.rd_below hv3 h
      have := C_spec_DecodeInts W3 _ b p3 2 hrd b_29 b_29
      rw [hv] at this; exact this
     clear hv
     refine hcall.mono ?_
     rintro e V4 ⟨A4, c4, fp4, rfl, how4, hfr4, hb4⟩
     clear hcall
     have how1 := Ty.ow_bel hb4 how1
     have how2 := Ty.ow_bel hb4 how2
     have how3 := Ty.ow_bel hb4 how3
     have Bn4 := Bn3.below hb4 Bn3.lt
     have Bk4 := Bk3.below hb4 Bk3.lt
     have BRv := BR3.below hb4 BR3.lt
     have hvv := bel_trans hv3 hb4
     by_cases hend : p4 = b.length
     rotate_left
     ·have HN := Lib.hid (dd_5 E1.out E2.out E3.out E4.out hend)
      have hq : ((p4 : Int) != (b.length : Int)) = true := by rw [bne_iff_ne]; omega
      clear hend
      obtain ⟨R0, R1, R2, R3, R4, RF0, RF1, RF2, RF3, RF4, -⟩ := bk5 BRv
      have ZR := BRv.lt
      set_option maxRecDepth 100000 in go_wp2
      refine bodyPost_ret (v := .tuple #[.agg #[.slice none 0 0, .slice none 0 0, .slice none 0 0, .int .i64 0, .int .i64 0], .bool false]) b_14 rfl ?_
      obtain ⟨hF0, hF1⟩ := HR0.out _ HN.out
      rw [hF0, hF1]
      exact ⟨[.slice none 0 0, .slice none 0 0, .slice none 0 0, .int .i64 0, .int .i64 0], [], rfl, ow_Data_zero _, FrI.nil _ _, b_5⟩
     have HN := Lib.hid (dd_6 E1.out E2.out E3.out E4.out hend rfl)
     have hq : ((p4 : Int) != (b.length : Int)) = false := by simp [hend]
     clear hend E4
     obtain ⟨lb, lo, rfl, le0, _⟩ := Ty.rd_int_at (Ty.ow_rd how4) (show 0 < [l0, l1].length by simp)
     obtain ⟨lb', lo', he', le1, _⟩ := Ty.rd_int_at (Ty.ow_rd how4) (show 1 < [l0, l1].length by simp)
     injection he' with he'; injection he' with he1 he2; subst he1; subst he2
     have le0 : V4.cell? ⟨lb, lo, none⟩ = some (.int .i64 l0) := le0
     have le1 : V4.cell? ⟨lb, lo + 1, none⟩ = some (.int .i64 l1) := le1
     have hzl := World.block_lt_of_cell? V4 _ le0
     simp only at hzl
     have HS : Hid (∀ W, Below V4.heap.size V4 W → Below w.heap.size w W ∧ W.cell? ⟨V1.heap.size, 0, none⟩ = some (.slice A1 (List.length n1) c1) ∧ W.cell? ⟨V3.heap.size, 0, none⟩ = some (.slice A3 (List.length k1) c3) ∧ W.cell? ⟨lb, lo, none⟩ = some (.int .i64 l0) ∧ W.cell? ⟨lb, lo + 1, none⟩ = some (.int .i64 l1)) := fun W hW => ⟨bel_trans hvv hW, (hW.cell (p := ⟨V1.heap.size, 0, none⟩) Bn4.lt).trans (Bn4.cell 0), (hW.cell (p := ⟨V3.heap.size, 0, none⟩) Bk4.lt).trans (Bk4.cell 0), (hW.cell (p := ⟨lb, lo, none⟩) hzl).trans le0, (hW.cell (p := ⟨lb, lo + 1, none⟩) hzl).trans le1⟩
     set_option maxRecDepth 100000 in go_wp2_with fail
     set_option maxRecDepth 100000 in go_region_held3 (fun W => Below w.heap.size w W ∧ W.cell? ⟨V1.heap.size, 0, none⟩ = some (.slice A1 (List.length n1) c1) ∧ W.cell? ⟨V3.heap.size, 0, none⟩ = some (.slice A3 (List.length k1) c3) ∧ W.cell? ⟨lb, lo, none⟩ = some (.int .i64 l0) ∧ W.cell? ⟨lb, lo + 1, none⟩ = some (.int .i64 l1)) (exact HS.out _ b_5) (fail)
     set_option maxRecDepth 100000 in go_wp2_with fail
     have BR5 : Blk (V4.alloc (.cells #[.slice A1 (List.length n1) c1, .slice A2 (List.length s1) c2, .slice A3 (List.length k1) c3, .int .i64 l0, .int .i64 l1] 46)).drew w.heap.size 46 #[.slice none 0 0, .slice none 0 0, .slice none 0 0, .int .i64 0, .int .i64 0] := (BRv.alloc _).drew
     have BX5 : Blk (V4.alloc (.cells #[.slice A1 (List.length n1) c1, .slice A2 (List.length s1) c2, .slice A3 (List.length k1) c3, .int .i64 l0, .int .i64 l1] 46)).drew V4.heap.size 46 #[.slice A1 (List.length n1) c1, .slice A2 (List.length s1) c2, .slice A3 (List.length k1) c3, .int .i64 l0, .int .i64 l1] := (Blk.new V4 _ _).drew
     have hv5 : Below w.heap.size w (V4.alloc (.cells #[.slice A1 (List.length n1) c1, .slice A2 (List.length s1) c2, .slice A3 (List.length k1) c3, .int .i64 l0, .int .i64 l1] 46)).drew := b_5
     have how1 : Ty.ow (V4.alloc (.cells #[.slice A1 (List.length n1) c1, .slice A2 (List.length s1) c2, .slice A3 (List.length k1) c3, .int .i64 l0, .int .i64 l1] 46)).drew _ _ _ fp1 := Ty.ow_bel b_5 how1
     have how2 : Ty.ow (V4.alloc (.cells #[.slice A1 (List.length n1) c1, .slice A2 (List.length s1) c2, .slice A3 (List.length k1) c3, .int .i64 l0, .int .i64 l1] 46)).drew _ _ _ fp2 := Ty.ow_bel b_5 how2
     have how3 : Ty.ow (V4.alloc (.cells #[.slice A1 (List.length n1) c1, .slice A2 (List.length s1) c2, .slice A3 (List.length k1) c3, .int .i64 l0, .int .i64 l1] 46)).drew _ _ _ fp3 := Ty.ow_bel b_5 how3
     have hz5 : V4.heap.size ≤ ((V4.alloc (.cells #[.slice A1 (List.length n1) c1, .slice A2 (List.length s1) c2, .slice A3 (List.length k1) c3, .int .i64 l0, .int .i64 l1] 46)).drew).heap.size := by simp only [World.size_drew, World.size_alloc]; omega
     clear BRv hvv le0 le1
     generalize hW5 : (V4.alloc (.cells #[.slice A1 (List.length n1) c1, .slice A2 (List.length s1) c2, .slice A3 (List.length k1) c3, .int .i64 l0, .int .i64 l1] 46)).drew = W5 at BR5 BX5 hv5 how1 how2 how3 hz5 ⊢
     clear hW5
     have HD := Lib.hid (ow_Data_mkD (x := (n1, s1, k1, l0, l1)) how1 how2 how3 ⟨by show -9223372036854775808 ≤ l0; omega, by show l0 ≤ 9223372036854775807; omega⟩ ⟨by show -9223372036854775808 ≤ l1; omega, by show l1 ≤ 9223372036854775807; omega⟩)
     have hbkd := data_bulkD (l0 := l0) (l1 := l1) D1.1 b_29 D3.1 (s := s1)
     have hfD : FrI (w.heap.size + 1) V3.heap.size (fp1 ++ (fp2 ++ fp3)) := by
      have z0 := BR0.lt; have z1 := hs1; have z2 := hb2.size; have z3 := hb3.size
      exact FrI.app (hfr1.mono (show w.heap.size + 1 ≤ W0.heap.size from z0) (Nat.le_refl _)) (FrI.app hfr2 hfr3 b_29 b_29 b_29) b_29 (by have := hb1.size; omega) (by have := hb1.size; omega)
     refine (C_spec_ValidData _ _ (n1, s1, k1, l0, l1) (Ty.ow_rd HD.out) hbkd).mono ?_
     rintro e V6 ⟨rfl, hb6⟩
     have BR6 := BR5.below hb6 BR5.lt
     have BX6 := BX5.below hb6 BX5.lt
     have hv6 := bel_trans hv5 hb6
     have hf6 : FrI (w.heap.size + 1) V6.heap.size (fp1 ++ (fp2 ++ fp3)) := hfD.mono (Nat.le_refl _) (by have h1 := hs3; have h2 := hb4.size; have h3 := hb6.size; omega)
     have HD6 := Lib.hid (Ty.ow_bel hb6 HD.out)
     obtain ⟨R0, R1, R2, R3, R4, RF0, RF1, RF2, RF3, RF4, -⟩ := bk5 BR6
     have ZR := BR6.lt
     obtain ⟨X0, X1, X2, X3, X4, -, -, -, -, -, -⟩ := bk5 BX6
     cases q0 : f_ValidData (n1, s1, k1, l0, l1)
     ·rw [q0] at HN
      have HN0 : Hid (decodeData b = none) := HN.out
      set_option maxRecDepth 100000 in go_wp2
      refine bodyPost_ret (v := .tuple #[.agg #[.slice none 0 0, .slice none 0 0, .slice none 0 0, .int .i64 0, .int .i64 0], .bool false]) b_14 rfl ?_
      obtain ⟨hF0, hF1⟩ := HR0.out _ HN0.out
      rw [hF0, hF1]
      exact ⟨[.slice none 0 0, .slice none 0 0, .slice none 0 0, .int .i64 0, .int .i64 0], [], rfl, ow_Data_zero _, FrI.nil _ _, b_5⟩
     ·rw [q0] at HN
      have HN0 : Hid (decodeData b = some (n1, s1, k1, l0, l1)) := HN.out
      set_option maxRecDepth 100000 in go_wp2
      refine bodyPost_ret (v := .tuple #[.agg #[.slice A1 (List.length n1) c1, .slice A2 (List.length s1) c2, .slice A3 (List.length k1) c3, .int .i64 l0, .int .i64 l1], .bool true]) b_14 rfl ?_
      obtain ⟨hF0, hF1⟩ := HR0.out _ HN0.out
      rw [hF0, hF1]
      exact ⟨[.slice A1 (List.length n1) c1, .slice A2 (List.length s1) c2, .slice A3 (List.length k1) c3, .int .i64 l0, .int .i64 l1], fp1 ++ (fp2 ++ fp3), rfl, Ty.ow_keep (by intro b hb'; have hb'' := (hf6).2 b hb'; (try simp only [szz] at hb''); repeat (first | (with_reducible rfl) | (rw [Below.heap_setCell _ _ _ _ b_24]) | (rw [Below.heap_alloc _ _ _ (by simp only [World.size_alloc, World.size_setCell]; omega)]))) HD6.out, hf6.mono b_29 b_19, b_5⟩
end Go.Proofs.Ytldgbnlcnlfmeaa
