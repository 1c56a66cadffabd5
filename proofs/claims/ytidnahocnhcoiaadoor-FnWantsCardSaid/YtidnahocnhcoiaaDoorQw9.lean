/- Texts of this claim, merged by a program: Din Cdw Ito Jn. -/
import Derived.Test.YtidnahocnhcoiaaDoorQwP
import Derived.Test.YtidnahocnhcoiaaDoorQw5
import Derived.Test.YtidnahocnhcoiaaDoorQw7
import Derived.Shelf.LaysM
import Derived.Shelf.Strconv.Itoa3
import Derived.Test.YtidnahocnhcoiaaDoorQw0
import Derived.Shelf.Strings.OnBuilder
namespace Go.Proofs.YtidnahocnhcoiaaDoor
open Go.RowKit
set_option linter.unusedVariables false
set_option linter.unusedSimpArgs false
def decodeInterest (b : List UInt8) : Option tInterest.D := match readName b 0 with
 | none => none
 | some n => match decodeInts b n.2 3 with
  | none => none
  | some l => if l.2 = b.length then (if f_ValidInterest (n.1, l.1.getD 0 0, l.1.getD 1 0, l.1.getD 2 0) then some (n.1, l.1.getD 0 0, l.1.getD 1 0, l.1.getD 2 0) else none) else none
def f0_DecodeInterest (b : List UInt8) : tInterest.D := (decodeInterest b).getD ([], 0, 0, 0)
def f1_DecodeInterest (b : List UInt8) : Bool := (decodeInterest b).isSome
theorem ow_Interest_mk {w : World} {A0 : Option Addr} {c0 : Nat} {x : tInterest.D} {f0 : List Nat} (h0 : (Ty.sl .str).ow w [.slice A0 (List.length x.1) c0] x.1 f0)
  (b1 : -9223372036854775808 ≤ x.2.1 ∧ x.2.1 ≤ 9223372036854775807) (b2 : -9223372036854775808 ≤ x.2.2.1 ∧ x.2.2.1 ≤ 9223372036854775807) (b3 : -9223372036854775808 ≤ x.2.2.2 ∧ x.2.2.2 ≤ 9223372036854775807) :
  tInterest.ow w [.slice A0 (List.length x.1) c0, .int .i64 x.2.1, .int .i64 x.2.2.1, .int .i64 x.2.2.2] x f0 :=
 ⟨[_], [_, _, _], f0, [], rfl, (List.append_nil _).symm, h0, [_], [_, _], [], [], rfl, rfl, ⟨⟨rfl, b1⟩, rfl⟩, [_], [_], [], [], rfl, rfl, ⟨⟨rfl, b2⟩, rfl⟩, ⟨rfl, b3⟩, rfl⟩
theorem ow_Interest_zero (w : World) : tInterest.ow w [.slice none 0 0, .int .i64 0, .int .i64 0, .int .i64 0] ([], 0, 0, 0) [] :=
 ow_Interest_mk (x := ([], 0, 0, 0)) (f0 := []) (rd_ow_nil w .str) b_19 b_19 b_19
theorem three_of {l : List Int} (h : (l.length : Int) = 3) : ∃ a b c, l = [a, b, c] := by
 match l, h with
 | [a, b, c], _ => exact ⟨a, b, c, rfl⟩
 | [], h => simp at h
 | [a], h => simp at h
 | [a, b], h => simp at h
 | a :: b :: c :: d :: l, h => simp at h; omega
theorem dn_1 {b : List UInt8} (h : readName b 0 = none) : decodeInterest b = none := by unfold decodeInterest; rw [h]
theorem dn_2 {b : List UInt8} {n} (h : readName b 0 = some n) (h4 : decodeInts b n.2 3 = none) : decodeInterest b = none := by unfold decodeInterest; rw [h]; simp only; rw [h4]
theorem dn_3 {b : List UInt8} {n l} (h : readName b 0 = some n) (h4 : decodeInts b n.2 3 = some l) (h5 : ¬ l.2 = b.length) : decodeInterest b = none := by unfold decodeInterest; rw [h]; simp only; rw [h4]; exact if_neg h5
theorem dn_4 {b : List UInt8} {n l} (h : readName b 0 = some n) (h4 : decodeInts b n.2 3 = some l) (h5 : l.2 = b.length) {l0 l1 l2 : Int} (h6 : l.1 = [l0, l1, l2]) : decodeInterest b = if f_ValidInterest (n.1, l0, l1, l2) then some (n.1, l0, l1, l2) else none := by
 unfold decodeInterest; rw [h]; simp only; rw [h4]; simp only [h6]; rw [if_pos h5]; rfl
theorem interest_bulk {n : List (List UInt8)} {l0 l1 l2 : Int} (h1 : validName n = true) : Ty.bulk tInterest (n, l0, l1, l2) ≤ 1048576 := by
 have g1 := name_bulkD h1
 show Ty.bulk (.sl .str) n + (0 + (0 + 0)) ≤ 1048576
 omega
set_option maxHeartbeats 8000000 in
theorem C_impl_DecodeInterest (w : World) (v : Value) (b : List UInt8) (h : (Ty.sl .byte).rd w [v] b) (s0 : Ty.bulk (.sl .byte) b ≤ 1048576) :
  Calls Tryd.prog 8 #[v] w (RetAgg2 w tInterest (f0_DecodeInterest b) (.bool (f1_DecodeInterest b))) := by
 obtain ⟨A, c, rfl, hc, hm, hn⟩ := Ty.rd_sl h
 have hbl : b.length ≤ 1048576 := Ty.bulk_len s0
 have HR0 : Hid (∀ r, decodeInterest b = r → f0_DecodeInterest b = r.getD ([], 0, 0, 0) ∧ f1_DecodeInterest b = r.isSome) := fun r hr => by unfold f0_DecodeInterest f1_DecodeInterest; rw [hr]; exact ⟨rfl, rfl⟩
 generalize f0_DecodeInterest b = F0 at HR0 ⊢
 generalize f1_DecodeInterest b = F1 at HR0 ⊢
 have BR0 : Blk (w.alloc (.cells #[.slice none 0 0, .int .i64 0, .int .i64 0, .int .i64 0] 28)) w.heap.size 28 #[.slice none 0 0, .int .i64 0, .int .i64 0, .int .i64 0] := Blk.new w _ _
 have hv0 : Below w.heap.size w (w.alloc (.cells #[.slice none 0 0, .int .i64 0, .int .i64 0, .int .i64 0] 28)) := b_3
 go_enter Tryd.func8, Tryd.ntmps8
 go_wp2_with fail
 generalize hW0 : (w.alloc (.cells #[.slice none 0 0, .int .i64 0, .int .i64 0, .int .i64 0] 28)) = W0 at BR0 hv0 ⊢
 clear hW0
 cases hv : readName b 0 with
 | none =>
  have HN := Lib.hid (dn_1 hv)
  have hcall : Calls Tryd.prog 12 #[.slice A b.length c, .int .i64 0] W0 (RetAgg3 W0 (.sl .str) [] (.int .i64 0) (.bool false)) := by
   have hrd := Ty.rd_below hv0 h
   have := C_impl_ReadName W0 _ b 0 hrd b_18 b_18
   rw [hv] at this; exact this
  clear hv
  refine hcall.mono ?_
  rintro e V ⟨cs, fp, rfl, how, hfr, hb⟩
  obtain ⟨A9, c9, rfl⟩ := Ty.ow_slv how
  clear hcall hfr
  have BR8 := (BR0.below hb BR0.lt).alloc (.cells #[.slice A9 (List.length ([] : List (List UInt8))) c9] 26)
  have hv8 : Below w.heap.size w (V.alloc (.cells #[.slice A9 (List.length ([] : List (List UInt8))) c9] 26)) := bel_alloc (bel_trans hv0 hb) _
  have hcall2 : Calls Tryd.prog 34 #[.slice A b.length c, .int .i64 0, .int .i64 3] (V.alloc (.cells #[.slice A9 (List.length ([] : List (List UInt8))) c9] 26)) (RetSl3 (V.alloc (.cells #[.slice A9 (List.length ([] : List (List UInt8))) c9] 26)) .int (di0 (decodeInts b 0 3)) (.int .i64 (di1 (decodeInts b 0 3))) (.bool (decodeInts b 0 3).isSome)) := by
   have hrd := Ty.rd_below hv8 h
   have := C_impl_DecodeInts (V.alloc (.cells #[.slice A9 (List.length ([] : List (List UInt8))) c9] 26)) _ b 0 3 hrd b_18 b_18
   exact this
  clear how
  set_option maxRecDepth 100000 in go_wp2_with fail
  refine hcall2.mono ?_
  rintro e V9 ⟨A8, c8, fp8, rfl, how8, hfr8, hb8⟩
  clear hcall2 how8 hfr8
  have BR9 := BR8.below hb8 BR8.lt
  have hv9 := bel_trans hv8 hb8
  generalize (decodeInts b 0 3).isSome = gg
  obtain ⟨R0, R1, R2, R3, RF0, RF1, RF2, RF3, -⟩ := bk4 BR9
  have ZR := BR9.lt
  set_option maxRecDepth 100000 in go_wp2
  refine bodyPost_ret (v := .tuple #[.agg #[.slice none 0 0, .int .i64 0, .int .i64 0, .int .i64 0], .bool false]) (by simp [results, Tryd.results8, go_sem, R0, RF0, R1, RF1, R2, RF2, R3, RF3, ZR]) rfl ?_
  obtain ⟨hF0, hF1⟩ := HR0.out _ HN.out
  rw [hF0, hF1]
  exact ⟨[.slice none 0 0, .int .i64 0, .int .i64 0, .int .i64 0], [], rfl, ow_Interest_zero _, FrI.nil _ _, b_3⟩
 | some r1 =>
  obtain ⟨n1, p1⟩ := r1
  have E1 := Lib.hid hv
  have D1 := readName_bd hv
  simp only at D1
  have hcall : Calls Tryd.prog 12 #[.slice A b.length c, .int .i64 0] W0 (RetAgg3 W0 (.sl .str) n1 (.int .i64 p1) (.bool true)) := by
   have hrd := Ty.rd_below hv0 h
   have := C_impl_ReadName W0 _ b 0 hrd b_18 b_18
   rw [hv] at this; exact this
  clear hv
  refine hcall.mono ?_
  rintro e V1 ⟨cs1, fp1, rfl, how1, hfr1, hb1⟩
  obtain ⟨A1, c1, rfl⟩ := Ty.ow_slv how1
  clear hcall
  have BR1 := (BR0.below hb1 BR0.lt).alloc (.cells #[.slice A1 (List.length n1) c1] 26)
  have hv1 : Below w.heap.size w (V1.alloc (.cells #[.slice A1 (List.length n1) c1] 26)) := bel_alloc (bel_trans hv0 hb1) _
  have Bn1 : Blk (V1.alloc (.cells #[.slice A1 (List.length n1) c1] 26)) V1.heap.size 26 #[.slice A1 (List.length n1) c1] := Blk.new _ _ _
  have how1 : Ty.ow (V1.alloc (.cells #[.slice A1 (List.length n1) c1] 26)) _ _ _ fp1 := Ty.ow_bel ((Below.refl _ _).alloc (Nat.le_refl _) _) how1
  have hs1 : V1.heap.size ≤ (V1.alloc (.cells #[.slice A1 (List.length n1) c1] 26)).heap.size := by rw [World.size_alloc]; omega
  set_option maxRecDepth 100000 in go_wp2_with fail
  generalize hW : (V1.alloc (.cells #[.slice A1 (List.length n1) c1] 26)) = W1 at BR1 hv1 Bn1 how1 hs1 ⊢
  clear hW
  cases hv : decodeInts b p1 3 with
  | none =>
   have HN := Lib.hid (dn_2 E1.out hv)
   have hcall2 : Calls Tryd.prog 34 #[.slice A b.length c, .int .i64 p1, .int .i64 3] W1 (RetSl3 W1 .int [] (.int .i64 0) (.bool false)) := by
    have hrd := Ty.rd_below hv1 h
    have := C_impl_DecodeInts W1 _ b p1 3 hrd b_18 b_18
    rw [hv] at this; exact this
   clear hv
   refine hcall2.mono ?_
   rintro e V ⟨A9, c9, fp, rfl, how, hfr, hb⟩
   clear hcall2 hfr how
   have BR9 := BR1.below hb BR1.lt
   have hv9 := bel_trans hv1 hb
   obtain ⟨R0, R1, R2, R3, RF0, RF1, RF2, RF3, -⟩ := bk4 BR9
   have ZR := BR9.lt
   set_option maxRecDepth 100000 in go_wp2
   refine bodyPost_ret (v := .tuple #[.agg #[.slice none 0 0, .int .i64 0, .int .i64 0, .int .i64 0], .bool false]) (by simp [results, Tryd.results8, go_sem, R0, RF0, R1, RF1, R2, RF2, R3, RF3, ZR]) rfl ?_
   obtain ⟨hF0, hF1⟩ := HR0.out _ HN.out
   rw [hF0, hF1]
   exact ⟨[.slice none 0 0, .int .i64 0, .int .i64 0, .int .i64 0], [], rfl, ow_Interest_zero _, FrI.nil _ _, b_3⟩
  | some r4 =>
   obtain ⟨ll, p4⟩ := r4
   have E4 := Lib.hid hv
   have D4 := decodeInts_bd hv
   simp only at D4
   obtain ⟨l0, l1, l2, rfl⟩ := three_of D4.1
   have hl0 := D4.2.2.2 l0 b_19
   have hl1 := D4.2.2.2 l1 b_19
   have hl2 := D4.2.2.2 l2 b_19
   have hcall2 : Calls Tryd.prog 34 #[.slice A b.length c, .int .i64 p1, .int .i64 3] W1 (RetSl3 W1 .int [l0, l1, l2] (.int .i64 p4) (.bool true)) := by
    have hrd := Ty.rd_below hv1 h
    have := C_impl_DecodeInts W1 _ b p1 3 hrd b_18 b_18
    rw [hv] at this; exact this
   clear hv
   refine hcall2.mono ?_
   rintro e V4 ⟨A4, c4, fp4, rfl, how4, hfr4, hb4⟩
   clear hcall2
   have how1 := Ty.ow_bel hb4 how1
   have Bn4 := Bn1.below hb4 Bn1.lt
   have BRv := BR1.below hb4 BR1.lt
   have hvv := bel_trans hv1 hb4
   by_cases hend : p4 = b.length
   rotate_left
   ·have HN := Lib.hid (dn_3 E1.out E4.out hend)
    have hq : ((p4 : Int) != (b.length : Int)) = true := by rw [bne_iff_ne]; omega
    clear hend
    obtain ⟨R0, R1, R2, R3, RF0, RF1, RF2, RF3, -⟩ := bk4 BRv
    have ZR := BRv.lt
    set_option maxRecDepth 100000 in go_wp2
    refine bodyPost_ret (v := .tuple #[.agg #[.slice none 0 0, .int .i64 0, .int .i64 0, .int .i64 0], .bool false]) (by simp [results, Tryd.results8, go_sem, R0, RF0, R1, RF1, R2, RF2, R3, RF3, ZR]) rfl ?_
    obtain ⟨hF0, hF1⟩ := HR0.out _ HN.out
    rw [hF0, hF1]
    exact ⟨[.slice none 0 0, .int .i64 0, .int .i64 0, .int .i64 0], [], rfl, ow_Interest_zero _, FrI.nil _ _, b_3⟩
   have HN := Lib.hid (dn_4 E1.out E4.out hend rfl)
   have hq : ((p4 : Int) != (b.length : Int)) = false := by simp [hend]
   clear hend E4
   obtain ⟨lb, lo, rfl, le0, _⟩ := Ty.rd_int_at (Ty.ow_rd how4) (show 0 < [l0, l1, l2].length by simp)
   obtain ⟨lb1, lo1, he1, le1, _⟩ := Ty.rd_int_at (Ty.ow_rd how4) (show 1 < [l0, l1, l2].length by simp)
   injection he1 with he1; injection he1 with hea heb; subst hea; subst heb
   obtain ⟨lb2, lo2, he2, le2, _⟩ := Ty.rd_int_at (Ty.ow_rd how4) (show 2 < [l0, l1, l2].length by simp)
   injection he2 with he2; injection he2 with hea heb; subst hea; subst heb
   have le0 : V4.cell? ⟨lb, lo, none⟩ = some (.int .i64 l0) := le0
   have le1 : V4.cell? ⟨lb, lo + 1, none⟩ = some (.int .i64 l1) := le1
   have le2 : V4.cell? ⟨lb, lo + 2, none⟩ = some (.int .i64 l2) := le2
   have hzl := World.block_lt_of_cell? V4 _ le0
   simp only at hzl
   have HS : Hid (∀ W, Below V4.heap.size V4 W → Below w.heap.size w W ∧ W.cell? ⟨V1.heap.size, 0, none⟩ = some (.slice A1 (List.length n1) c1) ∧ W.cell? ⟨lb, lo, none⟩ = some (.int .i64 l0) ∧ W.cell? ⟨lb, lo + 1, none⟩ = some (.int .i64 l1) ∧ W.cell? ⟨lb, lo + 2, none⟩ = some (.int .i64 l2)) := fun W hW => ⟨bel_trans hvv hW, (hW.cell (p := ⟨V1.heap.size, 0, none⟩) Bn4.lt).trans (Bn4.cell 0), (hW.cell (p := ⟨lb, lo, none⟩) hzl).trans le0, (hW.cell (p := ⟨lb, lo + 1, none⟩) hzl).trans le1, (hW.cell (p := ⟨lb, lo + 2, none⟩) hzl).trans le2⟩
   set_option maxRecDepth 100000 in go_wp2_with fail
   set_option maxRecDepth 100000 in go_region_held3 (fun W => Below w.heap.size w W ∧ W.cell? ⟨V1.heap.size, 0, none⟩ = some (.slice A1 (List.length n1) c1) ∧ W.cell? ⟨lb, lo, none⟩ = some (.int .i64 l0) ∧ W.cell? ⟨lb, lo + 1, none⟩ = some (.int .i64 l1) ∧ W.cell? ⟨lb, lo + 2, none⟩ = some (.int .i64 l2)) (exact HS.out _ b_3) (fail)
   set_option maxRecDepth 100000 in go_wp2_with fail
   have BR5 : Blk (V4.alloc (.cells #[.slice A1 (List.length n1) c1, .int .i64 l0, .int .i64 l1, .int .i64 l2] 28)).drew w.heap.size 28 #[.slice none 0 0, .int .i64 0, .int .i64 0, .int .i64 0] := (BRv.alloc _).drew
   have BX5 : Blk (V4.alloc (.cells #[.slice A1 (List.length n1) c1, .int .i64 l0, .int .i64 l1, .int .i64 l2] 28)).drew V4.heap.size 28 #[.slice A1 (List.length n1) c1, .int .i64 l0, .int .i64 l1, .int .i64 l2] := (Blk.new V4 _ _).drew
   have hv5 : Below w.heap.size w (V4.alloc (.cells #[.slice A1 (List.length n1) c1, .int .i64 l0, .int .i64 l1, .int .i64 l2] 28)).drew := b_3
   have how1 : Ty.ow (V4.alloc (.cells #[.slice A1 (List.length n1) c1, .int .i64 l0, .int .i64 l1, .int .i64 l2] 28)).drew _ _ _ fp1 := Ty.ow_bel b_3 how1
   have hz5 : V4.heap.size ≤ ((V4.alloc (.cells #[.slice A1 (List.length n1) c1, .int .i64 l0, .int .i64 l1, .int .i64 l2] 28)).drew).heap.size := by simp only [World.size_drew, World.size_alloc]; omega
   clear BRv hvv le0 le1 le2
   generalize hW5 : (V4.alloc (.cells #[.slice A1 (List.length n1) c1, .int .i64 l0, .int .i64 l1, .int .i64 l2] 28)).drew = W5 at BR5 BX5 hv5 how1 hz5 ⊢
   clear hW5
   have HD := Lib.hid (ow_Interest_mk (x := (n1, l0, l1, l2)) how1 ⟨by show -9223372036854775808 ≤ l0; omega, by show l0 ≤ 9223372036854775807; omega⟩ ⟨by show -9223372036854775808 ≤ l1; omega, by show l1 ≤ 9223372036854775807; omega⟩ ⟨by show -9223372036854775808 ≤ l2; omega, by show l2 ≤ 9223372036854775807; omega⟩)
   have hfD : FrI (w.heap.size + 1) V1.heap.size fp1 := hfr1.mono (show w.heap.size + 1 ≤ W0.heap.size from BR0.lt) (Nat.le_refl _)
   refine (C_impl_ValidInterest _ _ (n1, l0, l1, l2) (Ty.ow_rd HD.out)).mono ?_
   rintro e V6 ⟨rfl, hb6⟩
   have BR6 := BR5.below hb6 BR5.lt
   have BX6 := BX5.below hb6 BX5.lt
   have hv6 := bel_trans hv5 hb6
   have hf6 : FrI (w.heap.size + 1) V6.heap.size fp1 := hfD.mono (Nat.le_refl _) (by have h1 := hs1; have h2 := hb4.size; have h3 := hb6.size; omega)
   have HD6 := Lib.hid (Ty.ow_bel hb6 HD.out)
   obtain ⟨R0, R1, R2, R3, RF0, RF1, RF2, RF3, -⟩ := bk4 BR6
   have ZR := BR6.lt
   obtain ⟨X0, X1, X2, X3, -, -, -, -, -⟩ := bk4 BX6
   cases q0 : f_ValidInterest (n1, l0, l1, l2)
   ·rw [q0] at HN
    have HN0 : Hid (decodeInterest b = none) := HN.out
    set_option maxRecDepth 100000 in go_wp2
    refine bodyPost_ret (v := .tuple #[.agg #[.slice none 0 0, .int .i64 0, .int .i64 0, .int .i64 0], .bool false]) (by simp [results, Tryd.results8, go_sem, R0, RF0, R1, RF1, R2, RF2, R3, RF3, ZR]) rfl ?_
    obtain ⟨hF0, hF1⟩ := HR0.out _ HN0.out
    rw [hF0, hF1]
    exact ⟨[.slice none 0 0, .int .i64 0, .int .i64 0, .int .i64 0], [], rfl, ow_Interest_zero _, FrI.nil _ _, b_3⟩
   ·rw [q0] at HN
    have HN0 : Hid (decodeInterest b = some (n1, l0, l1, l2)) := HN.out
    set_option maxRecDepth 100000 in go_wp2
    refine bodyPost_ret (v := .tuple #[.agg #[.slice A1 (List.length n1) c1, .int .i64 l0, .int .i64 l1, .int .i64 l2], .bool true]) (by simp [results, Tryd.results8, go_sem, R0, RF0, R1, RF1, R2, RF2, R3, RF3, ZR]) rfl ?_
    obtain ⟨hF0, hF1⟩ := HR0.out _ HN0.out
    rw [hF0, hF1]
    exact ⟨[.slice A1 (List.length n1) c1, .int .i64 l0, .int .i64 l1, .int .i64 l2], fp1, rfl, Ty.ow_keep (by intro b hb'; have hb'' := (hf6).2 b hb'; (try simp only [szz] at hb''); repeat (first | (with_reducible rfl) | (rw [Below.heap_setCell _ _ _ _ (by (try dsimp only); omega)]) | (rw [Below.heap_alloc _ _ _ (by simp only [World.size_alloc, World.size_setCell]; omega)]))) HD6.out, hf6.mono b_18 (by simp only [World.size_setCell]; omega), b_3⟩
set_option maxHeartbeats 8000000 in
theorem C_spec_DecodeInterest (w : World) (v : Value) (b : List UInt8) (h : (Ty.sl .byte).rd w [v] b) (s0 : Ty.bulk (.sl .byte) b ≤ 1048576) :
  Calls Tryd.prog 9 #[v] w (RetAgg2 w tInterest (f0_DecodeInterest b) (.bool (f1_DecodeInterest b))) := by
 obtain ⟨A, c, rfl, hc, hm, hn⟩ := Ty.rd_sl h
 have hbl : b.length ≤ 1048576 := Ty.bulk_len s0
 have HR0 : Hid (∀ r, decodeInterest b = r → f0_DecodeInterest b = r.getD ([], 0, 0, 0) ∧ f1_DecodeInterest b = r.isSome) := fun r hr => by unfold f0_DecodeInterest f1_DecodeInterest; rw [hr]; exact ⟨rfl, rfl⟩
 generalize f0_DecodeInterest b = F0 at HR0 ⊢
 generalize f1_DecodeInterest b = F1 at HR0 ⊢
 have BR0 : Blk (w.alloc (.cells #[.slice none 0 0, .int .i64 0, .int .i64 0, .int .i64 0] 28)) w.heap.size 28 #[.slice none 0 0, .int .i64 0, .int .i64 0, .int .i64 0] := Blk.new w _ _
 have hv0 : Below w.heap.size w (w.alloc (.cells #[.slice none 0 0, .int .i64 0, .int .i64 0, .int .i64 0] 28)) := b_3
 go_enter Tryd.func9, Tryd.ntmps9
 go_wp2_with fail
 generalize hW0 : (w.alloc (.cells #[.slice none 0 0, .int .i64 0, .int .i64 0, .int .i64 0] 28)) = W0 at BR0 hv0 ⊢
 clear hW0
 cases hv : readName b 0 with
 | none =>
  have HN := Lib.hid (dn_1 hv)
  have hcall : Calls Tryd.prog 13 #[.slice A b.length c, .int .i64 0] W0 (RetAgg3 W0 (.sl .str) [] (.int .i64 0) (.bool false)) := by
   have hrd := Ty.rd_below hv0 h
   have := C_spec_ReadName W0 _ b 0 hrd b_18 b_18
   rw [hv] at this; exact this
  clear hv
  refine hcall.mono ?_
  rintro e V ⟨cs, fp, rfl, how, hfr, hb⟩
  obtain ⟨A9, c9, rfl⟩ := Ty.ow_slv how
  clear hcall hfr
  have BR8 := (BR0.below hb BR0.lt).alloc (.cells #[.slice A9 (List.length ([] : List (List UInt8))) c9] 26)
  have hv8 : Below w.heap.size w (V.alloc (.cells #[.slice A9 (List.length ([] : List (List UInt8))) c9] 26)) := bel_alloc (bel_trans hv0 hb) _
  have hcall2 : Calls Tryd.prog 35 #[.slice A b.length c, .int .i64 0, .int .i64 3] (V.alloc (.cells #[.slice A9 (List.length ([] : List (List UInt8))) c9] 26)) (RetSl3 (V.alloc (.cells #[.slice A9 (List.length ([] : List (List UInt8))) c9] 26)) .int (di0 (decodeInts b 0 3)) (.int .i64 (di1 (decodeInts b 0 3))) (.bool (decodeInts b 0 3).isSome)) := by
   have hrd := Ty.rd_below hv8 h
   have := C_spec_DecodeInts (V.alloc (.cells #[.slice A9 (List.length ([] : List (List UInt8))) c9] 26)) _ b 0 3 hrd b_18 b_18
   exact this
  clear how
  set_option maxRecDepth 100000 in go_wp2_with fail
  refine hcall2.mono ?_
  rintro e V9 ⟨A8, c8, fp8, rfl, how8, hfr8, hb8⟩
  clear hcall2 how8 hfr8
  have BR9 := BR8.below hb8 BR8.lt
  have hv9 := bel_trans hv8 hb8
  generalize (decodeInts b 0 3).isSome = gg
  obtain ⟨R0, R1, R2, R3, RF0, RF1, RF2, RF3, -⟩ := bk4 BR9
  have ZR := BR9.lt
  set_option maxRecDepth 100000 in go_wp2
  refine bodyPost_ret (v := .tuple #[.agg #[.slice none 0 0, .int .i64 0, .int .i64 0, .int .i64 0], .bool false]) (by simp [results, Tryd.results9, go_sem, R0, RF0, R1, RF1, R2, RF2, R3, RF3, ZR]) rfl ?_
  obtain ⟨hF0, hF1⟩ := HR0.out _ HN.out
  rw [hF0, hF1]
  exact ⟨[.slice none 0 0, .int .i64 0, .int .i64 0, .int .i64 0], [], rfl, ow_Interest_zero _, FrI.nil _ _, b_3⟩
 | some r1 =>
  obtain ⟨n1, p1⟩ := r1
  have E1 := Lib.hid hv
  have D1 := readName_bd hv
  simp only at D1
  have hcall : Calls Tryd.prog 13 #[.slice A b.length c, .int .i64 0] W0 (RetAgg3 W0 (.sl .str) n1 (.int .i64 p1) (.bool true)) := by
   have hrd := Ty.rd_below hv0 h
   have := C_spec_ReadName W0 _ b 0 hrd b_18 b_18
   rw [hv] at this; exact this
  clear hv
  refine hcall.mono ?_
  rintro e V1 ⟨cs1, fp1, rfl, how1, hfr1, hb1⟩
  obtain ⟨A1, c1, rfl⟩ := Ty.ow_slv how1
  clear hcall
  have BR1 := (BR0.below hb1 BR0.lt).alloc (.cells #[.slice A1 (List.length n1) c1] 26)
  have hv1 : Below w.heap.size w (V1.alloc (.cells #[.slice A1 (List.length n1) c1] 26)) := bel_alloc (bel_trans hv0 hb1) _
  have Bn1 : Blk (V1.alloc (.cells #[.slice A1 (List.length n1) c1] 26)) V1.heap.size 26 #[.slice A1 (List.length n1) c1] := Blk.new _ _ _
  have how1 : Ty.ow (V1.alloc (.cells #[.slice A1 (List.length n1) c1] 26)) _ _ _ fp1 := Ty.ow_bel ((Below.refl _ _).alloc (Nat.le_refl _) _) how1
  have hs1 : V1.heap.size ≤ (V1.alloc (.cells #[.slice A1 (List.length n1) c1] 26)).heap.size := by rw [World.size_alloc]; omega
  set_option maxRecDepth 100000 in go_wp2_with fail
  generalize hW : (V1.alloc (.cells #[.slice A1 (List.length n1) c1] 26)) = W1 at BR1 hv1 Bn1 how1 hs1 ⊢
  clear hW
  cases hv : decodeInts b p1 3 with
  | none =>
   have HN := Lib.hid (dn_2 E1.out hv)
   have hcall2 : Calls Tryd.prog 35 #[.slice A b.length c, .int .i64 p1, .int .i64 3] W1 (RetSl3 W1 .int [] (.int .i64 0) (.bool false)) := by
    have hrd := Ty.rd_below hv1 h
    have := C_spec_DecodeInts W1 _ b p1 3 hrd b_18 b_18
    rw [hv] at this; exact this
   clear hv
   refine hcall2.mono ?_
   rintro e V ⟨A9, c9, fp, rfl, how, hfr, hb⟩
   clear hcall2 hfr how
   have BR9 := BR1.below hb BR1.lt
   have hv9 := bel_trans hv1 hb
   obtain ⟨R0, R1, R2, R3, RF0, RF1, RF2, RF3, -⟩ := bk4 BR9
   have ZR := BR9.lt
   set_option maxRecDepth 100000 in go_wp2
   refine bodyPost_ret (v := .tuple #[.agg #[.slice none 0 0, .int .i64 0, .int .i64 0, .int .i64 0], .bool false]) (by simp [results, Tryd.results9, go_sem, R0, RF0, R1, RF1, R2, RF2, R3, RF3, ZR]) rfl ?_
   obtain ⟨hF0, hF1⟩ := HR0.out _ HN.out
   rw [hF0, hF1]
   exact ⟨[.slice none 0 0, .int .i64 0, .int .i64 0, .int .i64 0], [], rfl, ow_Interest_zero _, FrI.nil _ _, b_3⟩
  | some r4 =>
   obtain ⟨ll, p4⟩ := r4
   have E4 := Lib.hid hv
   have D4 := decodeInts_bd hv
   simp only at D4
   obtain ⟨l0, l1, l2, rfl⟩ := three_of D4.1
   have hl0 := D4.2.2.2 l0 b_19
   have hl1 := D4.2.2.2 l1 b_19
   have hl2 := D4.2.2.2 l2 b_19
   have hcall2 : Calls Tryd.prog 35 #[.slice A b.length c, .int .i64 p1, .int .i64 3] W1 (RetSl3 W1 .int [l0, l1, l2] (.int .i64 p4) (.bool true)) := by
    have hrd := Ty.rd_below hv1 h
    have := C_spec_DecodeInts W1 _ b p1 3 hrd b_18 b_18
    rw [hv] at this; exact this
   clear hv
   refine hcall2.mono ?_
   rintro e V4 ⟨A4, c4, fp4, rfl, how4, hfr4, hb4⟩
   clear hcall2
   have how1 := Ty.ow_bel hb4 how1
   have Bn4 := Bn1.below hb4 Bn1.lt
   have BRv := BR1.below hb4 BR1.lt
   have hvv := bel_trans hv1 hb4
   by_cases hend : p4 = b.length
   rotate_left
   ·have HN := Lib.hid (dn_3 E1.out E4.out hend)
    have hq : ((p4 : Int) != (b.length : Int)) = true := by rw [bne_iff_ne]; omega
    clear hend
    obtain ⟨R0, R1, R2, R3, RF0, RF1, RF2, RF3, -⟩ := bk4 BRv
    have ZR := BRv.lt
    set_option maxRecDepth 100000 in go_wp2
    refine bodyPost_ret (v := .tuple #[.agg #[.slice none 0 0, .int .i64 0, .int .i64 0, .int .i64 0], .bool false]) (by simp [results, Tryd.results9, go_sem, R0, RF0, R1, RF1, R2, RF2, R3, RF3, ZR]) rfl ?_
    obtain ⟨hF0, hF1⟩ := HR0.out _ HN.out
    rw [hF0, hF1]
    exact ⟨[.slice none 0 0, .int .i64 0, .int .i64 0, .int .i64 0], [], rfl, ow_Interest_zero _, FrI.nil _ _, b_3⟩
   have HN := Lib.hid (dn_4 E1.out E4.out hend rfl)
   have hq : ((p4 : Int) != (b.length : Int)) = false := by simp [hend]
   clear hend E4
   obtain ⟨lb, lo, rfl, le0, _⟩ := Ty.rd_int_at (Ty.ow_rd how4) (show 0 < [l0, l1, l2].length by simp)
   obtain ⟨lb1, lo1, he1, le1, _⟩ := Ty.rd_int_at (Ty.ow_rd how4) (show 1 < [l0, l1, l2].length by simp)
   injection he1 with he1; injection he1 with hea heb; subst hea; subst heb
   obtain ⟨lb2, lo2, he2, le2, _⟩ := Ty.rd_int_at (Ty.ow_rd how4) (show 2 < [l0, l1, l2].length by simp)
   injection he2 with he2; injection he2 with hea heb; subst hea; subst heb
   have le0 : V4.cell? ⟨lb, lo, none⟩ = some (.int .i64 l0) := le0
   have le1 : V4.cell? ⟨lb, lo + 1, none⟩ = some (.int .i64 l1) := le1
   have le2 : V4.cell? ⟨lb, lo + 2, none⟩ = some (.int .i64 l2) := le2
   have hzl := World.block_lt_of_cell? V4 _ le0
   simp only at hzl
   have HS : Hid (∀ W, Below V4.heap.size V4 W → Below w.heap.size w W ∧ W.cell? ⟨V1.heap.size, 0, none⟩ = some (.slice A1 (List.length n1) c1) ∧ W.cell? ⟨lb, lo, none⟩ = some (.int .i64 l0) ∧ W.cell? ⟨lb, lo + 1, none⟩ = some (.int .i64 l1) ∧ W.cell? ⟨lb, lo + 2, none⟩ = some (.int .i64 l2)) := fun W hW => ⟨bel_trans hvv hW, (hW.cell (p := ⟨V1.heap.size, 0, none⟩) Bn4.lt).trans (Bn4.cell 0), (hW.cell (p := ⟨lb, lo, none⟩) hzl).trans le0, (hW.cell (p := ⟨lb, lo + 1, none⟩) hzl).trans le1, (hW.cell (p := ⟨lb, lo + 2, none⟩) hzl).trans le2⟩
   set_option maxRecDepth 100000 in go_wp2_with fail
   set_option maxRecDepth 100000 in go_region_held3 (fun W => Below w.heap.size w W ∧ W.cell? ⟨V1.heap.size, 0, none⟩ = some (.slice A1 (List.length n1) c1) ∧ W.cell? ⟨lb, lo, none⟩ = some (.int .i64 l0) ∧ W.cell? ⟨lb, lo + 1, none⟩ = some (.int .i64 l1) ∧ W.cell? ⟨lb, lo + 2, none⟩ = some (.int .i64 l2)) (exact HS.out _ b_3) (fail)
   set_option maxRecDepth 100000 in go_wp2_with fail
   have BR5 : Blk (V4.alloc (.cells #[.slice A1 (List.length n1) c1, .int .i64 l0, .int .i64 l1, .int .i64 l2] 28)).drew w.heap.size 28 #[.slice none 0 0, .int .i64 0, .int .i64 0, .int .i64 0] := (BRv.alloc _).drew
   have BX5 : Blk (V4.alloc (.cells #[.slice A1 (List.length n1) c1, .int .i64 l0, .int .i64 l1, .int .i64 l2] 28)).drew V4.heap.size 28 #[.slice A1 (List.length n1) c1, .int .i64 l0, .int .i64 l1, .int .i64 l2] := (Blk.new V4 _ _).drew
   have hv5 : Below w.heap.size w (V4.alloc (.cells #[.slice A1 (List.length n1) c1, .int .i64 l0, .int .i64 l1, .int .i64 l2] 28)).drew := b_3
   have how1 : Ty.ow (V4.alloc (.cells #[.slice A1 (List.length n1) c1, .int .i64 l0, .int .i64 l1, .int .i64 l2] 28)).drew _ _ _ fp1 := Ty.ow_bel b_3 how1
   have hz5 : V4.heap.size ≤ ((V4.alloc (.cells #[.slice A1 (List.length n1) c1, .int .i64 l0, .int .i64 l1, .int .i64 l2] 28)).drew).heap.size := by simp only [World.size_drew, World.size_alloc]; omega
   clear BRv hvv le0 le1 le2
   generalize hW5 : (V4.alloc (.cells #[.slice A1 (List.length n1) c1, .int .i64 l0, .int .i64 l1, .int .i64 l2] 28)).drew = W5 at BR5 BX5 hv5 how1 hz5 ⊢
   clear hW5
   have HD := Lib.hid (ow_Interest_mk (x := (n1, l0, l1, l2)) how1 ⟨by show -9223372036854775808 ≤ l0; omega, by show l0 ≤ 9223372036854775807; omega⟩ ⟨by show -9223372036854775808 ≤ l1; omega, by show l1 ≤ 9223372036854775807; omega⟩ ⟨by show -9223372036854775808 ≤ l2; omega, by show l2 ≤ 9223372036854775807; omega⟩)
   have hfD : FrI (w.heap.size + 1) V1.heap.size fp1 := hfr1.mono (show w.heap.size + 1 ≤ W0.heap.size from BR0.lt) (Nat.le_refl _)
   refine (C_spec_ValidInterest _ _ (n1, l0, l1, l2) (Ty.ow_rd HD.out)).mono ?_
   rintro e V6 ⟨rfl, hb6⟩
   have BR6 := BR5.below hb6 BR5.lt
   have BX6 := BX5.below hb6 BX5.lt
   have hv6 := bel_trans hv5 hb6
   have hf6 : FrI (w.heap.size + 1) V6.heap.size fp1 := hfD.mono (Nat.le_refl _) (by have h1 := hs1; have h2 := hb4.size; have h3 := hb6.size; omega)
   have HD6 := Lib.hid (Ty.ow_bel hb6 HD.out)
   obtain ⟨R0, R1, R2, R3, RF0, RF1, RF2, RF3, -⟩ := bk4 BR6
   have ZR := BR6.lt
   obtain ⟨X0, X1, X2, X3, -, -, -, -, -⟩ := bk4 BX6
   cases q0 : f_ValidInterest (n1, l0, l1, l2)
   ·rw [q0] at HN
    have HN0 : Hid (decodeInterest b = none) := HN.out
    set_option maxRecDepth 100000 in go_wp2
    refine bodyPost_ret (v := .tuple #[.agg #[.slice none 0 0, .int .i64 0, .int .i64 0, .int .i64 0], .bool false]) (by simp [results, Tryd.results9, go_sem, R0, RF0, R1, RF1, R2, RF2, R3, RF3, ZR]) rfl ?_
    obtain ⟨hF0, hF1⟩ := HR0.out _ HN0.out
    rw [hF0, hF1]
    exact ⟨[.slice none 0 0, .int .i64 0, .int .i64 0, .int .i64 0], [], rfl, ow_Interest_zero _, FrI.nil _ _, b_3⟩
   ·rw [q0] at HN
    have HN0 : Hid (decodeInterest b = some (n1, l0, l1, l2)) := HN.out
    set_option maxRecDepth 100000 in go_wp2
    refine bodyPost_ret (v := .tuple #[.agg #[.slice A1 (List.length n1) c1, .int .i64 l0, .int .i64 l1, .int .i64 l2], .bool true]) (by simp [results, Tryd.results9, go_sem, R0, RF0, R1, RF1, R2, RF2, R3, RF3, ZR]) rfl ?_
    obtain ⟨hF0, hF1⟩ := HR0.out _ HN0.out
    rw [hF0, hF1]
    exact ⟨[.slice A1 (List.length n1) c1, .int .i64 l0, .int .i64 l1, .int .i64 l2], fp1, rfl, Ty.ow_keep (by intro b hb'; have hb'' := (hf6).2 b hb'; (try simp only [szz] at hb''); repeat (first | (with_reducible rfl) | (rw [Below.heap_setCell _ _ _ _ (by (try dsimp only); omega)]) | (rw [Below.heap_alloc _ _ _ (by simp only [World.size_alloc, World.size_setCell]; omega)]))) HD6.out, hf6.mono b_18 (by simp only [World.size_setCell]; omega), b_3⟩
theorem hi_nat (q : Nat) : (hiByte q).toNat = q % 128 + 128 := by have := hiByte_nat q; omega
theorem at_pre {b pre s : List UInt8} {c : UInt8} {p : Nat} (hb : b = pre ++ (c :: s)) (hp : pre.length = p) : ∃ h : p < b.length, b[p] = c := by
 subst hb; subst hp
 exact ⟨by simp, by simp⟩
theorem rv_small {b s pre : List UInt8} {m f k acc q : Nat} (hb : b = pre ++ (varint q ++ s)) (hp : pre.length = m + k) (hq : q < 128) (hn : acc + q * 128 ^ k ≤ 1000000000000) (hk : 0 < k → 0 < q) : rvLoop b m (f + 1) k acc = some (acc + q * 128 ^ k, m + k + (varint q).length) := by
 have hv : varint q = [UInt8.ofNat q] := by rw [varint, dif_pos hq]
 rw [hv] at hb
 obtain ⟨hl, hg⟩ := at_pre (c := UInt8.ofNat q) hb hp
 have hc : b[m + k].toNat = q := by rw [hg, UInt8.toNat_ofNat']; omega
 have e1 : q % 128 = q := by omega
 rw [rv_yes rfl hl hc hq (by
  rw [e1]
  rintro (⟨h1, h2⟩ | h1)
  ·have := hk h2; omega
  ·omega), e1, hv]
 rfl
theorem rv_fwd {b s : List UInt8} {m : Nat} : ∀ (f k acc q : Nat) (pre : List UInt8), b = pre ++ (varint q ++ s) → pre.length = m + k → q < 128 ^ (f + 1) → acc + q * 128 ^ k ≤ 1000000000000 → (0 < k → 0 < q) → rvLoop b m (f + 1) k acc = some (acc + q * 128 ^ k, m + k + (varint q).length) := by
 intro f
 induction f with
 | zero =>
  intro k acc q pre hb hp hq hn hk
  exact rv_small hb hp (by simpa using hq) hn hk
 | succ f ih =>
  intro k acc q pre hb hp hq hn hk
  by_cases h : q < 128
  ·exact rv_small hb hp h hn hk
  ·have hv : varint q = hiByte q :: varint (q / 128) := by rw [varint, dif_neg h]
   have hb' := hb
   rw [hv] at hb
   obtain ⟨hl, hg⟩ := at_pre (c := hiByte q) hb hp
   have hc : b[m + k].toNat = q % 128 + 128 := by rw [hg, hi_nat]
   have e1 : (q % 128 + 128) % 128 = q % 128 := by omega
   have e2 : q % 128 * 128 ^ k + q / 128 * 128 ^ (k + 1) = q * 128 ^ k := by
    rw [Nat.pow_succ, Nat.mul_comm (128 ^ k) 128, ← Nat.mul_assoc, ← Nat.add_mul]
    congr 1
    omega
   have e3 : q / 128 < 128 ^ (f + 1) := Nat.div_lt_of_lt_mul (by rw [Nat.mul_comm, ← Nat.pow_succ]; exact hq)
   rw [rv_go rfl hl hc b_18, e1, ih (k + 1) (acc + q % 128 * 128 ^ k) (q / 128) (pre ++ [hiByte q]) (by rw [hb]; simp) (by rw [List.length_append, hp]; rfl) e3 (by rw [Nat.add_assoc, e2]; exact hn) (fun _ => by omega), Nat.add_assoc acc, e2, hv]
   simp only [List.length_cons]
   congr 2
   omega
theorem readVarint_fwd (pre s : List UInt8) {n : Nat} (hn : n ≤ 1000000000000) : readVarint (pre ++ (varint n ++ s)) (pre.length : Int) = some (n, pre.length + (varint n).length) := by
 unfold readVarint
 rw [if_neg b_18, Int.toNat_natCast, rv_fwd 5 0 0 n pre rfl rfl (Nat.lt_of_le_of_lt hn b_17) (by simpa using hn) b_18]
 simp
theorem appendBytes_eq (pre s : List UInt8) (hs : s.length ≤ 1000000000000) : f_AppendBytes pre s = pre ++ (varint s.length ++ s) := by
 unfold f_AppendBytes f_AppendVarint
 rw [if_pos ⟨by omega, by omega⟩, Int.toNat_natCast, List.append_assoc]
theorem appendVarint_eq (pre : List UInt8) {n : Int} (h : 0 ≤ n ∧ n ≤ 1000000000000) : f_AppendVarint pre n = pre ++ varint n.toNat := by
 unfold f_AppendVarint; rw [if_pos h]
theorem appendVarint_pre (a b : List UInt8) (n : Int) : f_AppendVarint (a ++ b) n = a ++ f_AppendVarint b n := by
 unfold f_AppendVarint
 split
 ·rw [List.append_assoc]
 ·rfl
theorem appendBytes_pre (a b s : List UInt8) : f_AppendBytes (a ++ b) s = a ++ f_AppendBytes b s := by
 unfold f_AppendBytes; rw [appendVarint_pre, List.append_assoc]
theorem foldBytes_pre : ∀ (l : List (List UInt8)) (a b : List UInt8), l.foldl f_AppendBytes (a ++ b) = a ++ l.foldl f_AppendBytes b
 | [], _, _ => rfl
 | s :: l, a, b => by rw [List.foldl_cons, appendBytes_pre, foldBytes_pre l]; rfl
theorem foldVarint_pre : ∀ (l : List Int) (a b : List UInt8), l.foldl f_AppendVarint (a ++ b) = a ++ l.foldl f_AppendVarint b
 | [], _, _ => rfl
 | s :: l, a, b => by rw [List.foldl_cons, appendVarint_pre, foldVarint_pre l]; rfl
theorem fold_ints (l : List Int) (a : List UInt8) : a ++ f_EncodeInts l = l.foldl f_AppendVarint a := by
 have := foldVarint_pre l a []
 rw [List.append_nil] at this
 exact this.symm
theorem readBytes_fwd (pre s t : List UInt8) {most : Int} (h1 : (s.length : Int) ≤ most) (h2 : s.length ≤ 1000000000000) : readBytes (f_AppendBytes pre s ++ t) (pre.length : Int) most = some (s, (f_AppendBytes pre s).length) := by
 have e0 : f_AppendBytes pre s ++ t = pre ++ (varint s.length ++ (s ++ t)) := by rw [appendBytes_eq _ _ h2]; simp
 have hv := readVarint_fwd pre (s ++ t) h2
 rw [e0, readBytes_yes hv (by simp; omega), appendBytes_eq _ _ h2]
 have e1 : (pre ++ (varint s.length ++ (s ++ t))).drop (pre.length + (varint s.length).length) = s ++ t := by
  rw [← List.append_assoc, show pre.length + (varint s.length).length = (pre ++ varint s.length).length from by simp, List.drop_left]
 simp only [e1]
 rw [List.take_left]
 simp [Nat.add_assoc]
theorem rnLoop_fwd : ∀ (l : List (List UInt8)) (pre t : List UInt8) (acc : List (List UInt8)), (∀ s ∈ l, s.length ≤ 8) → rnLoop (l.foldl f_AppendBytes pre ++ t) l.length pre.length acc = some (acc ++ l, (l.foldl f_AppendBytes pre).length)
 | [], pre, t, acc, _ => by simp [rnLoop]
 | s :: l, pre, t, acc, h => by
  have hs := h s b_19
  have e : l.foldl f_AppendBytes (f_AppendBytes pre s) = f_AppendBytes pre s ++ l.foldl f_AppendBytes [] := by
   have := foldBytes_pre l (f_AppendBytes pre s) []
   rw [List.append_nil] at this
   exact this
  have hr : readBytes ((s :: l).foldl f_AppendBytes pre ++ t) (pre.length : Int) 8 = some (s, (f_AppendBytes pre s).length) := by
   rw [List.foldl_cons, e, List.append_assoc]
   exact readBytes_fwd pre s _ b_18 b_18
  show (match readBytes ((s :: l).foldl f_AppendBytes pre ++ t) (pre.length : Int) 8 with | none => none | some q => rnLoop ((s :: l).foldl f_AppendBytes pre ++ t) l.length q.2 (acc ++ [q.1])) = _
  rw [hr]
  show rnLoop (l.foldl f_AppendBytes (f_AppendBytes pre s) ++ t) l.length (f_AppendBytes pre s).length (acc ++ [s]) = _
  rw [rnLoop_fwd l (f_AppendBytes pre s) t (acc ++ [s]) (fun q hq => h q (by simp [hq]))]
  simp
theorem readName_fwd (pre t : List UInt8) {n : List (List UInt8)} (hn : validName n = true) : readName (f_AppendName pre n ++ t) (pre.length : Int) = some (n, (f_AppendName pre n).length) := by
 obtain ⟨h6, h8⟩ := validName_parts hn
 have e0 : f_AppendName pre n = n.foldl f_AppendBytes (pre ++ varint n.length) := by
  unfold f_AppendName nameBytes
  rw [if_pos hn, appendVarint_eq _ ⟨by omega, by omega⟩, Int.toNat_natCast]
 have e1 : n.foldl f_AppendBytes (pre ++ varint n.length) = pre ++ (varint n.length ++ n.foldl f_AppendBytes []) := by
  have := foldBytes_pre n (pre ++ varint n.length) []
  rw [List.append_nil] at this
  rw [this, List.append_assoc]
 have hv : readVarint (f_AppendName pre n ++ t) (pre.length : Int) = some (n.length, pre.length + (varint n.length).length) := by
  rw [e0, e1, List.append_assoc, List.append_assoc]
  exact readVarint_fwd pre _ b_18
 rw [readName_go hv (by simp only; omega)]
 have hl := rnLoop_fwd n (pre ++ varint n.length) t [] h8
 rw [List.length_append] at hl
 simp only
 rw [e0, hl]
 simp only [List.nil_append, hn, if_true]
theorem diLoop_fwd : ∀ (l : List Int) (pre t : List UInt8) (acc : List Int), (∀ s ∈ l, 0 ≤ s ∧ s ≤ 1000000000000) → diLoop (l.foldl f_AppendVarint pre ++ t) l.length pre.length acc = some (acc ++ l, (l.foldl f_AppendVarint pre).length)
 | [], pre, t, acc, _ => by simp [diLoop]
 | s :: l, pre, t, acc, h => by
  have hs := h s b_19
  have e : l.foldl f_AppendVarint (f_AppendVarint pre s) = f_AppendVarint pre s ++ l.foldl f_AppendVarint [] := by
   have := foldVarint_pre l (f_AppendVarint pre s) []
   rw [List.append_nil] at this
   exact this
  have hr : readVarint ((s :: l).foldl f_AppendVarint pre ++ t) (pre.length : Int) = some (s.toNat, (f_AppendVarint pre s).length) := by
   rw [List.foldl_cons, e, List.append_assoc, appendVarint_eq _ hs, List.append_assoc, readVarint_fwd pre _ b_18, List.length_append]
  show (match readVarint ((s :: l).foldl f_AppendVarint pre ++ t) (pre.length : Int) with | none => none | some q => diLoop ((s :: l).foldl f_AppendVarint pre ++ t) l.length q.2 (acc ++ [(q.1 : Int)])) = _
  rw [hr]
  show diLoop (l.foldl f_AppendVarint (f_AppendVarint pre s) ++ t) l.length (f_AppendVarint pre s).length (acc ++ [((s.toNat : Nat) : Int)]) = _
  rw [diLoop_fwd l (f_AppendVarint pre s) t _ (fun q hq => h q (by simp [hq])), Int.toNat_of_nonneg hs.1]
  simp
theorem decodeInts_fwd (pre t : List UInt8) {l : List Int} (h : ∀ s ∈ l, 0 ≤ s ∧ s ≤ 1000000000000) (hl : l.length ≤ 100) : decodeInts (l.foldl f_AppendVarint pre ++ t) (pre.length : Int) (l.length : Int) = some (l, (l.foldl f_AppendVarint pre).length) := by
 unfold decodeInts
 have e : l.foldl f_AppendVarint pre = pre ++ l.foldl f_AppendVarint [] := by
  have := foldVarint_pre l pre []
  rw [List.append_nil] at this
  exact this
 have h1 : inR (l.length : Int) 0 100 = true := by simp [inR]; omega
 have h2 : inR (pre.length : Int) 0 ((l.foldl f_AppendVarint pre ++ t).length : Int) = true := by rw [e]; simp [inR]; omega
 rw [h1, h2]
 simp only [Bool.and_self, if_true, Int.toNat_natCast]
 rw [diLoop_fwd l pre t [] h]
 simp
theorem inR_bd {x a b : Int} (h : inR x a b = true) : a ≤ x ∧ x ≤ b := by unfold inR at h; simpa using h
theorem rv_bwd {b : List UInt8} {m : Nat} : ∀ {f k acc : Nat} {r : Nat × Nat}, rvLoop b m f k acc = some r → ∃ q, r.1 = acc + q * 128 ^ k ∧ b.take r.2 = b.take (m + k) ++ varint q ∧ (0 < k → 0 < q)
 | 0, _, _, _, h => by simp [rvLoop] at h
 | f + 1, k, acc, r, h => by
  rw [rvLoop] at h
  cases hc : b[m + k]? with
  | none => rw [hc] at h; cases h
  | some c =>
   rw [hc] at h
   simp only at h
   obtain ⟨hl, hg⟩ := List.getElem?_eq_some_iff.1 hc
   have ht : b.take (m + k + 1) = b.take (m + k) ++ [c] := by rw [List.take_add_one, hc]; rfl
   have hcl : c.toNat < 256 := c.toNat_lt
   split at h
   ·rename_i h1
    split at h
    ·cases h
    ·rename_i h2
     injection h with h
     subst h
     refine ⟨c.toNat, by simp only; rw [show c.toNat % 128 = c.toNat from by omega], ?_, fun hk => by omega⟩
     simp only
     rw [ht, varint, dif_pos h1, UInt8.ofNat_toNat]
   ·rename_i h1
    obtain ⟨q, hq1, hq2, hq3⟩ := rv_bwd h
    have hq0 := hq3 b_18
    have e1 : (c.toNat % 128 + 128 * q) / 128 = q := by omega
    have e2 : (c.toNat % 128 + 128 * q) % 128 + 128 = c.toNat := by omega
    refine ⟨c.toNat % 128 + 128 * q, ?_, ?_, fun _ => by omega⟩
    ·rw [hq1, Nat.add_mul, Nat.pow_succ, Nat.mul_comm (128 ^ k) 128, ← Nat.mul_assoc, Nat.mul_comm q 128, Nat.add_assoc]
    ·rw [hq2, varint.eq_def (c.toNat % 128 + 128 * q), dif_neg b_18, e1, ← Nat.add_assoc, ht, List.append_assoc]
     congr 1
     have : hiByte (c.toNat % 128 + 128 * q) = c := by apply UInt8.toNat_inj.1; rw [hi_nat, e2]
     rw [this]
     rfl
theorem readVarint_bwd {b : List UInt8} {a : Int} {r : Nat × Nat} (h : readVarint b a = some r) : b.take r.2 = f_AppendVarint (b.take a.toNat) r.1 := by
 have hb := readVarint_bd h
 have hn := readVarint_nn h
 unfold readVarint at h
 rw [if_neg b_18] at h
 obtain ⟨q, h1, h2, -⟩ := rv_bwd h
 rw [appendVarint_eq _ ⟨by omega, by omega⟩, Int.toNat_natCast, h2, h1]
 simp
theorem readBytes_bwd {b : List UInt8} {a most : Int} {r : List UInt8 × Nat} (h : readBytes b a most = some r) : b.take r.2 = f_AppendBytes (b.take a.toNat) r.1 := by
 unfold readBytes at h
 cases hv : readVarint b a with
 | none => rw [hv] at h; cases h
 | some q =>
  rw [hv] at h
  simp only at h
  have hb := readVarint_bd hv
  split at h
  ·cases h
  ·rename_i h1
   injection h with h
   subst h
   have e : ((b.drop q.2).take q.1).length = q.1 := by rw [List.length_take, List.length_drop]; omega
   unfold f_AppendBytes
   simp only [e]
   rw [← readVarint_bwd hv, List.take_add]
theorem rnLoop_bwd {b : List UInt8} : ∀ {k p : Nat} {acc : List (List UInt8)} {r : List (List UInt8) × Nat}, rnLoop b k p acc = some r → ∃ l, r.1 = acc ++ l ∧ l.length = k ∧ b.take r.2 = l.foldl f_AppendBytes (b.take p)
 | 0, p, acc, r, h => by rw [rnLoop] at h; injection h with h; subst h; exact ⟨[], by simp, rfl, rfl⟩
 | k + 1, p, acc, r, h => by
  rw [rnLoop] at h
  cases hv : readBytes b p 8 with
  | none => rw [hv] at h; cases h
  | some q =>
   rw [hv] at h
   have hb := readBytes_bwd hv
   obtain ⟨l, h1, h2, h3⟩ := rnLoop_bwd h
   rw [Int.toNat_natCast] at hb
   exact ⟨q.1 :: l, by rw [h1]; simp, by simp [h2], by rw [h3, hb]; rfl⟩
theorem readName_bwd {b : List UInt8} {a : Int} {r : List (List UInt8) × Nat} (h : readName b a = some r) : b.take r.2 = f_AppendName (b.take a.toNat) r.1 := by
 have hok := (readName_bd h).1
 unfold readName at h
 cases hv : readVarint b a with
 | none => rw [hv] at h; cases h
 | some q =>
  rw [hv] at h
  simp only at h
  split at h
  ·cases h
  ·cases hl : rnLoop b q.1 q.2 [] with
   | none => rw [hl] at h; cases h
   | some r' =>
    rw [hl] at h
    simp only at h
    split at h
    ·injection h with h
     subst h
     obtain ⟨l, h1, h2, h3⟩ := rnLoop_bwd hl
     rw [List.nil_append] at h1
     unfold f_AppendName nameBytes
     rw [if_pos hok, h3, h1, h2, ← readVarint_bwd hv]
    ·cases h
theorem diLoop_bwd {b : List UInt8} : ∀ {k p : Nat} {acc : List Int} {r : List Int × Nat}, diLoop b k p acc = some r → ∃ l, r.1 = acc ++ l ∧ l.length = k ∧ b.take r.2 = l.foldl f_AppendVarint (b.take p)
 | 0, p, acc, r, h => by rw [diLoop] at h; injection h with h; subst h; exact ⟨[], by simp, rfl, rfl⟩
 | k + 1, p, acc, r, h => by
  rw [diLoop] at h
  cases hv : readVarint b p with
  | none => rw [hv] at h; cases h
  | some q =>
   rw [hv] at h
   have hb := readVarint_bwd hv
   obtain ⟨l, h1, h2, h3⟩ := diLoop_bwd h
   rw [Int.toNat_natCast] at hb
   exact ⟨(q.1 : Int) :: l, by rw [h1]; simp, by simp [h2], by rw [h3, hb]; rfl⟩
theorem decodeInts_bwd {b : List UInt8} {a n : Int} {r : List Int × Nat} (h : decodeInts b a n = some r) : b.take r.2 = r.1.foldl f_AppendVarint (b.take a.toNat) := by
 unfold decodeInts at h
 split at h
 ·obtain ⟨l, h1, h2, h3⟩ := diLoop_bwd h
  rw [List.nil_append] at h1
  rw [h3, h1]
 ·cases h
theorem validWant_parts {x : tInterest.D} (h : f_ValidInterest x = true) : validName x.1 = true ∧ 0 < x.1.length ∧ inR x.2.1 0 1000000 = true ∧ inR x.2.2.1 0 16 = true ∧ inR x.2.2.2 1 20 = true := by
 unfold f_ValidInterest at h
 simp only [Bool.and_eq_true, decide_eq_true_eq] at h
 exact h
theorem wdecode_encode {x : tInterest.D} (h : f_ValidInterest x = true) : decodeInterest (f_EncodeInterest x) = some x := by
 obtain ⟨h1, h2, h5', h6', h7'⟩ := validWant_parts h
 have h5 := inR_bd h5'
 have h6 := inR_bd h6'
 have h7 := inR_bd h7'
 have e : f_EncodeInterest x = [x.2.1, x.2.2.1, x.2.2.2].foldl f_AppendVarint (f_AppendName [] x.1) := by
  unfold f_EncodeInterest; rw [if_pos h, fold_ints]
 have e3 : ∀ a : List UInt8, [x.2.1, x.2.2.1, x.2.2.2].foldl f_AppendVarint a = a ++ [x.2.1, x.2.2.1, x.2.2.2].foldl f_AppendVarint [] := fun a => by
  have := foldVarint_pre [x.2.1, x.2.2.1, x.2.2.2] a []
  rw [List.append_nil] at this; exact this
 have r1 : readName (f_EncodeInterest x) 0 = some (x.1, (f_AppendName [] x.1).length) := by
  rw [e, e3]
  exact readName_fwd [] _ h1
 have r4 : decodeInts (f_EncodeInterest x) ((f_AppendName [] x.1).length : Nat) 3 = some ([x.2.1, x.2.2.1, x.2.2.2], (f_EncodeInterest x).length) := by
  have := decodeInts_fwd (f_AppendName [] x.1) [] (l := [x.2.1, x.2.2.1, x.2.2.2]) (by
   intro s hs
   simp only [List.mem_cons, List.not_mem_nil, or_false] at hs
   rcases hs with rfl | rfl | rfl <;> omega) b_19
  rw [List.append_nil] at this
  rw [← e] at this
  exact this
 unfold decodeInterest
 rw [r1]
 simp only [r4]
 rw [if_pos trivial]
 exact if_pos h
theorem wencode_decode {b : List UInt8} {x : tInterest.D} (h : decodeInterest b = some x) : f_ValidInterest x = true ∧ f_EncodeInterest x = b := by
 unfold decodeInterest at h
 cases h1 : readName b 0 with
 | none => rw [h1] at h; cases h
 | some n =>
  rw [h1] at h
  simp only at h
  cases h4 : decodeInts b n.2 3 with
  | none => rw [h4] at h; cases h
  | some l =>
   rw [h4] at h
   simp only at h
   split at h
   ·rename_i h5
    split at h
    ·rename_i h6
     injection h with h
     subst h
     refine ⟨h6, ?_⟩
     obtain ⟨l0, l1, l2, e⟩ := three_of (decodeInts_bd h4).1
     have b1 := readName_bwd h1
     have b4 := decodeInts_bwd h4
     rw [Int.toNat_natCast] at b4
     unfold f_EncodeInterest
     rw [if_pos h6, fold_ints]
     rw [h5, List.take_length, e, b1] at b4
     rw [b4, e]
     rfl
    ·cases h
   ·cases h
theorem wf1_Decode {b : List UInt8} (h : f1_DecodeInterest b = true) : f_ValidInterest (f0_DecodeInterest b) = true ∧ f_EncodeInterest (f0_DecodeInterest b) = b := by
 unfold f1_DecodeInterest at h
 unfold f0_DecodeInterest
 cases hd : decodeInterest b with
 | none => rw [hd] at h; cases h
 | some x => exact wencode_decode hd
theorem wdecode_nil : decodeInterest [] = none := by decide
theorem wf1_back (x : tInterest.D) : f1_DecodeInterest (f_EncodeInterest x) = f_ValidInterest x := by
 unfold f1_DecodeInterest
 cases h : f_ValidInterest x with
 | true => rw [wdecode_encode h]; rfl
 | false => rw [show f_EncodeInterest x = [] from by unfold f_EncodeInterest; rw [h]; rfl, wdecode_nil]; rfl
theorem wf0_back {x : tInterest.D} (h : f_ValidInterest x = true) : f0_DecodeInterest (f_EncodeInterest x) = x := by
 unfold f0_DecodeInterest; rw [wdecode_encode h]; rfl
theorem wname_back {b : List UInt8} {a : Int} (h : f2_ReadName b a = true) : f_AppendName (b.take a.toNat) (f0_ReadName b a) = b.take (f1_ReadName b a).toNat := by
 unfold f2_ReadName at h
 unfold f0_ReadName f1_ReadName
 cases q : readName b a with
 | none => rw [q] at h; cases h
 | some r => rw [show rn0 (some r) = r.1 from rfl, show rn1 (some r) = (r.2 : Int) from rfl, Int.toNat_natCast]; exact (readName_bwd q).symm
end Go.Proofs.YtidnahocnhcoiaaDoor
namespace Go.Proofs.YtidnahocnhcoiaaDoor
open Go.Shelf Go.RowKit
set_option linter.unusedVariables false
def laysM171_ren : Go.Shelf.Ren := ⟨fun | 171 => 74 | 243 => 79 | 246 => 83 | 283 => 86 | 284 => 87 | 285 => 88 | 286 => 89 | 129 => 93 | 317 => 92 | 318 => 94 | 319 => 95 | 320 => 96 | 337 => 97 | 338 => 98 | n => n, fun | 3 => 3 | 9 => 9 | 2 => 2 | 4 => 4 | 171 => 99 | 0 => 0 | 53 => 100 | 37 => 22 | 5 => 5 | 173 => 103 | 212 => 110 | 51 => 111 | 20 => 20 | 213 => 112 | 46 => 81 | 232 => 116 | 233 => 117 | n => n, fun | 17 => 0 | 18 => 2 | 19 => 3 | n => n⟩
theorem laysM171 : Go.Proofs.LaysM.n171 Tryd.prog laysM171_ren := {
 mixed := by kernel_rfl
 f129 := Tryd.func93.trans (congrArg some b_15)
 f171 := Tryd.func74.trans (congrArg some b_15)
 f243 := Tryd.func79.trans (congrArg some b_15)
 f246 := Tryd.func83.trans (congrArg some b_15)
 f283 := Tryd.func86.trans (congrArg some b_15)
 f284 := Tryd.func87.trans (congrArg some b_15)
 f285 := Tryd.func88.trans (congrArg some b_15)
 f286 := Tryd.func89.trans (congrArg some b_15)
 f317 := Tryd.func92.trans (congrArg some b_15)
 f318 := Tryd.func94.trans (congrArg some b_15)
 f319 := Tryd.func95.trans (congrArg some b_15)
 f320 := Tryd.func96.trans (congrArg some b_15)
 f337 := Tryd.func97.trans (congrArg some b_15)
 f338 := Tryd.func98.trans (congrArg some b_15)
 t0 := Tryd.underlying0
 a0 := Tryd.isAgg0
 z0 := Tryd.sizeOf0
 v0 := Tryd.zeroValue0
 t2 := Tryd.underlying2
 a2 := Tryd.isAgg2
 z2 := Tryd.sizeOf2
 v2 := Tryd.zeroValue2
 t3 := Tryd.underlying3
 a3 := Tryd.isAgg3
 z3 := Tryd.sizeOf3
 v3 := Tryd.zeroValue3
 t4 := Tryd.underlying4
 a4 := Tryd.isAgg4
 z4 := Tryd.sizeOf4
 v4 := Tryd.zeroValue4
 t5 := Tryd.underlying5
 a5 := Tryd.isAgg5
 z5 := Tryd.sizeOf5
 v5 := Tryd.zeroValue5
 t9 := Tryd.underlying9
 a9 := Tryd.isAgg9
 z9 := Tryd.sizeOf9
 v9 := Tryd.zeroValue9
 t20 := Tryd.underlying20
 a20 := Tryd.isAgg20
 z20 := Tryd.sizeOf20
 v20 := Tryd.zeroValue20
 t37 := Tryd.underlying22
 a37 := Tryd.isAgg22
 z37 := Tryd.sizeOf22
 v37 := Tryd.zeroValue22
 t46 := Tryd.underlying81
 a46 := Tryd.isAgg81
 z46 := Tryd.sizeOf81
 v46 := Tryd.zeroValue81
 t51 := Tryd.underlying111
 a51 := Tryd.isAgg111
 z51 := Tryd.sizeOf111
 v51 := Tryd.zeroValue111
 t53 := Tryd.underlying100
 a53 := Tryd.isAgg100
 z53 := Tryd.sizeOf100
 v53 := Tryd.zeroValue100
 t171 := Tryd.underlying99
 a171 := Tryd.isAgg99
 z171 := Tryd.sizeOf99
 v171 := Tryd.zeroValue99
 t173 := Tryd.underlying103
 a173 := Tryd.isAgg103
 z173 := Tryd.sizeOf103
 v173 := Tryd.zeroValue103
 t212 := Tryd.underlying110
 a212 := Tryd.isAgg110
 z212 := Tryd.sizeOf110
 v212 := Tryd.zeroValue110
 t213 := Tryd.underlying112
 a213 := Tryd.isAgg112
 z213 := Tryd.sizeOf112
 t232 := Tryd.underlying116
 a232 := Tryd.isAgg116
 z232 := Tryd.sizeOf116
 v232 := Tryd.zeroValue116
 t233 := Tryd.underlying117
 a233 := Tryd.isAgg117
 z233 := Tryd.sizeOf117
 v233 := Tryd.zeroValue117
 g17 := by kernel_rfl
 g18 := by kernel_rfl
 g19 := by kernel_rfl
 i0 := by kernel_rfl
 i2 := by kernel_rfl
 i3 := by kernel_rfl
 i4 := by kernel_rfl
 i5 := by kernel_rfl
 i9 := by kernel_rfl
 i20 := by kernel_rfl
 i37 := by kernel_rfl
 i46 := by kernel_rfl
 i51 := by kernel_rfl
 i53 := by kernel_rfl
 i171 := by kernel_rfl
 i173 := by kernel_rfl
 i212 := by kernel_rfl
 i232 := by kernel_rfl
 i233 := by kernel_rfl
 m17 := by kernel_rfl
 m18 := by kernel_rfl
 m19 := by kernel_rfl }
open Go.RowKit Go.Sort Go.Lib in
theorem strconv_Itoa (n : Int) (h0 : -9223372036854775808 ≤ n) (h1 : n ≤ 9223372036854775807) (w : World) (htab : Lib.TabIs Tryd.prog w "internal/strconv.uint64pow10" .u64 Lib.pow10Tab) :
  Calls Tryd.prog 74 #[.int .i64 n] w fun e w' => e = .returned (.string ⟨(Lib.itoa n).toArray⟩) ∧ ∃ k os, w' = grow (w.drewN k) os := Any.strconv_Itoa laysM171 n h0 h1 w htab
def lays156_ren : Go.Shelf.Ren := ⟨fun | 156 => 78 | 165 => 80 | 166 => 81 | 169 => 82 | 240 => 84 | 241 => 85 | 276 => 90 | 277 => 91 | n => n, fun | 31 => 24 | 9 => 9 | 3 => 3 | 4 => 4 | 0 => 0 | 20 => 20 | 72 => 90 | 76 => 94 | 70 => 88 | 37 => 22 | 75 => 93 | 127 => 98 | 164 => 105 | 5 => 5 | 80 => 96 | n => n, fun | n => n⟩
theorem lays156 : Go.Proofs.Lays.n156 Tryd.prog lays156_ren := {
 mixed := by kernel_rfl
 f156 := Tryd.func78.trans (congrArg some b_15)
 f165 := Tryd.func80.trans (congrArg some b_15)
 f166 := Tryd.func81.trans (congrArg some b_15)
 f169 := Tryd.func82.trans (congrArg some b_15)
 f240 := Tryd.func84.trans (congrArg some b_15)
 f241 := Tryd.func85.trans (congrArg some b_15)
 f276 := Tryd.func90.trans (congrArg some b_15)
 f277 := Tryd.func91.trans (congrArg some b_15)
 t0 := Tryd.underlying0
 a0 := Tryd.isAgg0
 z0 := Tryd.sizeOf0
 v0 := Tryd.zeroValue0
 t3 := Tryd.underlying3
 a3 := Tryd.isAgg3
 z3 := Tryd.sizeOf3
 v3 := Tryd.zeroValue3
 t4 := Tryd.underlying4
 a4 := Tryd.isAgg4
 z4 := Tryd.sizeOf4
 v4 := Tryd.zeroValue4
 t9 := Tryd.underlying9
 a9 := Tryd.isAgg9
 z9 := Tryd.sizeOf9
 v9 := Tryd.zeroValue9
 t20 := Tryd.underlying20
 a20 := Tryd.isAgg20
 z20 := Tryd.sizeOf20
 v20 := Tryd.zeroValue20
 t31 := Tryd.underlying24
 a31 := Tryd.isAgg24
 z31 := Tryd.sizeOf24
 v31 := Tryd.zeroValue24
 t37 := Tryd.underlying22
 a37 := Tryd.isAgg22
 z37 := Tryd.sizeOf22
 v37 := Tryd.zeroValue22
 t70 := Tryd.underlying88
 a70 := Tryd.isAgg88
 z70 := Tryd.sizeOf88
 v70 := Tryd.zeroValue88
 t72 := Tryd.underlying90
 a72 := Tryd.isAgg90
 z72 := Tryd.sizeOf90
 v72 := Tryd.zeroValue90
 t75 := Tryd.underlying93
 a75 := Tryd.isAgg93
 z75 := Tryd.sizeOf93
 v75 := Tryd.zeroValue93
 t76 := Tryd.underlying94
 a76 := Tryd.isAgg94
 z76 := Tryd.sizeOf94
 v76 := Tryd.zeroValue94
 t127 := Tryd.underlying98
 a127 := Tryd.isAgg98
 z127 := Tryd.sizeOf98
 v127 := Tryd.zeroValue98
 t164 := Tryd.underlying105
 a164 := Tryd.isAgg105
 z164 := Tryd.sizeOf105
 v164 := Tryd.zeroValue105 }
theorem Builder_Extra_156 : Builder.Extra Tryd.prog lays156_ren := {
 sizeBuilder := by kernel_rfl
 liesBuilder := by kernel_rfl
 t5 := Tryd.underlying5
 a5 := Tryd.isAgg5
 z5 := Tryd.sizeOf5
 v5 := Tryd.zeroValue5
 infoByte := by kernel_rfl
 cellsByte := by kernel_rfl
 sizeByte := by kernel_rfl
 neB5 := by decide }
theorem strings_Join_none (a : Option Addr) (c : Nat) (sep : ByteArray) (w : World) :
  Calls Tryd.prog 78 #[.slice a 0 c, .string sep] w fun e w' => e = .returned (.string ⟨#[]⟩) ∧ w' = w := Any.strings_Join_none lays156 Builder_Extra_156 a c sep w
theorem strings_Join (bk o c : Nat) (xs : List ByteArray) (sep : ByteArray) (w : World) (hcells : ∀ (j : Nat) x, xs[j]? = some x → w.cell? ⟨bk, o + j, none⟩ = some (.string x)) (hbk : bk < w.heap.size) (hN : xs.length ≤ 140737488355328) (hcap : xs.length ≤ c) (hlen : (Lib.join (xs.map (·.data.toList)) sep.data.toList).length ≤ 140737488355328) :
  Calls Tryd.prog 78 #[.slice (some ⟨bk, o, none⟩) xs.length c, .string sep] w fun e w' => e = .returned (.string ⟨(Lib.join (xs.map (·.data.toList)) sep.data.toList).toArray⟩) ∧ Below w.heap.size w w' := Any.strings_Join lays156 Builder_Extra_156 bk o c xs sep w hcells hbk hN hcap hlen
end Go.Proofs.YtidnahocnhcoiaaDoor
