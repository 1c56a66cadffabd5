/- Interests out of bytes. Printed by gen11.py. -/
import Derived.Test.YtmhchmokjconoaaInr
import Derived.Test.YtmhchmokjconoaaDda
namespace Go.Proofs.Ytmhchmokjconoaa
open Go.RowKit
set_option linter.unusedVariables false
set_option linter.unusedSimpArgs false

def decodeInterest (b : List UInt8) : Option tInterest.D := match readName b 0 with
  | none => none
  | some n => match decodeInts b n.2 3 with
    | none => none
    | some l => if l.2 = b.length then (if f_ValidInterest (n.1, l.1.getD 0 0, l.1.getD 1 0, l.1.getD 2 0) then some (n.1, l.1.getD 0 0, l.1.getD 1 0, l.1.getD 2 0) else none) else none
def f0_DecodeInterest (b : List UInt8) : tInterest.D := (decodeInterest b).getD ([], 0, 0, 0)
def f1_DecodeInterest (b : List UInt8) : Bool := (decodeInterest b).isSome
theorem ow_Interest_mk {w : World} {A0 : Option Addr} {c0 : Nat} {x : tInterest.D} {f0 : List Nat} (h0 : (Ty.sl .str).ow w [.slice A0 (List.length x.1) c0] x.1 f0)
    (b1 : -9223372036854775808 ≤ x.2.1 ∧ x.2.1 ≤ 9223372036854775807) (b2 : -9223372036854775808 ≤ x.2.2.1 ∧ x.2.2.1 ≤ 9223372036854775807) (b3 : -9223372036854775808 ≤ x.2.2.2 ∧ x.2.2.2 ≤ 9223372036854775807) :
    tInterest.ow w [.slice A0 (List.length x.1) c0, .int .i64 x.2.1, .int .i64 x.2.2.1, .int .i64 x.2.2.2] x f0 :=
  ⟨[_], [_, _, _], f0, [], rfl, (List.append_nil _).symm, h0, [_], [_, _], [], [], rfl, rfl, ⟨⟨rfl, b1⟩, rfl⟩, [_], [_], [], [], rfl, rfl, ⟨⟨rfl, b2⟩, rfl⟩, ⟨rfl, b3⟩, rfl⟩
theorem ow_Interest_zero (w : World) : tInterest.ow w [.slice none 0 0, .int .i64 0, .int .i64 0, .int .i64 0] ([], 0, 0, 0) [] :=
  ow_Interest_mk (x := ([], 0, 0, 0)) (f0 := []) (rd_ow_nil w .str) (by simp) (by simp) (by simp)
theorem three_of {l : List Int} (h : (l.length : Int) = 3) : ∃ a b c, l = [a, b, c] := by
  match l, h with
  | [a, b, c], _ => exact ⟨a, b, c, rfl⟩
  | [], h => simp at h
  | [a], h => simp at h
  | [a, b], h => simp at h
  | a :: b :: c :: d :: l, h => simp at h; omega
theorem dn_1 {b : List UInt8} (h : readName b 0 = none) : decodeInterest b = none := by unfold decodeInterest; rw [h]
theorem dn_2 {b : List UInt8} {n} (h : readName b 0 = some n) (h4 : decodeInts b n.2 3 = none) : decodeInterest b = none := by unfold decodeInterest; rw [h]; simp only; rw [h4]
theorem dn_3 {b : List UInt8} {n l} (h : readName b 0 = some n) (h4 : decodeInts b n.2 3 = some l) (h5 : ¬ l.2 = b.length) : decodeInterest b = none := by unfold decodeInterest; rw [h]; simp only; rw [h4]; exact if_neg h5
theorem dn_4 {b : List UInt8} {n l} (h : readName b 0 = some n) (h4 : decodeInts b n.2 3 = some l) (h5 : l.2 = b.length) {l0 l1 l2 : Int} (h6 : l.1 = [l0, l1, l2]) : decodeInterest b = if f_ValidInterest (n.1, l0, l1, l2) then some (n.1, l0, l1, l2) else none := by
  unfold decodeInterest; rw [h]; simp only; rw [h4]; simp only [h6]; rw [if_pos h5]; rfl
theorem interest_bulk {n : List (List UInt8)} {l0 l1 l2 : Int} (h1 : validName n = true) : Ty.bulk tInterest (n, l0, l1, l2) ≤ 1048576 := by
  have g1 := name_bulk h1
  show Ty.bulk (.sl .str) n + (0 + (0 + 0)) ≤ 1048576
  omega
theorem decodeInterest_bulk {b : List UInt8} {x : tInterest.D} (h : decodeInterest b = some x) : Ty.bulk tInterest x ≤ 1048576 := by
  unfold decodeInterest at h
  cases h1 : readName b 0 with
  | none => rw [h1] at h; cases h
  | some n =>
    rw [h1] at h; simp only at h
    cases h4 : decodeInts b n.2 3 with
    | none => rw [h4] at h; cases h
    | some l =>
      rw [h4] at h; simp only at h
      split at h
      · split at h
        · injection h with h; subst h
          exact interest_bulk (readName_bd h1).1
        · cases h
      · cases h
theorem N_DecodeInterest {b : List UInt8} (s0 : Ty.bulk (.sl .byte) b ≤ 1048576) : Ty.cntv tInterest (f0_DecodeInterest b) ≤ 100000000000 := by
  refine cntv_bd (t := tInterest) (B := 1048576) ?_ (by decide)
  unfold f0_DecodeInterest
  cases h : decodeInterest b with
  | none => decide
  | some x => exact decodeInterest_bulk h
set_option maxHeartbeats 8000000 in
theorem C_impl_DecodeInterest (w : World) (v : Value) (b : List UInt8) (h : (Ty.sl .byte).rd w [v] b) (s0 : Ty.bulk (.sl .byte) b ≤ 1048576) :
    Calls Try.prog 51 #[v] w (RetAgg2 w tInterest (f0_DecodeInterest b) (.bool (f1_DecodeInterest b))) := by
  obtain ⟨A, c, rfl, hc, hm, hn⟩ := Ty.rd_sl h
  have hbl : b.length ≤ 1048576 := Ty.bulk_len s0
  have HR0 : Hid (∀ r, decodeInterest b = r → f0_DecodeInterest b = r.getD ([], 0, 0, 0) ∧ f1_DecodeInterest b = r.isSome) := fun r hr => by unfold f0_DecodeInterest f1_DecodeInterest; rw [hr]; exact ⟨rfl, rfl⟩
  generalize f0_DecodeInterest b = F0 at HR0 ⊢
  generalize f1_DecodeInterest b = F1 at HR0 ⊢
  have BR0 : Blk (w.alloc (.cells #[.slice none 0 0, .int .i64 0, .int .i64 0, .int .i64 0] 67)) w.heap.size 67 #[.slice none 0 0, .int .i64 0, .int .i64 0, .int .i64 0] := Blk.new w _ _
  have hv0 : Below w.heap.size w (w.alloc (.cells #[.slice none 0 0, .int .i64 0, .int .i64 0, .int .i64 0] 67)) := (by repeat' (first | (with_reducible exact Below.refl _ _) | (with_reducible assumption) | (with_reducible refine bel_set ?_ (by (try dsimp only); omega) _) | (with_reducible refine bel_alloc ?_ _) | (with_reducible refine bel_drewN ?_ _) | (with_reducible refine bel_drew ?_)))
  go_enter Try.func51, Try.ntmps51
  go_wp2_with fail
  generalize hW0 : (w.alloc (.cells #[.slice none 0 0, .int .i64 0, .int .i64 0, .int .i64 0] 67)) = W0 at BR0 hv0 ⊢
  clear hW0
  cases hv : readName b 0 with
  | none =>
    have HN := Lib.hid (dn_1 hv)
    have hcall : Calls Try.prog 38 #[.slice A b.length c, .int .i64 0] W0 (RetAgg3 W0 (.sl .str) [] (.int .i64 0) (.bool false)) := by
      have hrd := Ty.rd_below hv0 h
      have := C_impl_ReadName W0 _ b 0 hrd (by omega) (by omega)
      rw [hv] at this; exact this
    clear hv
    refine hcall.mono ?_
    rintro e V ⟨cs, fp, rfl, how, hfr, hb⟩
    obtain ⟨A9, c9, rfl⟩ := Ty.ow_slv how
    clear hcall hfr
    have BR8 := (BR0.below hb BR0.lt).alloc (.cells #[.slice A9 (List.length ([] : List (List UInt8))) c9] 47)
    have hv8 : Below w.heap.size w (V.alloc (.cells #[.slice A9 (List.length ([] : List (List UInt8))) c9] 47)) := bel_alloc (bel_trans hv0 hb) _
    have hcall2 : Calls Try.prog 90 #[.slice A b.length c, .int .i64 0, .int .i64 3] (V.alloc (.cells #[.slice A9 (List.length ([] : List (List UInt8))) c9] 47)) (RetSl3 (V.alloc (.cells #[.slice A9 (List.length ([] : List (List UInt8))) c9] 47)) .int (di0 (decodeInts b 0 3)) (.int .i64 (di1 (decodeInts b 0 3))) (.bool (decodeInts b 0 3).isSome)) := by
      have hrd := Ty.rd_below hv8 h
      have := C_impl_DecodeInts (V.alloc (.cells #[.slice A9 (List.length ([] : List (List UInt8))) c9] 47)) _ b 0 3 hrd (by omega) (by omega)
      exact this
    clear how
    set_option maxRecDepth 100000 in go_wp2_with fail
    refine hcall2.mono ?_
    rintro e V9 ⟨A8, c8, fp8, rfl, how8, hfr8, hb8⟩
    clear hcall2 how8 hfr8
    have BR9 := BR8.below hb8 BR8.lt
    have hv9 := bel_trans hv8 hb8
    generalize (decodeInts b 0 3).isSome = gg
    have R0 : V9.cell? ⟨w.heap.size, 0, none⟩ = some (.slice none 0 0) := BR9.cell 0
    have RF0 : V9.frozen? ⟨w.heap.size, 0, none⟩ = false := BR9.frozen 0
    have R1 : V9.cell? ⟨w.heap.size, 1, none⟩ = some (.int .i64 0) := BR9.cell 1
    have RF1 : V9.frozen? ⟨w.heap.size, 1, none⟩ = false := BR9.frozen 1
    have R2 : V9.cell? ⟨w.heap.size, 2, none⟩ = some (.int .i64 0) := BR9.cell 2
    have RF2 : V9.frozen? ⟨w.heap.size, 2, none⟩ = false := BR9.frozen 2
    have R3 : V9.cell? ⟨w.heap.size, 3, none⟩ = some (.int .i64 0) := BR9.cell 3
    have RF3 : V9.frozen? ⟨w.heap.size, 3, none⟩ = false := BR9.frozen 3
    have ZR := BR9.lt
    set_option maxRecDepth 100000 in go_wp2
    refine bodyPost_ret (v := .tuple #[.agg #[.slice none 0 0, .int .i64 0, .int .i64 0, .int .i64 0], .bool false]) (by simp [results, Try.results51, go_sem, R0, RF0, R1, RF1, R2, RF2, R3, RF3, ZR]) rfl ?_
    obtain ⟨hF0, hF1⟩ := HR0.out _ HN.out
    rw [hF0, hF1]
    exact ⟨[.slice none 0 0, .int .i64 0, .int .i64 0, .int .i64 0], [], rfl, ow_Interest_zero _, FrI.nil _ _, (by repeat' (first | (with_reducible exact Below.refl _ _) | (with_reducible assumption) | (with_reducible refine bel_set ?_ (by (try dsimp only); omega) _) | (with_reducible refine bel_alloc ?_ _) | (with_reducible refine bel_drewN ?_ _) | (with_reducible refine bel_drew ?_)))⟩
  | some r1 =>
    obtain ⟨n1, p1⟩ := r1
    have E1 := Lib.hid hv
    have D1 := readName_bd hv
    simp only at D1
    have hcall : Calls Try.prog 38 #[.slice A b.length c, .int .i64 0] W0 (RetAgg3 W0 (.sl .str) n1 (.int .i64 p1) (.bool true)) := by
      have hrd := Ty.rd_below hv0 h
      have := C_impl_ReadName W0 _ b 0 hrd (by omega) (by omega)
      rw [hv] at this; exact this
    clear hv
    refine hcall.mono ?_
    rintro e V1 ⟨cs1, fp1, rfl, how1, hfr1, hb1⟩
    obtain ⟨A1, c1, rfl⟩ := Ty.ow_slv how1
    clear hcall
    have BR1 := (BR0.below hb1 BR0.lt).alloc (.cells #[.slice A1 (List.length n1) c1] 47)
    have hv1 : Below w.heap.size w (V1.alloc (.cells #[.slice A1 (List.length n1) c1] 47)) := bel_alloc (bel_trans hv0 hb1) _
    have Bn1 : Blk (V1.alloc (.cells #[.slice A1 (List.length n1) c1] 47)) V1.heap.size 47 #[.slice A1 (List.length n1) c1] := Blk.new _ _ _
    have how1 : Ty.ow (V1.alloc (.cells #[.slice A1 (List.length n1) c1] 47)) _ _ _ fp1 := Ty.ow_bel ((Below.refl _ _).alloc (Nat.le_refl _) _) how1
    have hs1 : V1.heap.size ≤ (V1.alloc (.cells #[.slice A1 (List.length n1) c1] 47)).heap.size := by rw [World.size_alloc]; omega
    set_option maxRecDepth 100000 in go_wp2_with fail
    generalize hW : (V1.alloc (.cells #[.slice A1 (List.length n1) c1] 47)) = W1 at BR1 hv1 Bn1 how1 hs1 ⊢
    clear hW
    cases hv : decodeInts b p1 3 with
    | none =>
      have HN := Lib.hid (dn_2 E1.out hv)
      have hcall2 : Calls Try.prog 90 #[.slice A b.length c, .int .i64 p1, .int .i64 3] W1 (RetSl3 W1 .int [] (.int .i64 0) (.bool false)) := by
        have hrd := Ty.rd_below hv1 h
        have := C_impl_DecodeInts W1 _ b p1 3 hrd (by omega) (by omega)
        rw [hv] at this; exact this
      clear hv
      refine hcall2.mono ?_
      rintro e V ⟨A9, c9, fp, rfl, how, hfr, hb⟩
      clear hcall2 hfr how
      have BR9 := BR1.below hb BR1.lt
      have hv9 := bel_trans hv1 hb
      have R0 : V.cell? ⟨w.heap.size, 0, none⟩ = some (.slice none 0 0) := BR9.cell 0
      have RF0 : V.frozen? ⟨w.heap.size, 0, none⟩ = false := BR9.frozen 0
      have R1 : V.cell? ⟨w.heap.size, 1, none⟩ = some (.int .i64 0) := BR9.cell 1
      have RF1 : V.frozen? ⟨w.heap.size, 1, none⟩ = false := BR9.frozen 1
      have R2 : V.cell? ⟨w.heap.size, 2, none⟩ = some (.int .i64 0) := BR9.cell 2
      have RF2 : V.frozen? ⟨w.heap.size, 2, none⟩ = false := BR9.frozen 2
      have R3 : V.cell? ⟨w.heap.size, 3, none⟩ = some (.int .i64 0) := BR9.cell 3
      have RF3 : V.frozen? ⟨w.heap.size, 3, none⟩ = false := BR9.frozen 3
      have ZR := BR9.lt
      set_option maxRecDepth 100000 in go_wp2
      refine bodyPost_ret (v := .tuple #[.agg #[.slice none 0 0, .int .i64 0, .int .i64 0, .int .i64 0], .bool false]) (by simp [results, Try.results51, go_sem, R0, RF0, R1, RF1, R2, RF2, R3, RF3, ZR]) rfl ?_
      obtain ⟨hF0, hF1⟩ := HR0.out _ HN.out
      rw [hF0, hF1]
      exact ⟨[.slice none 0 0, .int .i64 0, .int .i64 0, .int .i64 0], [], rfl, ow_Interest_zero _, FrI.nil _ _, (by repeat' (first | (with_reducible exact Below.refl _ _) | (with_reducible assumption) | (with_reducible refine bel_set ?_ (by (try dsimp only); omega) _) | (with_reducible refine bel_alloc ?_ _) | (with_reducible refine bel_drewN ?_ _) | (with_reducible refine bel_drew ?_)))⟩
    | some r4 =>
      obtain ⟨ll, p4⟩ := r4
      have E4 := Lib.hid hv
      have D4 := decodeInts_bd hv
      simp only at D4
      obtain ⟨l0, l1, l2, rfl⟩ := three_of D4.1
      have hl0 := D4.2.2.2 l0 (by simp)
      have hl1 := D4.2.2.2 l1 (by simp)
      have hl2 := D4.2.2.2 l2 (by simp)
      have hcall2 : Calls Try.prog 90 #[.slice A b.length c, .int .i64 p1, .int .i64 3] W1 (RetSl3 W1 .int [l0, l1, l2] (.int .i64 p4) (.bool true)) := by
        have hrd := Ty.rd_below hv1 h
        have := C_impl_DecodeInts W1 _ b p1 3 hrd (by omega) (by omega)
        rw [hv] at this; exact this
      clear hv
      refine hcall2.mono ?_
      rintro e V4 ⟨A4, c4, fp4, rfl, how4, hfr4, hb4⟩
      clear hcall2
      have how1 := Ty.ow_bel hb4 how1
      have Bn4 := Bn1.below hb4 Bn1.lt
      have BRv := BR1.below hb4 BR1.lt
      have hvv := bel_trans hv1 hb4
      by_cases hend : p4 = b.length
      rotate_left
      · have HN := Lib.hid (dn_3 E1.out E4.out hend)
        have hq : ((p4 : Int) != (b.length : Int)) = true := by rw [bne_iff_ne]; omega
        clear hend
        have R0 : V4.cell? ⟨w.heap.size, 0, none⟩ = some (.slice none 0 0) := BRv.cell 0
        have RF0 : V4.frozen? ⟨w.heap.size, 0, none⟩ = false := BRv.frozen 0
        have R1 : V4.cell? ⟨w.heap.size, 1, none⟩ = some (.int .i64 0) := BRv.cell 1
        have RF1 : V4.frozen? ⟨w.heap.size, 1, none⟩ = false := BRv.frozen 1
        have R2 : V4.cell? ⟨w.heap.size, 2, none⟩ = some (.int .i64 0) := BRv.cell 2
        have RF2 : V4.frozen? ⟨w.heap.size, 2, none⟩ = false := BRv.frozen 2
        have R3 : V4.cell? ⟨w.heap.size, 3, none⟩ = some (.int .i64 0) := BRv.cell 3
        have RF3 : V4.frozen? ⟨w.heap.size, 3, none⟩ = false := BRv.frozen 3
        have ZR := BRv.lt
        set_option maxRecDepth 100000 in go_wp2
        refine bodyPost_ret (v := .tuple #[.agg #[.slice none 0 0, .int .i64 0, .int .i64 0, .int .i64 0], .bool false]) (by simp [results, Try.results51, go_sem, R0, RF0, R1, RF1, R2, RF2, R3, RF3, ZR]) rfl ?_
        obtain ⟨hF0, hF1⟩ := HR0.out _ HN.out
        rw [hF0, hF1]
        exact ⟨[.slice none 0 0, .int .i64 0, .int .i64 0, .int .i64 0], [], rfl, ow_Interest_zero _, FrI.nil _ _, (by repeat' (first | (with_reducible exact Below.refl _ _) | (with_reducible assumption) | (with_reducible refine bel_set ?_ (by (try dsimp only); omega) _) | (with_reducible refine bel_alloc ?_ _) | (with_reducible refine bel_drewN ?_ _) | (with_reducible refine bel_drew ?_)))⟩
      have HN := Lib.hid (dn_4 E1.out E4.out hend rfl)
      have hq : ((p4 : Int) != (b.length : Int)) = false := by simp [hend]
      clear hend E4
      obtain ⟨lb, lo, rfl, le0, _⟩ := Ty.rd_int_at (Ty.ow_rd how4) (show 0 < [l0, l1, l2].length by simp)
      obtain ⟨lb1, lo1, he1, le1, _⟩ := Ty.rd_int_at (Ty.ow_rd how4) (show 1 < [l0, l1, l2].length by simp)
      injection he1 with he1; injection he1 with hea heb; subst hea; subst heb
      obtain ⟨lb2, lo2, he2, le2, _⟩ := Ty.rd_int_at (Ty.ow_rd how4) (show 2 < [l0, l1, l2].length by simp)
      injection he2 with he2; injection he2 with hea heb; subst hea; subst heb
      have le0 : V4.cell? ⟨lb, lo, none⟩ = some (.int .i64 l0) := le0
      have le1 : V4.cell? ⟨lb, lo + 1, none⟩ = some (.int .i64 l1) := le1
      have le2 : V4.cell? ⟨lb, lo + 2, none⟩ = some (.int .i64 l2) := le2
      have hzl := World.block_lt_of_cell? V4 _ le0
      simp only at hzl
      have HS : Hid (∀ W, Below V4.heap.size V4 W → Below w.heap.size w W ∧ W.cell? ⟨V1.heap.size, 0, none⟩ = some (.slice A1 (List.length n1) c1) ∧ W.cell? ⟨lb, lo, none⟩ = some (.int .i64 l0) ∧ W.cell? ⟨lb, lo + 1, none⟩ = some (.int .i64 l1) ∧ W.cell? ⟨lb, lo + 2, none⟩ = some (.int .i64 l2)) := fun W hW => ⟨bel_trans hvv hW, (hW.cell (p := ⟨V1.heap.size, 0, none⟩) Bn4.lt).trans (Bn4.cell 0), (hW.cell (p := ⟨lb, lo, none⟩) hzl).trans le0, (hW.cell (p := ⟨lb, lo + 1, none⟩) hzl).trans le1, (hW.cell (p := ⟨lb, lo + 2, none⟩) hzl).trans le2⟩
      set_option maxRecDepth 100000 in go_wp2_with fail
      set_option maxRecDepth 100000 in go_region_held3 (fun W => Below w.heap.size w W ∧ W.cell? ⟨V1.heap.size, 0, none⟩ = some (.slice A1 (List.length n1) c1) ∧ W.cell? ⟨lb, lo, none⟩ = some (.int .i64 l0) ∧ W.cell? ⟨lb, lo + 1, none⟩ = some (.int .i64 l1) ∧ W.cell? ⟨lb, lo + 2, none⟩ = some (.int .i64 l2)) (exact HS.out _ (by repeat' (first | (with_reducible exact Below.refl _ _) | (with_reducible assumption) | (with_reducible refine bel_set ?_ (by (try dsimp only); omega) _) | (with_reducible refine bel_alloc ?_ _) | (with_reducible refine bel_drewN ?_ _) | (with_reducible refine bel_drew ?_)))) (fail)
      set_option maxRecDepth 100000 in go_wp2_with fail
      have BR5 : Blk (V4.alloc (.cells #[.slice A1 (List.length n1) c1, .int .i64 l0, .int .i64 l1, .int .i64 l2] 67)).drew w.heap.size 67 #[.slice none 0 0, .int .i64 0, .int .i64 0, .int .i64 0] := (BRv.alloc _).drew
      have BX5 : Blk (V4.alloc (.cells #[.slice A1 (List.length n1) c1, .int .i64 l0, .int .i64 l1, .int .i64 l2] 67)).drew V4.heap.size 67 #[.slice A1 (List.length n1) c1, .int .i64 l0, .int .i64 l1, .int .i64 l2] := (Blk.new V4 _ _).drew
      have hv5 : Below w.heap.size w (V4.alloc (.cells #[.slice A1 (List.length n1) c1, .int .i64 l0, .int .i64 l1, .int .i64 l2] 67)).drew := (by repeat' (first | (with_reducible exact Below.refl _ _) | (with_reducible assumption) | (with_reducible refine bel_set ?_ (by (try dsimp only); omega) _) | (with_reducible refine bel_alloc ?_ _) | (with_reducible refine bel_drewN ?_ _) | (with_reducible refine bel_drew ?_)))
      have how1 : Ty.ow (V4.alloc (.cells #[.slice A1 (List.length n1) c1, .int .i64 l0, .int .i64 l1, .int .i64 l2] 67)).drew _ _ _ fp1 := Ty.ow_bel (by repeat' (first | (with_reducible exact Below.refl _ _) | (with_reducible assumption) | (with_reducible refine bel_set ?_ (by (try dsimp only); omega) _) | (with_reducible refine bel_alloc ?_ _) | (with_reducible refine bel_drewN ?_ _) | (with_reducible refine bel_drew ?_))) how1
      have hz5 : V4.heap.size ≤ ((V4.alloc (.cells #[.slice A1 (List.length n1) c1, .int .i64 l0, .int .i64 l1, .int .i64 l2] 67)).drew).heap.size := by simp only [World.size_drew, World.size_alloc]; omega
      clear BRv hvv le0 le1 le2
      generalize hW5 : (V4.alloc (.cells #[.slice A1 (List.length n1) c1, .int .i64 l0, .int .i64 l1, .int .i64 l2] 67)).drew = W5 at BR5 BX5 hv5 how1 hz5 ⊢
      clear hW5
      have HD := Lib.hid (ow_Interest_mk (x := (n1, l0, l1, l2)) how1 ⟨by show -9223372036854775808 ≤ l0; omega, by show l0 ≤ 9223372036854775807; omega⟩ ⟨by show -9223372036854775808 ≤ l1; omega, by show l1 ≤ 9223372036854775807; omega⟩ ⟨by show -9223372036854775808 ≤ l2; omega, by show l2 ≤ 9223372036854775807; omega⟩)
      have hfD : FrI (w.heap.size + 1) V1.heap.size fp1 := hfr1.mono (show w.heap.size + 1 ≤ W0.heap.size from BR0.lt) (Nat.le_refl _)
      refine (C_impl_ValidInterest _ _ (n1, l0, l1, l2) (Ty.ow_rd HD.out)).mono ?_
      rintro e V6 ⟨rfl, hb6⟩
      have BR6 := BR5.below hb6 BR5.lt
      have BX6 := BX5.below hb6 BX5.lt
      have hv6 := bel_trans hv5 hb6
      have hf6 : FrI (w.heap.size + 1) V6.heap.size fp1 := hfD.mono (Nat.le_refl _) (by have h1 := hs1; have h2 := hb4.size; have h3 := hb6.size; omega)
      have HD6 := Lib.hid (Ty.ow_bel hb6 HD.out)
      have R0 : V6.cell? ⟨w.heap.size, 0, none⟩ = some (.slice none 0 0) := BR6.cell 0
      have RF0 : V6.frozen? ⟨w.heap.size, 0, none⟩ = false := BR6.frozen 0
      have R1 : V6.cell? ⟨w.heap.size, 1, none⟩ = some (.int .i64 0) := BR6.cell 1
      have RF1 : V6.frozen? ⟨w.heap.size, 1, none⟩ = false := BR6.frozen 1
      have R2 : V6.cell? ⟨w.heap.size, 2, none⟩ = some (.int .i64 0) := BR6.cell 2
      have RF2 : V6.frozen? ⟨w.heap.size, 2, none⟩ = false := BR6.frozen 2
      have R3 : V6.cell? ⟨w.heap.size, 3, none⟩ = some (.int .i64 0) := BR6.cell 3
      have RF3 : V6.frozen? ⟨w.heap.size, 3, none⟩ = false := BR6.frozen 3
      have ZR := BR6.lt
      have X0 : V6.cell? ⟨V4.heap.size, 0, none⟩ = some (.slice A1 (List.length n1) c1) := BX6.cell 0
      have X1 : V6.cell? ⟨V4.heap.size, 1, none⟩ = some (.int .i64 l0) := BX6.cell 1
      have X2 : V6.cell? ⟨V4.heap.size, 2, none⟩ = some (.int .i64 l1) := BX6.cell 2
      have X3 : V6.cell? ⟨V4.heap.size, 3, none⟩ = some (.int .i64 l2) := BX6.cell 3
      cases q0 : f_ValidInterest (n1, l0, l1, l2)
      · rw [q0] at HN
        have HN0 : Hid (decodeInterest b = none) := HN.out
        set_option maxRecDepth 100000 in go_wp2
        refine bodyPost_ret (v := .tuple #[.agg #[.slice none 0 0, .int .i64 0, .int .i64 0, .int .i64 0], .bool false]) (by simp [results, Try.results51, go_sem, R0, RF0, R1, RF1, R2, RF2, R3, RF3, ZR]) rfl ?_
        obtain ⟨hF0, hF1⟩ := HR0.out _ HN0.out
        rw [hF0, hF1]
        exact ⟨[.slice none 0 0, .int .i64 0, .int .i64 0, .int .i64 0], [], rfl, ow_Interest_zero _, FrI.nil _ _, (by repeat' (first | (with_reducible exact Below.refl _ _) | (with_reducible assumption) | (with_reducible refine bel_set ?_ (by (try dsimp only); omega) _) | (with_reducible refine bel_alloc ?_ _) | (with_reducible refine bel_drewN ?_ _) | (with_reducible refine bel_drew ?_)))⟩
      · rw [q0] at HN
        have HN0 : Hid (decodeInterest b = some (n1, l0, l1, l2)) := HN.out
        set_option maxRecDepth 100000 in go_wp2
        refine bodyPost_ret (v := .tuple #[.agg #[.slice A1 (List.length n1) c1, .int .i64 l0, .int .i64 l1, .int .i64 l2], .bool true]) (by simp [results, Try.results51, go_sem, R0, RF0, R1, RF1, R2, RF2, R3, RF3, ZR]) rfl ?_
        obtain ⟨hF0, hF1⟩ := HR0.out _ HN0.out
        rw [hF0, hF1]
        exact ⟨[.slice A1 (List.length n1) c1, .int .i64 l0, .int .i64 l1, .int .i64 l2], fp1, rfl, Ty.ow_keep (by intro b hb'; have hb'' := (hf6).2 b hb'; (try simp only [World.size_alloc, World.size_setCell, size_drewN, World.size_drew] at hb''); repeat (first | (with_reducible rfl) | (rw [Below.heap_setCell _ _ _ _ (by (try dsimp only); omega)]) | (rw [Below.heap_alloc _ _ _ (by simp only [World.size_alloc, World.size_setCell]; omega)]))) HD6.out, hf6.mono (by omega) (by simp only [World.size_setCell]; omega), (by repeat' (first | (with_reducible exact Below.refl _ _) | (with_reducible assumption) | (with_reducible refine bel_set ?_ (by (try dsimp only); omega) _) | (with_reducible refine bel_alloc ?_ _) | (with_reducible refine bel_drewN ?_ _) | (with_reducible refine bel_drew ?_)))⟩
set_option maxHeartbeats 8000000 in
theorem C_spec_DecodeInterest (w : World) (v : Value) (b : List UInt8) (h : (Ty.sl .byte).rd w [v] b) (s0 : Ty.bulk (.sl .byte) b ≤ 1048576) :
    Calls Try.prog 50 #[v] w (RetAgg2 w tInterest (f0_DecodeInterest b) (.bool (f1_DecodeInterest b))) := by
  obtain ⟨A, c, rfl, hc, hm, hn⟩ := Ty.rd_sl h
  have hbl : b.length ≤ 1048576 := Ty.bulk_len s0
  have HR0 : Hid (∀ r, decodeInterest b = r → f0_DecodeInterest b = r.getD ([], 0, 0, 0) ∧ f1_DecodeInterest b = r.isSome) := fun r hr => by unfold f0_DecodeInterest f1_DecodeInterest; rw [hr]; exact ⟨rfl, rfl⟩
  generalize f0_DecodeInterest b = F0 at HR0 ⊢
  generalize f1_DecodeInterest b = F1 at HR0 ⊢
  have BR0 : Blk (w.alloc (.cells #[.slice none 0 0, .int .i64 0, .int .i64 0, .int .i64 0] 67)) w.heap.size 67 #[.slice none 0 0, .int .i64 0, .int .i64 0, .int .i64 0] := Blk.new w _ _
  have hv0 : Below w.heap.size w (w.alloc (.cells #[.slice none 0 0, .int .i64 0, .int .i64 0, .int .i64 0] 67)) := (by repeat' (first | (with_reducible exact Below.refl _ _) | (with_reducible assumption) | (with_reducible refine bel_set ?_ (by (try dsimp only); omega) _) | (with_reducible refine bel_alloc ?_ _) | (with_reducible refine bel_drewN ?_ _) | (with_reducible refine bel_drew ?_)))
  go_enter Try.func50, Try.ntmps50
  go_wp2_with fail
  generalize hW0 : (w.alloc (.cells #[.slice none 0 0, .int .i64 0, .int .i64 0, .int .i64 0] 67)) = W0 at BR0 hv0 ⊢
  clear hW0
  cases hv : readName b 0 with
  | none =>
    have HN := Lib.hid (dn_1 hv)
    have hcall : Calls Try.prog 36 #[.slice A b.length c, .int .i64 0] W0 (RetAgg3 W0 (.sl .str) [] (.int .i64 0) (.bool false)) := by
      have hrd := Ty.rd_below hv0 h
      have := C_spec_ReadName W0 _ b 0 hrd (by omega) (by omega)
      rw [hv] at this; exact this
    clear hv
    refine hcall.mono ?_
    rintro e V ⟨cs, fp, rfl, how, hfr, hb⟩
    obtain ⟨A9, c9, rfl⟩ := Ty.ow_slv how
    clear hcall hfr
    have BR8 := (BR0.below hb BR0.lt).alloc (.cells #[.slice A9 (List.length ([] : List (List UInt8))) c9] 47)
    have hv8 : Below w.heap.size w (V.alloc (.cells #[.slice A9 (List.length ([] : List (List UInt8))) c9] 47)) := bel_alloc (bel_trans hv0 hb) _
    have hcall2 : Calls Try.prog 89 #[.slice A b.length c, .int .i64 0, .int .i64 3] (V.alloc (.cells #[.slice A9 (List.length ([] : List (List UInt8))) c9] 47)) (RetSl3 (V.alloc (.cells #[.slice A9 (List.length ([] : List (List UInt8))) c9] 47)) .int (di0 (decodeInts b 0 3)) (.int .i64 (di1 (decodeInts b 0 3))) (.bool (decodeInts b 0 3).isSome)) := by
      have hrd := Ty.rd_below hv8 h
      have := C_spec_DecodeInts (V.alloc (.cells #[.slice A9 (List.length ([] : List (List UInt8))) c9] 47)) _ b 0 3 hrd (by omega) (by omega)
      exact this
    clear how
    set_option maxRecDepth 100000 in go_wp2_with fail
    refine hcall2.mono ?_
    rintro e V9 ⟨A8, c8, fp8, rfl, how8, hfr8, hb8⟩
    clear hcall2 how8 hfr8
    have BR9 := BR8.below hb8 BR8.lt
    have hv9 := bel_trans hv8 hb8
    generalize (decodeInts b 0 3).isSome = gg
    have R0 : V9.cell? ⟨w.heap.size, 0, none⟩ = some (.slice none 0 0) := BR9.cell 0
    have RF0 : V9.frozen? ⟨w.heap.size, 0, none⟩ = false := BR9.frozen 0
    have R1 : V9.cell? ⟨w.heap.size, 1, none⟩ = some (.int .i64 0) := BR9.cell 1
    have RF1 : V9.frozen? ⟨w.heap.size, 1, none⟩ = false := BR9.frozen 1
    have R2 : V9.cell? ⟨w.heap.size, 2, none⟩ = some (.int .i64 0) := BR9.cell 2
    have RF2 : V9.frozen? ⟨w.heap.size, 2, none⟩ = false := BR9.frozen 2
    have R3 : V9.cell? ⟨w.heap.size, 3, none⟩ = some (.int .i64 0) := BR9.cell 3
    have RF3 : V9.frozen? ⟨w.heap.size, 3, none⟩ = false := BR9.frozen 3
    have ZR := BR9.lt
    set_option maxRecDepth 100000 in go_wp2
    refine bodyPost_ret (v := .tuple #[.agg #[.slice none 0 0, .int .i64 0, .int .i64 0, .int .i64 0], .bool false]) (by simp [results, Try.results50, go_sem, R0, RF0, R1, RF1, R2, RF2, R3, RF3, ZR]) rfl ?_
    obtain ⟨hF0, hF1⟩ := HR0.out _ HN.out
    rw [hF0, hF1]
    exact ⟨[.slice none 0 0, .int .i64 0, .int .i64 0, .int .i64 0], [], rfl, ow_Interest_zero _, FrI.nil _ _, (by repeat' (first | (with_reducible exact Below.refl _ _) | (with_reducible assumption) | (with_reducible refine bel_set ?_ (by (try dsimp only); omega) _) | (with_reducible refine bel_alloc ?_ _) | (with_reducible refine bel_drewN ?_ _) | (with_reducible refine bel_drew ?_)))⟩
  | some r1 =>
    obtain ⟨n1, p1⟩ := r1
    have E1 := Lib.hid hv
    have D1 := readName_bd hv
    simp only at D1
    have hcall : Calls Try.prog 36 #[.slice A b.length c, .int .i64 0] W0 (RetAgg3 W0 (.sl .str) n1 (.int .i64 p1) (.bool true)) := by
      have hrd := Ty.rd_below hv0 h
      have := C_spec_ReadName W0 _ b 0 hrd (by omega) (by omega)
      rw [hv] at this; exact this
    clear hv
    refine hcall.mono ?_
    rintro e V1 ⟨cs1, fp1, rfl, how1, hfr1, hb1⟩
    obtain ⟨A1, c1, rfl⟩ := Ty.ow_slv how1
    clear hcall
    have BR1 := (BR0.below hb1 BR0.lt).alloc (.cells #[.slice A1 (List.length n1) c1] 47)
    have hv1 : Below w.heap.size w (V1.alloc (.cells #[.slice A1 (List.length n1) c1] 47)) := bel_alloc (bel_trans hv0 hb1) _
    have Bn1 : Blk (V1.alloc (.cells #[.slice A1 (List.length n1) c1] 47)) V1.heap.size 47 #[.slice A1 (List.length n1) c1] := Blk.new _ _ _
    have how1 : Ty.ow (V1.alloc (.cells #[.slice A1 (List.length n1) c1] 47)) _ _ _ fp1 := Ty.ow_bel ((Below.refl _ _).alloc (Nat.le_refl _) _) how1
    have hs1 : V1.heap.size ≤ (V1.alloc (.cells #[.slice A1 (List.length n1) c1] 47)).heap.size := by rw [World.size_alloc]; omega
    set_option maxRecDepth 100000 in go_wp2_with fail
    generalize hW : (V1.alloc (.cells #[.slice A1 (List.length n1) c1] 47)) = W1 at BR1 hv1 Bn1 how1 hs1 ⊢
    clear hW
    cases hv : decodeInts b p1 3 with
    | none =>
      have HN := Lib.hid (dn_2 E1.out hv)
      have hcall2 : Calls Try.prog 89 #[.slice A b.length c, .int .i64 p1, .int .i64 3] W1 (RetSl3 W1 .int [] (.int .i64 0) (.bool false)) := by
        have hrd := Ty.rd_below hv1 h
        have := C_spec_DecodeInts W1 _ b p1 3 hrd (by omega) (by omega)
        rw [hv] at this; exact this
      clear hv
      refine hcall2.mono ?_
      rintro e V ⟨A9, c9, fp, rfl, how, hfr, hb⟩
      clear hcall2 hfr how
      have BR9 := BR1.below hb BR1.lt
      have hv9 := bel_trans hv1 hb
      have R0 : V.cell? ⟨w.heap.size, 0, none⟩ = some (.slice none 0 0) := BR9.cell 0
      have RF0 : V.frozen? ⟨w.heap.size, 0, none⟩ = false := BR9.frozen 0
      have R1 : V.cell? ⟨w.heap.size, 1, none⟩ = some (.int .i64 0) := BR9.cell 1
      have RF1 : V.frozen? ⟨w.heap.size, 1, none⟩ = false := BR9.frozen 1
      have R2 : V.cell? ⟨w.heap.size, 2, none⟩ = some (.int .i64 0) := BR9.cell 2
      have RF2 : V.frozen? ⟨w.heap.size, 2, none⟩ = false := BR9.frozen 2
      have R3 : V.cell? ⟨w.heap.size, 3, none⟩ = some (.int .i64 0) := BR9.cell 3
      have RF3 : V.frozen? ⟨w.heap.size, 3, none⟩ = false := BR9.frozen 3
      have ZR := BR9.lt
      set_option maxRecDepth 100000 in go_wp2
      refine bodyPost_ret (v := .tuple #[.agg #[.slice none 0 0, .int .i64 0, .int .i64 0, .int .i64 0], .bool false]) (by simp [results, Try.results50, go_sem, R0, RF0, R1, RF1, R2, RF2, R3, RF3, ZR]) rfl ?_
      obtain ⟨hF0, hF1⟩ := HR0.out _ HN.out
      rw [hF0, hF1]
      exact ⟨[.slice none 0 0, .int .i64 0, .int .i64 0, .int .i64 0], [], rfl, ow_Interest_zero _, FrI.nil _ _, (by repeat' (first | (with_reducible exact Below.refl _ _) | (with_reducible assumption) | (with_reducible refine bel_set ?_ (by (try dsimp only); omega) _) | (with_reducible refine bel_alloc ?_ _) | (with_reducible refine bel_drewN ?_ _) | (with_reducible refine bel_drew ?_)))⟩
    | some r4 =>
      obtain ⟨ll, p4⟩ := r4
      have E4 := Lib.hid hv
      have D4 := decodeInts_bd hv
      simp only at D4
      obtain ⟨l0, l1, l2, rfl⟩ := three_of D4.1
      have hl0 := D4.2.2.2 l0 (by simp)
      have hl1 := D4.2.2.2 l1 (by simp)
      have hl2 := D4.2.2.2 l2 (by simp)
      have hcall2 : Calls Try.prog 89 #[.slice A b.length c, .int .i64 p1, .int .i64 3] W1 (RetSl3 W1 .int [l0, l1, l2] (.int .i64 p4) (.bool true)) := by
        have hrd := Ty.rd_below hv1 h
        have := C_spec_DecodeInts W1 _ b p1 3 hrd (by omega) (by omega)
        rw [hv] at this; exact this
      clear hv
      refine hcall2.mono ?_
      rintro e V4 ⟨A4, c4, fp4, rfl, how4, hfr4, hb4⟩
      clear hcall2
      have how1 := Ty.ow_bel hb4 how1
      have Bn4 := Bn1.below hb4 Bn1.lt
      have BRv := BR1.below hb4 BR1.lt
      have hvv := bel_trans hv1 hb4
      by_cases hend : p4 = b.length
      rotate_left
      · have HN := Lib.hid (dn_3 E1.out E4.out hend)
        have hq : ((p4 : Int) != (b.length : Int)) = true := by rw [bne_iff_ne]; omega
        clear hend
        have R0 : V4.cell? ⟨w.heap.size, 0, none⟩ = some (.slice none 0 0) := BRv.cell 0
        have RF0 : V4.frozen? ⟨w.heap.size, 0, none⟩ = false := BRv.frozen 0
        have R1 : V4.cell? ⟨w.heap.size, 1, none⟩ = some (.int .i64 0) := BRv.cell 1
        have RF1 : V4.frozen? ⟨w.heap.size, 1, none⟩ = false := BRv.frozen 1
        have R2 : V4.cell? ⟨w.heap.size, 2, none⟩ = some (.int .i64 0) := BRv.cell 2
        have RF2 : V4.frozen? ⟨w.heap.size, 2, none⟩ = false := BRv.frozen 2
        have R3 : V4.cell? ⟨w.heap.size, 3, none⟩ = some (.int .i64 0) := BRv.cell 3
        have RF3 : V4.frozen? ⟨w.heap.size, 3, none⟩ = false := BRv.frozen 3
        have ZR := BRv.lt
        set_option maxRecDepth 100000 in go_wp2
        refine bodyPost_ret (v := .tuple #[.agg #[.slice none 0 0, .int .i64 0, .int .i64 0, .int .i64 0], .bool false]) (by simp [results, Try.results50, go_sem, R0, RF0, R1, RF1, R2, RF2, R3, RF3, ZR]) rfl ?_
        obtain ⟨hF0, hF1⟩ := HR0.out _ HN.out
        rw [hF0, hF1]
        exact ⟨[.slice none 0 0, .int .i64 0, .int .i64 0, .int .i64 0], [], rfl, ow_Interest_zero _, FrI.nil _ _, (by repeat' (first | (with_reducible exact Below.refl _ _) | (with_reducible assumption) | (with_reducible refine bel_set ?_ (by (try dsimp only); omega) _) | (with_reducible refine bel_alloc ?_ _) | (with_reducible refine bel_drewN ?_ _) | (with_reducible refine bel_drew ?_)))⟩
      have HN := Lib.hid (dn_4 E1.out E4.out hend rfl)
      have hq : ((p4 : Int) != (b.length : Int)) = false := by simp [hend]
      clear hend E4
      obtain ⟨lb, lo, rfl, le0, _⟩ := Ty.rd_int_at (Ty.ow_rd how4) (show 0 < [l0, l1, l2].length by simp)
      obtain ⟨lb1, lo1, he1, le1, _⟩ := Ty.rd_int_at (Ty.ow_rd how4) (show 1 < [l0, l1, l2].length by simp)
      injection he1 with he1; injection he1 with hea heb; subst hea; subst heb
      obtain ⟨lb2, lo2, he2, le2, _⟩ := Ty.rd_int_at (Ty.ow_rd how4) (show 2 < [l0, l1, l2].length by simp)
      injection he2 with he2; injection he2 with hea heb; subst hea; subst heb
      have le0 : V4.cell? ⟨lb, lo, none⟩ = some (.int .i64 l0) := le0
      have le1 : V4.cell? ⟨lb, lo + 1, none⟩ = some (.int .i64 l1) := le1
      have le2 : V4.cell? ⟨lb, lo + 2, none⟩ = some (.int .i64 l2) := le2
      have hzl := World.block_lt_of_cell? V4 _ le0
      simp only at hzl
      have HS : Hid (∀ W, Below V4.heap.size V4 W → Below w.heap.size w W ∧ W.cell? ⟨V1.heap.size, 0, none⟩ = some (.slice A1 (List.length n1) c1) ∧ W.cell? ⟨lb, lo, none⟩ = some (.int .i64 l0) ∧ W.cell? ⟨lb, lo + 1, none⟩ = some (.int .i64 l1) ∧ W.cell? ⟨lb, lo + 2, none⟩ = some (.int .i64 l2)) := fun W hW => ⟨bel_trans hvv hW, (hW.cell (p := ⟨V1.heap.size, 0, none⟩) Bn4.lt).trans (Bn4.cell 0), (hW.cell (p := ⟨lb, lo, none⟩) hzl).trans le0, (hW.cell (p := ⟨lb, lo + 1, none⟩) hzl).trans le1, (hW.cell (p := ⟨lb, lo + 2, none⟩) hzl).trans le2⟩
      set_option maxRecDepth 100000 in go_wp2_with fail
      set_option maxRecDepth 100000 in go_region_held3 (fun W => Below w.heap.size w W ∧ W.cell? ⟨V1.heap.size, 0, none⟩ = some (.slice A1 (List.length n1) c1) ∧ W.cell? ⟨lb, lo, none⟩ = some (.int .i64 l0) ∧ W.cell? ⟨lb, lo + 1, none⟩ = some (.int .i64 l1) ∧ W.cell? ⟨lb, lo + 2, none⟩ = some (.int .i64 l2)) (exact HS.out _ (by repeat' (first | (with_reducible exact Below.refl _ _) | (with_reducible assumption) | (with_reducible refine bel_set ?_ (by (try dsimp only); omega) _) | (with_reducible refine bel_alloc ?_ _) | (with_reducible refine bel_drewN ?_ _) | (with_reducible refine bel_drew ?_)))) (fail)
      set_option maxRecDepth 100000 in go_wp2_with fail
      have BR5 : Blk (V4.alloc (.cells #[.slice A1 (List.length n1) c1, .int .i64 l0, .int .i64 l1, .int .i64 l2] 67)).drew w.heap.size 67 #[.slice none 0 0, .int .i64 0, .int .i64 0, .int .i64 0] := (BRv.alloc _).drew
      have BX5 : Blk (V4.alloc (.cells #[.slice A1 (List.length n1) c1, .int .i64 l0, .int .i64 l1, .int .i64 l2] 67)).drew V4.heap.size 67 #[.slice A1 (List.length n1) c1, .int .i64 l0, .int .i64 l1, .int .i64 l2] := (Blk.new V4 _ _).drew
      have hv5 : Below w.heap.size w (V4.alloc (.cells #[.slice A1 (List.length n1) c1, .int .i64 l0, .int .i64 l1, .int .i64 l2] 67)).drew := (by repeat' (first | (with_reducible exact Below.refl _ _) | (with_reducible assumption) | (with_reducible refine bel_set ?_ (by (try dsimp only); omega) _) | (with_reducible refine bel_alloc ?_ _) | (with_reducible refine bel_drewN ?_ _) | (with_reducible refine bel_drew ?_)))
      have how1 : Ty.ow (V4.alloc (.cells #[.slice A1 (List.length n1) c1, .int .i64 l0, .int .i64 l1, .int .i64 l2] 67)).drew _ _ _ fp1 := Ty.ow_bel (by repeat' (first | (with_reducible exact Below.refl _ _) | (with_reducible assumption) | (with_reducible refine bel_set ?_ (by (try dsimp only); omega) _) | (with_reducible refine bel_alloc ?_ _) | (with_reducible refine bel_drewN ?_ _) | (with_reducible refine bel_drew ?_))) how1
      have hz5 : V4.heap.size ≤ ((V4.alloc (.cells #[.slice A1 (List.length n1) c1, .int .i64 l0, .int .i64 l1, .int .i64 l2] 67)).drew).heap.size := by simp only [World.size_drew, World.size_alloc]; omega
      clear BRv hvv le0 le1 le2
      generalize hW5 : (V4.alloc (.cells #[.slice A1 (List.length n1) c1, .int .i64 l0, .int .i64 l1, .int .i64 l2] 67)).drew = W5 at BR5 BX5 hv5 how1 hz5 ⊢
      clear hW5
      have HD := Lib.hid (ow_Interest_mk (x := (n1, l0, l1, l2)) how1 ⟨by show -9223372036854775808 ≤ l0; omega, by show l0 ≤ 9223372036854775807; omega⟩ ⟨by show -9223372036854775808 ≤ l1; omega, by show l1 ≤ 9223372036854775807; omega⟩ ⟨by show -9223372036854775808 ≤ l2; omega, by show l2 ≤ 9223372036854775807; omega⟩)
      have hfD : FrI (w.heap.size + 1) V1.heap.size fp1 := hfr1.mono (show w.heap.size + 1 ≤ W0.heap.size from BR0.lt) (Nat.le_refl _)
      refine (C_spec_ValidInterest _ _ (n1, l0, l1, l2) (Ty.ow_rd HD.out)).mono ?_
      rintro e V6 ⟨rfl, hb6⟩
      have BR6 := BR5.below hb6 BR5.lt
      have BX6 := BX5.below hb6 BX5.lt
      have hv6 := bel_trans hv5 hb6
      have hf6 : FrI (w.heap.size + 1) V6.heap.size fp1 := hfD.mono (Nat.le_refl _) (by have h1 := hs1; have h2 := hb4.size; have h3 := hb6.size; omega)
      have HD6 := Lib.hid (Ty.ow_bel hb6 HD.out)
      have R0 : V6.cell? ⟨w.heap.size, 0, none⟩ = some (.slice none 0 0) := BR6.cell 0
      have RF0 : V6.frozen? ⟨w.heap.size, 0, none⟩ = false := BR6.frozen 0
      have R1 : V6.cell? ⟨w.heap.size, 1, none⟩ = some (.int .i64 0) := BR6.cell 1
      have RF1 : V6.frozen? ⟨w.heap.size, 1, none⟩ = false := BR6.frozen 1
      have R2 : V6.cell? ⟨w.heap.size, 2, none⟩ = some (.int .i64 0) := BR6.cell 2
      have RF2 : V6.frozen? ⟨w.heap.size, 2, none⟩ = false := BR6.frozen 2
      have R3 : V6.cell? ⟨w.heap.size, 3, none⟩ = some (.int .i64 0) := BR6.cell 3
      have RF3 : V6.frozen? ⟨w.heap.size, 3, none⟩ = false := BR6.frozen 3
      have ZR := BR6.lt
      have X0 : V6.cell? ⟨V4.heap.size, 0, none⟩ = some (.slice A1 (List.length n1) c1) := BX6.cell 0
      have X1 : V6.cell? ⟨V4.heap.size, 1, none⟩ = some (.int .i64 l0) := BX6.cell 1
      have X2 : V6.cell? ⟨V4.heap.size, 2, none⟩ = some (.int .i64 l1) := BX6.cell 2
      have X3 : V6.cell? ⟨V4.heap.size, 3, none⟩ = some (.int .i64 l2) := BX6.cell 3
      cases q0 : f_ValidInterest (n1, l0, l1, l2)
      · rw [q0] at HN
        have HN0 : Hid (decodeInterest b = none) := HN.out
        set_option maxRecDepth 100000 in go_wp2
        refine bodyPost_ret (v := .tuple #[.agg #[.slice none 0 0, .int .i64 0, .int .i64 0, .int .i64 0], .bool false]) (by simp [results, Try.results50, go_sem, R0, RF0, R1, RF1, R2, RF2, R3, RF3, ZR]) rfl ?_
        obtain ⟨hF0, hF1⟩ := HR0.out _ HN0.out
        rw [hF0, hF1]
        exact ⟨[.slice none 0 0, .int .i64 0, .int .i64 0, .int .i64 0], [], rfl, ow_Interest_zero _, FrI.nil _ _, (by repeat' (first | (with_reducible exact Below.refl _ _) | (with_reducible assumption) | (with_reducible refine bel_set ?_ (by (try dsimp only); omega) _) | (with_reducible refine bel_alloc ?_ _) | (with_reducible refine bel_drewN ?_ _) | (with_reducible refine bel_drew ?_)))⟩
      · rw [q0] at HN
        have HN0 : Hid (decodeInterest b = some (n1, l0, l1, l2)) := HN.out
        set_option maxRecDepth 100000 in go_wp2
        refine bodyPost_ret (v := .tuple #[.agg #[.slice A1 (List.length n1) c1, .int .i64 l0, .int .i64 l1, .int .i64 l2], .bool true]) (by simp [results, Try.results50, go_sem, R0, RF0, R1, RF1, R2, RF2, R3, RF3, ZR]) rfl ?_
        obtain ⟨hF0, hF1⟩ := HR0.out _ HN0.out
        rw [hF0, hF1]
        exact ⟨[.slice A1 (List.length n1) c1, .int .i64 l0, .int .i64 l1, .int .i64 l2], fp1, rfl, Ty.ow_keep (by intro b hb'; have hb'' := (hf6).2 b hb'; (try simp only [World.size_alloc, World.size_setCell, size_drewN, World.size_drew] at hb''); repeat (first | (with_reducible rfl) | (rw [Below.heap_setCell _ _ _ _ (by (try dsimp only); omega)]) | (rw [Below.heap_alloc _ _ _ (by simp only [World.size_alloc, World.size_setCell]; omega)]))) HD6.out, hf6.mono (by omega) (by simp only [World.size_setCell]; omega), (by repeat' (first | (with_reducible exact Below.refl _ _) | (with_reducible assumption) | (with_reducible refine bel_set ?_ (by (try dsimp only); omega) _) | (with_reducible refine bel_alloc ?_ _) | (with_reducible refine bel_drewN ?_ _) | (with_reducible refine bel_drew ?_)))⟩
end Go.Proofs.Ytmhchmokjconoaa
