/- Rows of numbers read out of bytes. Printed by gen8.py. -/
import Derived.Test.YtmhchmokjconoaaRvt
import Derived.Test.YtmhchmokjconoaaByt
import Derived.Test.YtmhchmokjconoaaRet
namespace Go.Proofs.Ytmhchmokjconoaa
open Go.RowKit
set_option linter.unusedVariables false
set_option linter.unusedSimpArgs false

def diLoop (b : List UInt8) : Nat → Nat → List Int → Option (List Int × Nat)
  | 0, p, acc => some (acc, p)
  | k + 1, p, acc => match readVarint b p with | none => none | some q => diLoop b k q.2 (acc ++ [(q.1 : Int)])
def decodeInts (b : List UInt8) (a n : Int) : Option (List Int × Nat) := if inR n 0 100 && inR a 0 b.length then diLoop b n.toNat a.toNat [] else none
def di0 (r : Option (List Int × Nat)) : List Int := match r with | none => [] | some q => q.1
def di1 (r : Option (List Int × Nat)) : Int := match r with | none => 0 | some q => q.2
theorem diLoop_bd {b : List UInt8} : ∀ {k p : Nat} {acc : List Int} {r : List Int × Nat}, p ≤ b.length → (∀ x ∈ acc, 0 ≤ x ∧ x ≤ 1000000000000) → diLoop b k p acc = some r → r.1.length = acc.length + k ∧ p ≤ r.2 ∧ r.2 ≤ b.length ∧ ∀ x ∈ r.1, 0 ≤ x ∧ x ≤ 1000000000000
  | 0, p, acc, r, hp, ha, h => by
    rw [diLoop] at h; injection h with h; subst h
    exact ⟨by simp, by simp, hp, ha⟩
  | k + 1, p, acc, r, hp, ha, h => by
    rw [diLoop] at h
    cases hv : readVarint b p with
    | none => rw [hv] at h; cases h
    | some q =>
      rw [hv] at h
      have hb := readVarint_bd hv
      have := diLoop_bd hb.2.2 (by
        intro x hx
        rcases List.mem_append.1 hx with hx | hx
        · exact ha x hx
        · simp at hx; omega) h
      rw [List.length_append, List.length_singleton] at this
      exact ⟨by omega, by omega, this.2.2.1, this.2.2.2⟩
theorem decodeInts_bd {b : List UInt8} {a n : Int} {r : List Int × Nat} (h : decodeInts b a n = some r) : (r.1.length : Int) = n ∧ a ≤ r.2 ∧ r.2 ≤ b.length ∧ ∀ x ∈ r.1, 0 ≤ x ∧ x ≤ 1000000000000 := by
  unfold decodeInts at h
  split at h
  · rename_i hg
    simp only [inR, Bool.and_eq_true, decide_eq_true_eq] at hg
    have := diLoop_bd (by omega) (by simp) h
    simp only [List.length_nil] at this
    exact ⟨by omega, by omega, this.2.2.1, this.2.2.2⟩
  · cases h
set_option maxHeartbeats 4000000 in
theorem C_impl_DecodeInts (w : World) (v : Value) (b : List UInt8) (a n : Int) (h : (Ty.sl .byte).rd w [v] b) (hi : -9223372036854775808 ≤ a ∧ a ≤ 9223372036854775807) (hin : -9223372036854775808 ≤ n ∧ n ≤ 9223372036854775807) :
    Calls Try.prog 90 #[v, .int .i64 a, .int .i64 n] w (RetSl3 w .int (di0 (decodeInts b a n)) (.int .i64 (di1 (decodeInts b a n))) (.bool (decodeInts b a n).isSome)) := by
  obtain ⟨A, c, rfl, hc, hm, hn⟩ := Ty.rd_sl h
  cases q1 : inR n 0 100
  · have HN : Hid (decodeInts b a n = none) := by have := (show decodeInts b a n = if inR n 0 100 && inR a 0 b.length then diLoop b n.toNat a.toNat [] else none from rfl); rw [q1] at this; exact this
    generalize decodeInts b a n = R at HN ⊢
    go_enter Try.func90, Try.ntmps90
    go_wp2_with fail
    refine (C_impl_InRange _ _ _ _).mono ?_
    rintro e w1 ⟨rfl, hw1⟩
    first | (obtain rfl : w = w1 := hw1.symm) | subst hw1
    rw [q1]
    go_wp2
    go_ret3
    rw [HN.out]
    exact ⟨none, 0, [], rfl, rd_ow_nil _ _, FrI.nil _ _, Below.refl _ _⟩
  cases q2 : inR a 0 b.length
  · have HN : Hid (decodeInts b a n = none) := by have := (show decodeInts b a n = if inR n 0 100 && inR a 0 b.length then diLoop b n.toNat a.toNat [] else none from rfl); rw [q1, q2] at this; exact this
    generalize decodeInts b a n = R at HN ⊢
    go_enter Try.func90, Try.ntmps90
    go_wp2_with fail
    refine (C_impl_InRange _ _ _ _).mono ?_
    rintro e w1 ⟨rfl, hw1⟩
    first | (obtain rfl : w = w1 := hw1.symm) | subst hw1
    rw [q1]
    go_wp2_with fail
    refine (C_impl_InRange _ _ _ _).mono ?_
    rintro e w1 ⟨rfl, hw1⟩
    first | (obtain rfl : w = w1 := hw1.symm) | subst hw1
    rw [q2]
    go_wp2
    go_ret3
    rw [HN.out]
    exact ⟨none, 0, [], rfl, rd_ow_nil _ _, FrI.nil _ _, Below.refl _ _⟩
  have hg1 : 0 ≤ n ∧ n ≤ 100 := by simpa [inR] using q1
  have hg2 : 0 ≤ a ∧ a ≤ b.length := by simpa [inR] using q2
  obtain ⟨m, rfl⟩ : ∃ m : Nat, n = m := ⟨n.toNat, by omega⟩
  obtain ⟨p0, rfl⟩ : ∃ p : Nat, a = p := ⟨a.toNat, by omega⟩
  have HR : Hid (decodeInts b p0 m = diLoop b m p0 []) := by have := (show decodeInts b p0 m = if inR m 0 100 && inR p0 0 b.length then diLoop b (m : Int).toNat (p0 : Int).toNat [] else none from rfl); rw [q1, q2] at this; exact this
  generalize decodeInts b p0 m = R at HR ⊢
  have hm100 : m ≤ 100 := by omega
  have hp0 : p0 ≤ b.length := by omega
  go_enter Try.func90, Try.ntmps90
  go_wp2_with fail
  refine (C_impl_InRange _ _ _ _).mono ?_
  rintro e w1 ⟨rfl, hw1⟩
  first | (obtain rfl : w = w1 := hw1.symm) | subst hw1
  rw [q1]
  go_wp2_with fail
  refine (C_impl_InRange _ _ _ _).mono ?_
  rintro e w1 ⟨rfl, hw1⟩
  first | (obtain rfl : w = w1 := hw1.symm) | subst hw1
  rw [q2]
  clear q1 q2 hg1 hg2
  go_wp2
  go_loopw [1, 9, 25] (fun at_ l i wr => ∃ (k p : Nat) (acc : List Int), k ≤ m ∧ i = .int .i64 k ∧ at_ = .int .i64 p ∧ p ≤ b.length ∧ Row flatI wr w.heap.size 3 l acc ∧ acc.length = k ∧ Hid (diLoop b (m - k) p acc = R) ∧ Below w.heap.size w wr) (fun _ _ i _ => m - (intOf i).toNat)
  case atStart => exact ⟨0, p0, [], by omega, by first | rfl | simp, rfl, hp0, Row.lit0 flatI w 3 (Nat.le_refl _), rfl, Lib.hid HR.out.symm, (by repeat' (first | (with_reducible exact Below.refl _ _) | (with_reducible assumption) | (with_reducible refine bel_set ?_ (by (try dsimp only); omega) _) | (with_reducible refine bel_alloc ?_ _) | (with_reducible refine bel_drewN ?_ _) | (with_reducible refine bel_drew ?_)))⟩
  case round =>
    obtain ⟨k, p, acc, hk, rfl, rfl, hp, hr, hal, hR, hb⟩ := hrel
    have HRow := Lib.hid hr
    have HAL := Lib.hid hal
    clear hr hal
    by_cases hlt : k < m
    · have hcall := C_impl_ReadVarint wr _ b p (Ty.rd_below hb h) (by omega)
      cases hv : readVarint b p with
      | none =>
        have HN := Lib.hid (show R = none from by rw [← hR.out, show m - k = (m - k - 1) + 1 from by omega, diLoop, hv])
        rw [hv] at hcall
        clear hv
        go_wp2_with fail
        refine hcall.mono ?_
        rintro e w1 ⟨rfl, hw1⟩
        obtain rfl : wr = w1 := hw1.symm
        go_wp2
        go_ret3
        rw [HN.out]
        exact ⟨none, 0, [], rfl, rd_ow_nil _ _, FrI.nil _ _, hb⟩
      | some q =>
        obtain ⟨x, p2⟩ := q
        have hbd := readVarint_bd hv
        simp only at hbd
        have HN := Lib.hid (show diLoop b (m - (k + 1)) p2 (acc ++ [(x : Int)]) = R from by rw [← hR.out, show m - k = (m - (k + 1)) + 1 from by omega, diLoop, hv])
        rw [hv] at hcall
        clear hv hR
        have hx1 : (x : Int) ≤ 1000000000000 := by omega
        have hp2 : p2 ≤ b.length := hbd.2.2
        clear hbd
        go_wp2_with fail
        refine hcall.mono ?_
        rintro e w1 ⟨rfl, hw1⟩
        obtain rfl : wr = w1 := hw1.symm
        have hsz := hb.size
        have HLX := Lib.hid (Row.lit1 flatI wr 3 (x : Int) (okI (by omega) (by omega)) (Nat.le_refl _))
        set_option maxRecDepth 100000 in go_wp2_with (at_builtin; go_loud (refine wpList_append_row rfl _ _ 99 rfl flatI w.heap.size 3 infoI rfl Try.underlying99 _ _ acc [(x : Int)] rfl rfl (HRow.out.below (by repeat' (first | (with_reducible exact Below.refl _ _) | (with_reducible assumption) | (with_reducible refine bel_set ?_ (by (try dsimp only); omega) _) | (with_reducible refine bel_alloc ?_ _) | (with_reducible refine bel_drewN ?_ _) | (with_reducible refine bel_drew ?_)))) (HLX.out.rd (by (try simp only [World.size_alloc, World.size_setCell, size_drewN, World.size_drew]); omega)) ?_ ?_ ?_ ?_))
        case refine_1 => rw [HAL.out, List.length_singleton]; omega
        case refine_2 => rw [HAL.out, List.length_singleton]; unfold maxLen; omega
        case refine_3 => simp only [World.size_alloc]; omega
        intro v' w' hr' hg'
        have hb' : Below w.heap.size w w' := bel_grown (bel_alloc hb _) (by (try simp only [World.size_alloc, World.size_setCell, size_drewN, World.size_drew]); omega) hg' (fun g hg => (HRow.out.block g hg).1)
        have HR' := Lib.hid hr'
        clear hr'
        go_wp2
        go_roundw
        case rel => exact ⟨k + 1, p2, acc ++ [(x : Int)], by omega, by go_num, rfl, hp2, HR'.out, by rw [List.length_append, HAL.out]; rfl, HN, hb'⟩
        case measure => simp [intOf]; omega
    · have HN := Lib.hid (show R = some (acc, p) from by rw [← hR.out, show m - k = 0 from by omega, diLoop])
      obtain ⟨A9, c9, fp9, hv9, how9, hfr9⟩ := HRow.out.own hb.size
      subst hv9
      clear HRow
      go_wp2
      go_ret3
      rw [HN.out]
      exact ⟨A9, c9, fp9, rfl, how9, hfr9, hb⟩
set_option maxHeartbeats 4000000 in
theorem C_spec_DecodeInts (w : World) (v : Value) (b : List UInt8) (a n : Int) (h : (Ty.sl .byte).rd w [v] b) (hi : -9223372036854775808 ≤ a ∧ a ≤ 9223372036854775807) (hin : -9223372036854775808 ≤ n ∧ n ≤ 9223372036854775807) :
    Calls Try.prog 89 #[v, .int .i64 a, .int .i64 n] w (RetSl3 w .int (di0 (decodeInts b a n)) (.int .i64 (di1 (decodeInts b a n))) (.bool (decodeInts b a n).isSome)) := by
  obtain ⟨A, c, rfl, hc, hm, hn⟩ := Ty.rd_sl h
  cases q1 : inR n 0 100
  · have HN : Hid (decodeInts b a n = none) := by have := (show decodeInts b a n = if inR n 0 100 && inR a 0 b.length then diLoop b n.toNat a.toNat [] else none from rfl); rw [q1] at this; exact this
    generalize decodeInts b a n = R at HN ⊢
    go_enter Try.func89, Try.ntmps89
    go_wp2_with fail
    refine (C_spec_l1In _ _ _ _).mono ?_
    rintro e w1 ⟨rfl, hw1⟩
    first | (obtain rfl : w = w1 := hw1.symm) | subst hw1
    rw [q1]
    go_wp2
    go_ret3
    rw [HN.out]
    obtain ⟨A9, c9, fp9, hv9, how9, hfr9⟩ := (Row.lit0 flatI w 3 (Nat.le_refl _)).own (by rw [World.size_alloc]; omega)
    injection hv9 with hv9 _ hv9c
    subst hv9; subst hv9c
    exact ⟨_, _, fp9, rfl, how9, hfr9, (bel_alloc (Below.refl _ _) _)⟩
  cases q2 : inR a 0 b.length
  · have HN : Hid (decodeInts b a n = none) := by have := (show decodeInts b a n = if inR n 0 100 && inR a 0 b.length then diLoop b n.toNat a.toNat [] else none from rfl); rw [q1, q2] at this; exact this
    generalize decodeInts b a n = R at HN ⊢
    go_enter Try.func89, Try.ntmps89
    go_wp2_with fail
    refine (C_spec_l1In _ _ _ _).mono ?_
    rintro e w1 ⟨rfl, hw1⟩
    first | (obtain rfl : w = w1 := hw1.symm) | subst hw1
    rw [q1]
    go_wp2_with fail
    refine (C_spec_l1In _ _ _ _).mono ?_
    rintro e w1 ⟨rfl, hw1⟩
    first | (obtain rfl : w = w1 := hw1.symm) | subst hw1
    rw [q2]
    go_wp2
    go_ret3
    rw [HN.out]
    obtain ⟨A9, c9, fp9, hv9, how9, hfr9⟩ := (Row.lit0 flatI w 3 (Nat.le_refl _)).own (by rw [World.size_alloc]; omega)
    injection hv9 with hv9 _ hv9c
    subst hv9; subst hv9c
    exact ⟨_, _, fp9, rfl, how9, hfr9, (bel_alloc (Below.refl _ _) _)⟩
  have hg1 : 0 ≤ n ∧ n ≤ 100 := by simpa [inR] using q1
  have hg2 : 0 ≤ a ∧ a ≤ b.length := by simpa [inR] using q2
  obtain ⟨m, rfl⟩ : ∃ m : Nat, n = m := ⟨n.toNat, by omega⟩
  obtain ⟨p0, rfl⟩ : ∃ p : Nat, a = p := ⟨a.toNat, by omega⟩
  have HR : Hid (decodeInts b p0 m = diLoop b m p0 []) := by have := (show decodeInts b p0 m = if inR m 0 100 && inR p0 0 b.length then diLoop b (m : Int).toNat (p0 : Int).toNat [] else none from rfl); rw [q1, q2] at this; exact this
  generalize decodeInts b p0 m = R at HR ⊢
  have hm100 : m ≤ 100 := by omega
  have hp0 : p0 ≤ b.length := by omega
  go_enter Try.func89, Try.ntmps89
  go_wp2_with fail
  refine (C_spec_l1In _ _ _ _).mono ?_
  rintro e w1 ⟨rfl, hw1⟩
  first | (obtain rfl : w = w1 := hw1.symm) | subst hw1
  rw [q1]
  go_wp2_with fail
  refine (C_spec_l1In _ _ _ _).mono ?_
  rintro e w1 ⟨rfl, hw1⟩
  first | (obtain rfl : w = w1 := hw1.symm) | subst hw1
  rw [q2]
  clear q1 q2 hg1 hg2
  go_wp2
  go_loopw [1, 9, 10] (fun at_ l i wr => ∃ (k p : Nat) (acc : List Int), k ≤ m ∧ i = .int .i64 k ∧ at_ = .int .i64 p ∧ p ≤ b.length ∧ Row flatI wr w.heap.size 3 l acc ∧ acc.length = k ∧ Hid (diLoop b (m - k) p acc = R) ∧ Below w.heap.size w wr) (fun _ _ i _ => m - (intOf i).toNat)
  case atStart => exact ⟨0, p0, [], by omega, by first | rfl | simp, rfl, hp0, Row.lit0 flatI w 3 (Nat.le_refl _), rfl, Lib.hid HR.out.symm, (by repeat' (first | (with_reducible exact Below.refl _ _) | (with_reducible assumption) | (with_reducible refine bel_set ?_ (by (try dsimp only); omega) _) | (with_reducible refine bel_alloc ?_ _) | (with_reducible refine bel_drewN ?_ _) | (with_reducible refine bel_drew ?_)))⟩
  case round =>
    obtain ⟨k, p, acc, hk, rfl, rfl, hp, hr, hal, hR, hb⟩ := hrel
    have HRow := Lib.hid hr
    have HAL := Lib.hid hal
    clear hr hal
    by_cases hlt : k < m
    · have hcall := C_spec_ReadVarint wr _ b p (Ty.rd_below hb h) (by omega)
      cases hv : readVarint b p with
      | none =>
        have HN := Lib.hid (show R = none from by rw [← hR.out, show m - k = (m - k - 1) + 1 from by omega, diLoop, hv])
        rw [hv] at hcall
        clear hv
        go_wp2_with fail
        refine hcall.mono ?_
        rintro e w1 ⟨rfl, hw1⟩
        obtain rfl : wr = w1 := hw1.symm
        go_wp2
        go_ret3
        rw [HN.out]
        obtain ⟨A9, c9, fp9, hv9, how9, hfr9⟩ := (Row.lit0 flatI wr 3 (Nat.le_refl _)).own (by rw [World.size_alloc]; omega)
        injection hv9 with hv9 _ hv9c
        subst hv9; subst hv9c
        exact ⟨_, _, fp9, rfl, how9, hfr9.mono hb.size (Nat.le_refl _), (bel_alloc hb _)⟩
      | some q =>
        obtain ⟨x, p2⟩ := q
        have hbd := readVarint_bd hv
        simp only at hbd
        have HN := Lib.hid (show diLoop b (m - (k + 1)) p2 (acc ++ [(x : Int)]) = R from by rw [← hR.out, show m - k = (m - (k + 1)) + 1 from by omega, diLoop, hv])
        rw [hv] at hcall
        clear hv hR
        have hx1 : (x : Int) ≤ 1000000000000 := by omega
        have hp2 : p2 ≤ b.length := hbd.2.2
        clear hbd
        go_wp2_with fail
        refine hcall.mono ?_
        rintro e w1 ⟨rfl, hw1⟩
        obtain rfl : wr = w1 := hw1.symm
        have hsz := hb.size
        have HLX := Lib.hid (Row.lit1 flatI wr 3 (x : Int) (okI (by omega) (by omega)) (Nat.le_refl _))
        set_option maxRecDepth 100000 in go_wp2_with (at_builtin; go_loud (refine wpList_append_row rfl _ _ 99 rfl flatI w.heap.size 3 infoI rfl Try.underlying99 _ _ acc [(x : Int)] rfl rfl (HRow.out.below (by repeat' (first | (with_reducible exact Below.refl _ _) | (with_reducible assumption) | (with_reducible refine bel_set ?_ (by (try dsimp only); omega) _) | (with_reducible refine bel_alloc ?_ _) | (with_reducible refine bel_drewN ?_ _) | (with_reducible refine bel_drew ?_)))) (HLX.out.rd (by (try simp only [World.size_alloc, World.size_setCell, size_drewN, World.size_drew]); omega)) ?_ ?_ ?_ ?_))
        case refine_1 => rw [HAL.out, List.length_singleton]; omega
        case refine_2 => rw [HAL.out, List.length_singleton]; unfold maxLen; omega
        case refine_3 => simp only [World.size_alloc]; omega
        intro v' w' hr' hg'
        have hb' : Below w.heap.size w w' := bel_grown (bel_alloc hb _) (by (try simp only [World.size_alloc, World.size_setCell, size_drewN, World.size_drew]); omega) hg' (fun g hg => (HRow.out.block g hg).1)
        have HR' := Lib.hid hr'
        clear hr'
        go_wp2
        go_roundw
        case rel => exact ⟨k + 1, p2, acc ++ [(x : Int)], by omega, by go_num, rfl, hp2, HR'.out, by rw [List.length_append, HAL.out]; rfl, HN, hb'⟩
        case measure => simp [intOf]; omega
    · have HN := Lib.hid (show R = some (acc, p) from by rw [← hR.out, show m - k = 0 from by omega, diLoop])
      obtain ⟨A9, c9, fp9, hv9, how9, hfr9⟩ := HRow.out.own hb.size
      subst hv9
      clear HRow
      go_wp2
      go_ret3
      rw [HN.out]
      exact ⟨A9, c9, fp9, rfl, how9, hfr9, hb⟩
end Go.Proofs.Ytmhchmokjconoaa
