/- Integers as text. Printed by gen44.py. -/
import Derived.Test.YtpjnidfdkggpfaaDoorIto
import Derived.Test.YtpjnidfdkggpfaaDoorFmt
import Derived.Lib.ItoaLen
namespace Go.Proofs.YtpjnidfdkggpfaaDoor
open Go.RowKit
set_option linter.unusedVariables false
set_option linter.unusedSimpArgs false

theorem itoa_nat {n : Int} (h : 0 ≤ n) : Lib.itoa n = Lib.decDigits n.natAbs := by unfold Lib.itoa; rw [if_neg (by omega)]; congr 1; omega
theorem itoa_neg' {n : Int} (h : n < 0) : Lib.itoa n = 45 :: Lib.decDigits n.natAbs := by unfold Lib.itoa; rw [if_pos h]
theorem tmod_abs (x : Int) : (x.tmod 10).natAbs = x.natAbs % 10 := Int.natAbs_tmod x 10
theorem tdiv_abs (x : Int) : (x.tdiv 10).natAbs = x.natAbs / 10 := Int.natAbs_tdiv x 10
theorem tmod_bd10 (x : Int) : -10 < x.tmod 10 ∧ x.tmod 10 < 10 := by have := tmod_abs x; omega
theorem tdiv_bd10 {x : Int} (h : -9223372036854775808 ≤ x ∧ x ≤ 9223372036854775807) : -9223372036854775808 ≤ x.tdiv 10 ∧ x.tdiv 10 ≤ 9223372036854775807 := by have := tdiv_abs x; omega
/-- s: the digits already laid; x: what is left of the number whose digits are R. -/
def digInv (x : Int) (s R : List UInt8) : Prop := (x = 0 ∧ s = R) ∨ (x ≠ 0 ∧ Lib.decDigits x.natAbs ++ s = R)
theorem digInv_step {x : Int} {s R : List UInt8} (h : digInv x s R) (h0 : x ≠ 0) : digInv (x.tdiv 10) (UInt8.ofNat (48 + x.natAbs % 10) :: s) R := by
  rcases h with ⟨h1, _⟩ | ⟨_, h2⟩
  · exact absurd h1 h0
  have ha := tdiv_abs x
  by_cases h3 : x.natAbs < 10
  · left
    refine ⟨by omega, ?_⟩
    rw [Lib.decDigits_one h3] at h2
    rw [Nat.mod_eq_of_lt h3]; exact h2
  · right
    refine ⟨by omega, ?_⟩
    rw [Lib.decDigits, dif_neg h3] at h2
    rw [ha, ← h2]; simp
theorem digInv_len {x : Int} {s R : List UInt8} (h : digInv x s R) : s.length ≤ R.length := by
  rcases h with ⟨_, rfl⟩ | ⟨_, rfl⟩
  · exact Nat.le_refl _
  · rw [List.length_append]; omega
theorem dig_conv (W : World) (d : Int) (u : Nat) (h : d = (u : Int)) (hu : u < 256) : (convert 58 9 (.slice (some ⟨W.heap.size, 0, none⟩) 1 1)).run Tryd.prog (W.alloc (.cells #[.int .u8 d] 5)) = .ok (vS [UInt8.ofNat u]) (W.alloc (.cells #[.int .u8 d] 5)) :=
  run_convert_bytes_back (P := Tryd.prog) (W.alloc (.cells #[.int .u8 d] 5)) 58 9 5 ⟨W.heap.size, 0, none⟩ 1 [UInt8.ofNat u] Tryd.underlying58 Tryd.underlying5 Tryd.underlying9 (fun j hj => by
    obtain rfl : j = 0 := by simpa using hj
    subst h
    simp [Addr.add, cell_one_new]
    omega)
set_option maxRecDepth 100000 in
set_option maxHeartbeats 1000000 in
theorem C_spec_FormatInt (w : World) (n : Int) (hn : -9223372036854775808 ≤ n ∧ n ≤ 9223372036854775807) :
    Calls Tryd.prog 17 #[.int .i64 n] w (RetStr w (Lib.itoa n)) := by
  have hl := Lib.itoa_length_le n hn.1 hn.2
  go_enter Tryd.func17, Tryd.ntmps17
  by_cases h0 : n = 0
  · subst h0
    have HZ : Hid (Lib.itoa 0 = [48]) := by unfold Hid; rw [itoa_nat (by decide)]; exact Lib.decDigits_one (by decide)
    go_wp2
    go_ret
    exact ⟨by rw [HZ.out]; rfl, Below.refl _ _⟩
  obtain ⟨R, hR⟩ : ∃ R, R = Lib.decDigits n.natAbs := ⟨_, rfl⟩
  have HR := Lib.hid hR
  have hRl : R.length ≤ 21 := by
    rw [hR]
    by_cases h1 : n < 0
    · rw [itoa_neg' h1, List.length_cons] at hl; omega
    · rw [itoa_nat (by omega)] at hl; exact hl
  clear hR
  have q0 : (n == 0) = false := by simp [h0]
  go_wp2
  go_loopw [3, 4] (fun s x wr => ∃ (y : Int) (l : List UInt8), x = .int .i64 y ∧ s = vS l ∧ (-9223372036854775808 ≤ y ∧ y ≤ 9223372036854775807) ∧ Hid (digInv y l R) ∧ Below w.heap.size w wr) (fun _ x _ => (intOf x).natAbs)
  case atStart => exact ⟨n, [], rfl, rfl, hn, .inr ⟨h0, by rw [List.append_nil]; exact HR.out.symm⟩, Below.refl _ _⟩
  case round =>
    obtain ⟨y, l, rfl, rfl, hy, HI, hw⟩ := hrel
    by_cases hy0 : y = 0
    · subst hy0
      have hlR : l = R := by
        rcases HI.out with ⟨_, h⟩ | ⟨h, _⟩
        · exact h
        · exact absurd rfl h
      subst hlR
      clear HI
      by_cases h1 : n < 0
      · have q1 : decide (n < 0) = true := decide_eq_true h1
        have HF := Lib.hid (itoa_neg' h1)
        have hc1 := cat_eq (P := Tryd.prog) [45] l (45 :: l) rfl (by rw [List.length_cons]; omega)
        go_wp2
        go_ret
        exact ⟨by rw [HF.out, ← HR.out]; rfl, (by repeat' (first | (with_reducible exact Below.refl _ _) | (with_reducible assumption) | (with_reducible refine bel_set ?_ (by (try dsimp only); omega) _) | (with_reducible refine bel_alloc ?_ _) | (with_reducible refine bel_drewN ?_ _) | (with_reducible refine bel_drew ?_)))⟩
      · have q1 : decide (n < 0) = false := decide_eq_false h1
        have HF := Lib.hid (itoa_nat (n := n) (by omega))
        go_wp2
        go_ret
        exact ⟨by rw [HF.out, ← HR.out]; rfl, (by repeat' (first | (with_reducible exact Below.refl _ _) | (with_reducible assumption) | (with_reducible refine bel_set ?_ (by (try dsimp only); omega) _) | (with_reducible refine bel_alloc ?_ _) | (with_reducible refine bel_drewN ?_ _) | (with_reducible refine bel_drew ?_)))⟩
    · have q1 : (y != 0) = true := by simp [hy0]
      have htb := tmod_bd10 y
      have hdb := tdiv_bd10 hy
      have HTA := Lib.hid (tmod_abs y)
      have HDA := Lib.hid (tdiv_abs y)
      have HS := Lib.hid (digInv_step HI.out hy0)
      have hll := digInv_len HI.out
      have HMS := Lib.hid (show (y.tdiv 10).natAbs < y.natAbs from by have := tdiv_abs y; omega)
      obtain ⟨ub, hub⟩ : ∃ ub, ub = UInt8.ofNat (48 + y.natAbs % 10) := ⟨_, rfl⟩
      rw [← hub] at HS
      have HUB := Lib.hid hub
      clear hub
      by_cases hs : y.tmod 10 < 0
      · have q2 : decide (y.tmod 10 < 0) = true := decide_eq_true hs
        have hcv := dig_conv wr (48 + -y.tmod 10) (48 + y.natAbs % 10) (by have := HTA.out; omega) (by omega)
        rw [← HUB.out] at hcv
        have hc1 := cat_eq (P := Tryd.prog) [ub] l (ub :: l) rfl (by rw [List.length_cons]; omega)
        go_wp2
        go_roundw
        case rel => exact ⟨y.tdiv 10, ub :: l, rfl, rfl, hdb, HS, (by repeat' (first | (with_reducible exact Below.refl _ _) | (with_reducible assumption) | (with_reducible refine bel_set ?_ (by (try dsimp only); omega) _) | (with_reducible refine bel_alloc ?_ _) | (with_reducible refine bel_drewN ?_ _) | (with_reducible refine bel_drew ?_)))⟩
        case measure => exact HMS.out
      · have q2 : decide (y.tmod 10 < 0) = false := decide_eq_false hs
        have hcv := dig_conv wr (48 + y.tmod 10) (48 + y.natAbs % 10) (by have := HTA.out; omega) (by omega)
        rw [← HUB.out] at hcv
        have hc1 := cat_eq (P := Tryd.prog) [ub] l (ub :: l) rfl (by rw [List.length_cons]; omega)
        go_wp2
        go_roundw
        case rel => exact ⟨y.tdiv 10, ub :: l, rfl, rfl, hdb, HS, (by repeat' (first | (with_reducible exact Below.refl _ _) | (with_reducible assumption) | (with_reducible refine bel_set ?_ (by (try dsimp only); omega) _) | (with_reducible refine bel_alloc ?_ _) | (with_reducible refine bel_drewN ?_ _) | (with_reducible refine bel_drew ?_)))⟩
        case measure => exact HMS.out
end Go.Proofs.YtpjnidfdkggpfaaDoor
