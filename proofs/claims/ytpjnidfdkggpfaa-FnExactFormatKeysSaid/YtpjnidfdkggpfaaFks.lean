/- Keys as text. Printed by gen39.py. -/
import Derived.Test.YtpjnidfdkggpfaaFmt
import Derived.Test.YtpjnidfdkggpfaaKey
import Derived.Test.YtpjnidfdkggpfaaRow
import Derived.Test.YtpjnidfdkggpfaaNb
import Derived.Test.YtpjnidfdkggpfaaMrk
namespace Go.Proofs.Ytpjnidfdkggpfaa
open Go.RowKit
set_option linter.unusedVariables false
set_option linter.unusedSimpArgs false

def keyWords (l : List (Ty.D tKey)) : List (List UInt8) := l.map (fun e => fmtP e.1)
def f_FormatKeys (l : List (Ty.D tKey)) : List UInt8 := if l.length = 0 then [45] else Lib.join (keyWords l) [32]
theorem keyWords_succ (l : List (Ty.D tKey)) {k : Nat} (h : k < l.length) : keyWords (l.take (k + 1)) = keyWords (l.take k) ++ [fmtP l[k].1] := by
  unfold keyWords
  rw [List.take_succ_eq_append_getElem h, List.map_append]; rfl
theorem keyWords_len (l : List (Ty.D tKey)) {k : Nat} (h : k ≤ l.length) : (keyWords (l.take k)).length = k := by unfold keyWords; rw [List.length_map, List.length_take]; omega
theorem key_bulk_name {x : Ty.D tKey} {n : Nat} (s : Ty.bulk tKey x ≤ n) : Ty.bulk (.sl .str) x.1 ≤ n := by
  have h1 : Ty.bulk (.sl .str) x.1 + 0 ≤ n := s
  omega
theorem keyWords_bulk : ∀ (l : List (Ty.D tKey)), Ty.bulk (.sl .str) (keyWords l) ≤ 2 * Ty.bulk (.sl tKey) l
  | [] => Nat.zero_le _
  | a :: l => by
    have h1 : Ty.bulk (.sl .str) (keyWords (a :: l)) = Ty.bulk (.sl .str) [fmtP a.1] + Ty.bulk (.sl .str) (keyWords l) := bulk_app (e := .str) [fmtP a.1] _
    have h2 : Ty.bulk (.sl tKey) (a :: l) = Ty.bulk (.sl tKey) [a] + Ty.bulk (.sl tKey) l := bulk_app (e := tKey) [a] l
    have h3 := bulk_one (e := .str) (fmtP a.1)
    have h4 := bulk_one (e := tKey) a
    have h5 : Ty.bulk tKey a = Ty.bulk (.sl .str) a.1 + 0 := rfl
    have h6 := fmtP_len a.1
    have h7 : Ty.bulk .str (fmtP a.1) = (fmtP a.1).length := rfl
    have := keyWords_bulk l
    omega
theorem keyWords_bulk_take (l : List (Ty.D tKey)) (k : Nat) : Ty.bulk (.sl .str) (keyWords (l.take k)) ≤ 2 * Ty.bulk (.sl tKey) l := by
  have h1 := keyWords_bulk (l.take k)
  have h2 := bulk_take (e := tKey) l k
  omega
theorem join_snoc (l : List (List UInt8)) (a : List UInt8) (s : UInt8) (h : l ≠ []) : Lib.join (l ++ [a]) [s] = Lib.join l [s] ++ [s] ++ a := by
  cases l with
  | nil => exact absurd rfl h
  | cons x r =>
    rw [List.cons_append, Lib.join_cons, Lib.join_cons]
    unfold Lib.joinTail
    rw [List.map_append, List.flatten_append]
    simp
theorem join_one (a : List UInt8) (s : UInt8) : Lib.join [a] [s] = a := by
  rw [Lib.join_cons]; unfold Lib.joinTail; simp
def f_orDash (p : List (List UInt8)) : List UInt8 := if p.length = 0 then [45] else Lib.join p [32]
set_option maxHeartbeats 1000000 in
theorem C_impl_orDash (w : World) (v : Value) (p : List (List UInt8)) (h : (Ty.sl .str).rd w [v] p) (s0 : Ty.bulk (.sl .str) p ≤ 1000000000) :
    Calls Try.prog 21 #[v] w (RetStr w (f_orDash p)) := by
  obtain ⟨A, c, rfl, hc, hm, hn⟩ := Ty.rd_sl h
  by_cases h0 : p.length = 0
  · have HP : Hid (f_orDash p = [45]) := if_pos h0
    have q0 : ((p.length : Int) == 0) = true := by simp [h0]
    clear h0
    go_enter Try.func21, Try.ntmps21
    go_wp2
    go_ret
    exact ⟨by rw [HP.out]; rfl, Below.refl _ _⟩
  · have HP : Hid (f_orDash p = Lib.join p [32]) := if_neg h0
    have q0 : ((p.length : Int) == 0) = false := by rw [beq_eq_false_iff_ne]; omega
    clear h0
    rw [HP.out]
    go_enter Try.func21, Try.ntmps21
    go_wp2_with fail
    refine (C_Join _ _ p 32 h s0).mono ?_
    rintro e w1 ⟨rfl, hb1⟩
    go_wp2
    go_ret
    exact ⟨rfl, hb1⟩
set_option maxRecDepth 100000 in
set_option maxHeartbeats 2000000 in
theorem C_impl_FormatKeys (w : World) (v : Value) (x : List (Ty.D tKey)) (h : (Ty.sl tKey).rd w [v] x) (s0 : Ty.bulk (.sl tKey) x ≤ 1048576) :
    Calls Try.prog 8 #[v] w (RetStr w (f_FormatKeys x)) := by
  obtain ⟨A, c, rfl, hc, hm, hn⟩ := Ty.rd_sl h
  have hxl := Ty.bulk_len s0
  go_enter Try.func8, Try.ntmps8
  go_wp2
  go_loopw [3, 9] (fun l i wr => ∃ k : Nat, k ≤ x.length ∧ i = .int .i64 k ∧ Row flatS wr w.heap.size 9 l (keyWords (x.take k)) ∧ Below w.heap.size w wr) (fun _ i _ => x.length - (intOf i).toNat)
  case atStart => exact ⟨0, by omega, rfl, Row.lit0 flatS w 9 (Nat.le_refl _), (by repeat' (first | (with_reducible exact Below.refl _ _) | (with_reducible assumption) | (with_reducible refine bel_set ?_ (by (try dsimp only); omega) _) | (with_reducible refine bel_alloc ?_ _) | (with_reducible refine bel_drewN ?_ _) | (with_reducible refine bel_drew ?_)))⟩
  case round =>
    obtain ⟨k, hk, rfl, hr, hb⟩ := hrel
    have HR := Lib.hid hr
    clear hr
    by_cases hlt : k < x.length
    · have HL := Lib.hid (keyWords_len x hk)
      have HP := Lib.hid (keyWords_succ x hlt)
      obtain ⟨b, o, dse, rfl, hle, hcelle, hrde⟩ := Ty.rd_at (Ty.rd_below hb h) hlt
      have hrde' := hrde
      obtain ⟨Ae0, ce0, rfl, eg0, eg1⟩ := rd_Key hrde
      have e0 : wr.cell? ⟨b, o + k * 2, none⟩ = some (.slice Ae0 (List.length x[k].1) ce0) := by simpa [Ty.sz] using hcelle 0 (by decide)
      have e1 : wr.cell? ⟨b, o + k * 2 + 1, none⟩ = some (.int .i64 x[k].2) := by simpa [Ty.sz] using hcelle 1 (by decide)
      clear hcelle hle
      have hnb := key_bulk_name (Ty.bulk_at s0 hlt)
      have hfl := fmtP_len x[k].1
      go_wp2_with fail
      refine (C_impl_FormatName _ _ x[k].1 (Ty.rd_below (by repeat' (first | (with_reducible exact Below.refl _ _) | (with_reducible assumption) | (with_reducible refine bel_set ?_ (by (try dsimp only); omega) _) | (with_reducible refine bel_alloc ?_ _) | (with_reducible refine bel_drewN ?_ _) | (with_reducible refine bel_drew ?_))) eg0) (Nat.le_trans hnb (by decide))).mono ?_
      rintro e w1 ⟨rfl, hb1⟩
      have hv1 : Below wr.heap.size wr w1 := bel_trans (by repeat' (first | (with_reducible exact Below.refl _ _) | (with_reducible assumption) | (with_reducible refine bel_set ?_ (by (try dsimp only); omega) _) | (with_reducible refine bel_alloc ?_ _) | (with_reducible refine bel_drewN ?_ _) | (with_reducible refine bel_drew ?_))) hb1
      have HX := Lib.hid (Row.lit1 flatS w1 9 (fmtP x[k].1) (by show (fmtP x[k].1).length ≤ 9223372036854775807; omega) (Nat.le_refl _))
      have HR1 := Lib.hid (HR.out.below hv1)
      go_wp2_with (at_builtin; go_loud (refine wpList_append_row rfl _ _ 38 rfl flatS w.heap.size 9 info_str rfl Try.underlying38 _ _ (keyWords (x.take k)) [fmtP x[k].1] rfl rfl (HR1.out.below (by repeat' (first | (with_reducible exact Below.refl _ _) | (with_reducible assumption) | (with_reducible refine bel_set ?_ (by (try dsimp only); omega) _) | (with_reducible refine bel_alloc ?_ _) | (with_reducible refine bel_drewN ?_ _) | (with_reducible refine bel_drew ?_)))) (HX.out.rd (by (try simp only [World.size_alloc, World.size_setCell, size_drewN, World.size_drew]); omega)) ?_ ?_ ?_ ?_))
      case refine_1 => rw [HL.out, List.length_singleton]; omega
      case refine_2 => rw [HL.out, List.length_singleton]; unfold maxLen; omega
      case refine_3 => have := (bel_trans hb hv1).size; simp only [World.size_alloc]; omega
      intro v' w' hr' hg'
      have hb' : Below w.heap.size w w' := bel_grown (bel_alloc (bel_trans hb hv1) _) (by have := (bel_trans hb hv1).size; simp only [World.size_alloc]; omega) hg' (fun g hg => (HR1.out.block g hg).1)
      have HR' := Lib.hid hr'
      clear hr' hg'
      go_wp2
      go_roundw
      case rel => exact ⟨k + 1, by omega, by go_num, by rw [HP.out]; exact HR'.out, hb'⟩
      case measure => simp [intOf]; omega
    · have HE : Hid (keyWords (x.take k) = keyWords x) := by unfold Hid; rw [List.take_of_length_le (by omega)]
      have HF : Hid (f_FormatKeys x = f_orDash (keyWords x)) := by
        have hl : (keyWords x).length = x.length := by unfold keyWords; exact List.length_map _
        show f_FormatKeys x = _
        unfold f_orDash
        rw [hl]; rfl
      have hkb := keyWords_bulk x
      have hrd : (Ty.sl .str).rd wr [u3] (keyWords x) := by rw [← HE.out]; exact HR.out.rd hb.size
      go_wp2_with fail
      refine (C_impl_orDash _ _ (keyWords x) hrd (by omega)).mono ?_
      rintro e w1 ⟨rfl, hb1⟩
      go_wp2
      go_ret
      exact ⟨by rw [HF.out]; rfl, bel_trans hb hb1⟩
set_option maxRecDepth 100000 in
set_option maxHeartbeats 2000000 in
theorem C_spec_FormatKeys (w : World) (v : Value) (x : List (Ty.D tKey)) (h : (Ty.sl tKey).rd w [v] x) (s0 : Ty.bulk (.sl tKey) x ≤ 1048576) :
    Calls Try.prog 6 #[v] w (RetStr w (f_FormatKeys x)) := by
  obtain ⟨A, c, rfl, hc, hm, hn⟩ := Ty.rd_sl h
  have hxl := Ty.bulk_len s0
  go_enter Try.func6, Try.ntmps6
  go_wp2
  go_loopw [3, 4] (fun s i wr => ∃ k : Nat, k ≤ x.length ∧ i = .int .i64 k ∧ s = vS (Lib.join (keyWords (x.take k)) [32]) ∧ Below w.heap.size w wr) (fun _ i _ => x.length - (intOf i).toNat)
  case atStart => exact ⟨0, by omega, rfl, rfl, Below.refl _ _⟩
  case round =>
    obtain ⟨k, hk, rfl, rfl, hb⟩ := hrel
    by_cases hlt : k < x.length
    · have hl1 := join_len (keyWords (x.take k)) 32
      have hl2 := join_len (keyWords (x.take (k + 1))) 32
      have hl3 := keyWords_bulk_take x k
      have hl4 := keyWords_bulk_take x (k + 1)
      have HP := Lib.hid (keyWords_succ x hlt)
      have HL := Lib.hid (keyWords_len x hk)
      obtain ⟨b, o, dse, rfl, hle, hcelle, hrde⟩ := Ty.rd_at (Ty.rd_below hb h) hlt
      have hrde' := hrde
      obtain ⟨Ae0, ce0, rfl, eg0, eg1⟩ := rd_Key hrde
      have e0 : wr.cell? ⟨b, o + k * 2, none⟩ = some (.slice Ae0 (List.length x[k].1) ce0) := by simpa [Ty.sz] using hcelle 0 (by decide)
      have e1 : wr.cell? ⟨b, o + k * 2 + 1, none⟩ = some (.int .i64 x[k].2) := by simpa [Ty.sz] using hcelle 1 (by decide)
      clear hcelle hle
      have hnb := key_bulk_name (Ty.bulk_at s0 hlt)
      have i0 : (0 : Int) ≤ (k : Int) := by omega
      have i1 : (k : Int) < (x.length : Int) := by omega
      obtain ⟨J, hJ⟩ : ∃ J, J = Lib.join (keyWords (x.take k)) [32] := ⟨_, rfl⟩
      rw [← hJ] at hl1
      rw [← hJ]
      by_cases hk0 : k = 0
      · have q0 : decide ((0 : Int) < (k : Int)) = false := by simp [hk0]
        have HJ0 : Hid (J = []) := by rw [hJ, hk0]; rfl
        have HN : Hid (Lib.join (keyWords (x.take (k + 1))) [32] = fmtP x[k].1) := by
          show _ = _
          rw [HP.out, List.eq_nil_of_length_eq_zero (show (keyWords (x.take k)).length = 0 by rw [HL.out, hk0]), List.nil_append, join_one]
        have hc2 := cat_eq (P := Try.prog) J (fmtP x[k].1) (fmtP x[k].1) (by rw [HJ0.out]; rfl) (by rw [← HN.out]; omega)
        clear hJ q0
        subst hk0
        simp only [Nat.zero_mul, Nat.add_zero] at e0 e1
        go_wp2_with fail
        refine (C_spec_FormatName _ _ x[0].1 (Ty.rd_below (Below.refl _ _) eg0) (Nat.le_trans hnb (by decide))).mono ?_
        rintro e w1 ⟨rfl, hb1⟩
        go_wp2
        go_roundw
        case rel => exact ⟨1, by omega, by go_num, by rw [HN.out], bel_trans hb hb1⟩
        case measure => simp [intOf]; omega
      · have q0 : decide ((0 : Int) < (k : Int)) = true := by simp; omega
        have hkp : 0 < k := by omega
        have hkp2 : (0 : Int) < (k : Int) := by omega
        have HN : Hid (Lib.join (keyWords (x.take (k + 1))) [32] = (J ++ [32]) ++ fmtP x[k].1) := by
          show _ = _
          rw [HP.out, join_snoc _ _ _ (fun h => hk0 (by have := HL.out; rw [h] at this; simpa using this.symm)), hJ]
        obtain ⟨J1, hJ1⟩ : ∃ J1, J1 = J ++ [32] := ⟨_, rfl⟩
        obtain ⟨J2, hJ2⟩ : ∃ J2, J2 = Lib.join (keyWords (x.take (k + 1))) [32] := ⟨_, rfl⟩
        have hc1 := cat_eq (P := Try.prog) J [32] J1 hJ1.symm (by rw [hJ1, List.length_append, List.length_singleton]; omega)
        have hc2 := cat_eq (P := Try.prog) J1 (fmtP x[k].1) J2 (by rw [hJ2, HN.out, hJ1]) (by rw [hJ2]; omega)
        have HJ2 := Lib.hid hJ2
        clear hJ hk0 hJ1 hJ2
        go_wp2_with fail
        refine (C_spec_FormatName _ _ x[k].1 (Ty.rd_below (Below.refl _ _) eg0) (Nat.le_trans hnb (by decide))).mono ?_
        rintro e w1 ⟨rfl, hb1⟩
        go_wp2
        go_roundw
        case rel => exact ⟨k + 1, by omega, by go_num, by rw [HJ2.out], bel_trans hb hb1⟩
        case measure => simp [intOf]; omega
    · have HE : Hid (keyWords (x.take k) = keyWords x) := by unfold Hid; rw [List.take_of_length_le (by omega)]
      by_cases h0 : x.length = 0
      · have HF : Hid (f_FormatKeys x = [45]) := if_pos h0
        have q0 : ((x.length : Int) == 0) = true := by simp [h0]
        clear h0
        go_wp2
        go_ret
        exact ⟨by rw [HF.out]; rfl, hb⟩
      · have HF : Hid (f_FormatKeys x = Lib.join (keyWords x) [32]) := if_neg h0
        have q0 : ((x.length : Int) == 0) = false := by rw [beq_eq_false_iff_ne]; omega
        clear h0
        go_wp2
        go_ret
        exact ⟨by rw [HF.out, ← HE.out]; rfl, hb⟩
end Go.Proofs.Ytpjnidfdkggpfaa
