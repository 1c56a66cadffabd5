/- Numbers: remainders, digests, rows of numbers. -/
import Derived.Test.YtldgbnlcnlfmeaaVal
import Derived.Test.YtldgbnlcnlfmeaaRow
namespace Go.Proofs.Ytldgbnlcnlfmeaa
open Go.RowKit
set_option linter.unusedVariables false
set_option linter.unusedSimpArgs false

theorem infoI : (Try.prog.info? 3).map (fun i => (i.zero, i.size, i.bytes)) = some (some (.int .i64 0), 1, 8) := by kernel_rfl
theorem infoB : (Try.prog.info? 5).map (fun i => (i.zero, i.size, i.bytes)) = some (some (.int .u8 0), 1, 1) := by kernel_rfl
/-- The number that 'spec' and 'impl' call n mod m, at the prime. -/
def modP (n : Int) : Int := (n.tmod 2147483647 + 2147483647).tmod 2147483647
theorem tmodP_bd (n : Int) : -2147483647 < n.tmod 2147483647 ∧ n.tmod 2147483647 < 2147483647 := by
  have h1 := Int.tmod_lt_of_pos n (show (0 : Int) < 2147483647 by decide)
  refine ⟨?_, h1⟩
  rcases Int.le_total 0 n with h | h
  · have := Int.tmod_nonneg 2147483647 h; omega
  · have h3 := Int.tmod_lt_of_pos (-n) (show (0 : Int) < 2147483647 by decide)
    rw [Int.neg_tmod] at h3; omega
theorem modP_wrap (n : Int) : (wrap64 (n.tmod 2147483647 + 2147483647)).tmod 2147483647 = modP n := by
  unfold modP; rw [show wrap64 (n.tmod 2147483647 + 2147483647) = n.tmod 2147483647 + 2147483647 from by have := tmodP_bd n; unfold wrap64; omega]
theorem okI {n : Int} (h1 : -9223372036854775808 ≤ n) (h2 : n ≤ 9223372036854775807) : flatI.ok n := ⟨h1, h2⟩
theorem modP_le (n : Int) : 0 ≤ modP n ∧ modP n < 2147483647 := by
  unfold modP
  have h1 := Int.tmod_lt_of_pos n (show (0 : Int) < 2147483647 by decide)
  have h2 : -2147483647 < n.tmod 2147483647 := by
    rcases Int.le_total 0 n with h | h
    · have := Int.tmod_nonneg 2147483647 h; omega
    · have h3 := Int.tmod_lt_of_pos (-n) (show (0 : Int) < 2147483647 by decide)
      rw [Int.neg_tmod] at h3; omega
  exact ⟨Int.tmod_nonneg _ (by omega), Int.tmod_lt_of_pos _ (by decide)⟩
def digest (l : List Int) : Int := l.foldl (fun d x => (d * 1000003 + modP x + 13).tmod 2147483647) 11
theorem digest_le (l : List Int) : 0 ≤ digest l ∧ digest l < 2147483647 := by
  unfold digest
  have : ∀ (l : List Int) (d : Int), 0 ≤ d ∧ d < 2147483647 → 0 ≤ l.foldl (fun d x => (d * 1000003 + modP x + 13).tmod 2147483647) d ∧ l.foldl (fun d x => (d * 1000003 + modP x + 13).tmod 2147483647) d < 2147483647 := by
    intro l
    induction l with
    | nil => exact fun d h => h
    | cons a l ih =>
      intro d h
      have hm := modP_le a
      exact ih _ ⟨Int.tmod_nonneg _ (by omega), Int.tmod_lt_of_pos _ (by decide)⟩
  exact this l 11 (by omega)
/-- A row's length ahead of its bytes. -/
def pre (n : Int) (y : List UInt8) : List Int := n :: y.map fun c => (c.toNat : Int)
def bti (x : List UInt8) : List Int := pre x.length x
theorem pre_take (n : Int) (y : List UInt8) {k : Nat} (h : k < y.length) : pre n (y.take (k + 1)) = pre n (y.take k) ++ [(y[k].toNat : Int)] := by
  unfold pre; rw [List.take_succ_eq_append_getElem h, List.map_append]; rfl
theorem pre_len (n : Int) (y : List UInt8) : (pre n y).length = y.length + 1 := by simp [pre]
theorem digest_take (l : List Int) {k : Nat} (h : k < l.length) : digest (l.take (k + 1)) = (digest (l.take k) * 1000003 + modP l[k] + 13).tmod 2147483647 := by
  unfold digest
  rw [List.take_succ_eq_append_getElem h, List.foldl_append]; rfl
set_option maxHeartbeats 400000 in
theorem C_spec_ModP (w : World) (n : Int) (hn : -9223372036854775808 ≤ n ∧ n ≤ 9223372036854775807) : Calls Try.prog 179 #[.int .i64 n, .int .i64 2147483647] w (RetIP w (modP n)) := by
  go_enter Try.func179, Try.ntmps179
  go_wp2_with fail
  refine (C_spec_l1In _ _ _ _).mono ?_
  rintro e w1 ⟨rfl, rfl⟩
  have hq : inR 2147483647 1 1000000000000 = true := by decide
  rw [hq]
  clear hq
  go_wp2
  go_ret
  exact ⟨ret_int (modP_wrap n), rfl⟩
set_option maxHeartbeats 1000000 in
theorem C_spec_Digest (w : World) (v : Value) (x : List Int) (h : (Ty.sl .int).rd w [v] x) : Calls Try.prog 166 #[v] w (RetI w (digest x)) := by
  obtain ⟨A, c, rfl, hc, hm, hn⟩ := Ty.rd_sl h
  go_enter Try.func166, Try.ntmps166
  go_wp2
  go_loopw [3, 4] (fun d i wr => ∃ k : Nat, k ≤ x.length ∧ i = .int .i64 k ∧ d = .int .i64 (digest (x.take k)) ∧ Below w.heap.size w wr) (fun _ i _ => x.length - (intOf i).toNat)
  case atStart => exact ⟨0, by omega, rfl, rfl, Below.refl _ _⟩
  case round =>
    obtain ⟨k, hk, rfl, rfl, hb⟩ := hrel
    by_cases hlt : k < x.length
    · obtain ⟨b, o, rfl, e0, n0⟩ := Ty.rd_int_at (Ty.rd_below hb h) hlt
      have HD := Lib.hid (digest_take x hlt)
      have hd := digest_le (x.take k)
      have hm1 := modP_le x[k]
      generalize digest (x.take k) = D at HD hd ⊢
      go_wp2_with fail
      refine (C_spec_ModP _ _ n0).mono ?_
      rintro e w1 ⟨rfl, rfl⟩
      generalize modP x[k] = M at HD hm1 ⊢
      go_wp2
      go_roundw
      case rel => exact ⟨k + 1, by omega, by go_num, by rw [HD.out, Int.tmod_eq_emod_of_nonneg (by omega)], hb⟩
      case measure => simp [intOf]; omega
    · have HE : Hid (digest (x.take k) = digest x) := by rw [List.take_of_length_le (by omega)]; exact rfl
      go_wp2
      go_ret
      exact ⟨ret_int HE.out, hb⟩
set_option maxHeartbeats 1000000 in
theorem C_spec_BytesToInts (w : World) (v : Value) (x : List UInt8) (h : (Ty.sl .byte).rd w [v] x) (hx : x.length ≤ 1099511627776) : Calls Try.prog 136 #[v] w (RetRow flatI w 3 (bti x)) := by
  obtain ⟨A, c, rfl, hc, hm, hn⟩ := Ty.rd_sl h
  go_enter Try.func136, Try.ntmps136
  go_wp2
  go_loopw [3, 4] (fun l i wr => ∃ k : Nat, k ≤ x.length ∧ i = .int .i64 k ∧ Row flatI wr w.heap.size 3 l (pre x.length (x.take k)) ∧ Below w.heap.size w wr) (fun _ i _ => x.length - (intOf i).toNat)
  case atStart => exact ⟨0, by omega, rfl, Row.lit1 flatI w 3 (x.length : Int) (okI (by omega) (by omega)) (Nat.le_refl _), (by repeat' (first | (with_reducible exact Below.refl _ _) | (with_reducible assumption) | (with_reducible refine bel_set ?_ (by (try dsimp only); omega) _) | (with_reducible refine bel_alloc ?_ _) | (with_reducible refine bel_drewN ?_ _) | (with_reducible refine bel_drew ?_)))⟩
  case round =>
    obtain ⟨k, hk, rfl, hr, hb⟩ := hrel
    by_cases hlt : k < x.length
    · obtain ⟨b, o, rfl, e0⟩ := Ty.rd_byte_at (Ty.rd_below hb h) hlt
      have HP := Lib.hid (pre_take x.length x hlt)
      have hu := UInt8.toNat_lt x[k]
      have hsz := hb.size
      have HR := Lib.hid hr
      clear hr
      have HL := Lib.hid (show (pre x.length (x.take k)).length = k + 1 from by rw [pre_len, List.length_take]; omega)
      have hw8 : wrap64 (x[k].toNat : Int) = (x[k].toNat : Int) := by unfold wrap64; omega
      set_option maxRecDepth 100000 in go_wp2_with (at_builtin; go_loud (refine wpList_append_row rfl _ _ 92 rfl flatI w.heap.size 3 infoI rfl Try.underlying92 _ _ _ [(x[k].toNat : Int)] rfl rfl (HR.out.below (by repeat' (first | (with_reducible exact Below.refl _ _) | (with_reducible assumption) | (with_reducible refine bel_set ?_ (by (try dsimp only); omega) _) | (with_reducible refine bel_alloc ?_ _) | (with_reducible refine bel_drewN ?_ _) | (with_reducible refine bel_drew ?_)))) ((Row.lit1 flatI wr 3 (x[k].toNat : Int) (okI (by omega) (by omega)) (Nat.le_refl _)).rd (by (try simp only [World.size_alloc, World.size_setCell, size_drewN, World.size_drew]); omega)) ?_ ?_ ?_ ?_))
      case refine_1 => simp only [List.length_cons, List.length_nil, HL.out]; omega
      case refine_2 => simp only [List.length_cons, List.length_nil, HL.out]; unfold maxLen; omega
      case refine_3 => simp only [World.size_alloc]; omega
      case refine_4 =>
        intro v' w' hr' hg'
        have hb' : Below w.heap.size w w' := bel_grown (bel_alloc hb _) (by (try simp only [World.size_alloc, World.size_setCell, size_drewN, World.size_drew]); omega) hg' (fun g hg => (HR.out.block g hg).1)
        have HR' := Lib.hid hr'
        clear hr'
        go_wp2
        go_roundw
        case rel => exact ⟨k + 1, by omega, by go_num, by rw [HP.out]; exact HR'.out, hb'⟩
        case measure => simp [intOf]; omega
    · have HE : Hid (pre x.length (x.take k) = bti x) := by rw [List.take_of_length_le (by omega)]; exact rfl
      go_wp2
      go_ret
      exact ⟨_, rfl, by rw [← HE.out]; exact hr, hb⟩
set_option maxHeartbeats 400000 in
theorem C_impl_ModP (w : World) (n : Int) (hn : -9223372036854775808 ≤ n ∧ n ≤ 9223372036854775807) : Calls Try.prog 176 #[.int .i64 n, .int .i64 2147483647] w (RetIP w (modP n)) := by
  go_enter Try.func176, Try.ntmps176
  go_wp2_with fail
  refine (C_impl_InRange _ _ _ _).mono ?_
  rintro e w1 ⟨rfl, rfl⟩
  have hq : inR 2147483647 1 1000000000000 = true := by decide
  rw [hq]
  clear hq
  go_wp2
  go_ret
  exact ⟨ret_int (modP_wrap n), rfl⟩
set_option maxHeartbeats 1000000 in
theorem C_impl_Digest (w : World) (v : Value) (x : List Int) (h : (Ty.sl .int).rd w [v] x) : Calls Try.prog 153 #[v] w (RetI w (digest x)) := by
  obtain ⟨A, c, rfl, hc, hm, hn⟩ := Ty.rd_sl h
  go_enter Try.func153, Try.ntmps153
  go_wp2
  go_loopw [3, 8] (fun d i wr => ∃ k : Nat, k ≤ x.length ∧ i = .int .i64 k ∧ d = .int .i64 (digest (x.take k)) ∧ Below w.heap.size w wr) (fun _ i _ => x.length - (intOf i).toNat)
  case atStart => exact ⟨0, by omega, rfl, rfl, Below.refl _ _⟩
  case round =>
    obtain ⟨k, hk, rfl, rfl, hb⟩ := hrel
    by_cases hlt : k < x.length
    · obtain ⟨b, o, rfl, e0, n0⟩ := Ty.rd_int_at (Ty.rd_below hb h) hlt
      have HD := Lib.hid (digest_take x hlt)
      have hd := digest_le (x.take k)
      have hm1 := modP_le x[k]
      generalize digest (x.take k) = D at HD hd ⊢
      go_wp2_with fail
      refine (C_impl_ModP _ _ n0).mono ?_
      rintro e w1 ⟨rfl, rfl⟩
      generalize modP x[k] = M at HD hm1 ⊢
      go_wp2
      go_roundw
      case rel => exact ⟨k + 1, by omega, by go_num, by rw [HD.out, Int.tmod_eq_emod_of_nonneg (by omega)], hb⟩
      case measure => simp [intOf]; omega
    · have HE : Hid (digest (x.take k) = digest x) := by rw [List.take_of_length_le (by omega)]; exact rfl
      go_wp2
      go_ret
      exact ⟨ret_int HE.out, hb⟩
set_option maxHeartbeats 1000000 in
theorem C_impl_BytesToInts (w : World) (v : Value) (x : List UInt8) (h : (Ty.sl .byte).rd w [v] x) (hx : x.length ≤ 1099511627776) : Calls Try.prog 135 #[v] w (RetRow flatI w 3 (bti x)) := by
  obtain ⟨A, c, rfl, hc, hm, hn⟩ := Ty.rd_sl h
  go_enter Try.func135, Try.ntmps135
  go_wp2
  go_loopw [3, 11] (fun l i wr => ∃ k : Nat, k ≤ x.length ∧ i = .int .i64 k ∧ Row flatI wr w.heap.size 3 l (pre x.length (x.take k)) ∧ Below w.heap.size w wr) (fun _ i _ => x.length - (intOf i).toNat)
  case atStart => exact ⟨0, by omega, rfl, Row.lit1 flatI w 3 (x.length : Int) (okI (by omega) (by omega)) (Nat.le_refl _), (by repeat' (first | (with_reducible exact Below.refl _ _) | (with_reducible assumption) | (with_reducible refine bel_set ?_ (by (try dsimp only); omega) _) | (with_reducible refine bel_alloc ?_ _) | (with_reducible refine bel_drewN ?_ _) | (with_reducible refine bel_drew ?_)))⟩
  case round =>
    obtain ⟨k, hk, rfl, hr, hb⟩ := hrel
    by_cases hlt : k < x.length
    · obtain ⟨b, o, rfl, e0⟩ := Ty.rd_byte_at (Ty.rd_below hb h) hlt
      have HP := Lib.hid (pre_take x.length x hlt)
      have hu := UInt8.toNat_lt x[k]
      have hsz := hb.size
      have HR := Lib.hid hr
      clear hr
      have HL := Lib.hid (show (pre x.length (x.take k)).length = k + 1 from by rw [pre_len, List.length_take]; omega)
      have hw8 : wrap64 (x[k].toNat : Int) = (x[k].toNat : Int) := by unfold wrap64; omega
      set_option maxRecDepth 100000 in go_wp2_with (at_builtin; go_loud (refine wpList_append_row rfl _ _ 92 rfl flatI w.heap.size 3 infoI rfl Try.underlying92 _ _ _ [(x[k].toNat : Int)] rfl rfl (HR.out.below (by repeat' (first | (with_reducible exact Below.refl _ _) | (with_reducible assumption) | (with_reducible refine bel_set ?_ (by (try dsimp only); omega) _) | (with_reducible refine bel_alloc ?_ _) | (with_reducible refine bel_drewN ?_ _) | (with_reducible refine bel_drew ?_)))) ((Row.lit1 flatI wr 3 (x[k].toNat : Int) (okI (by omega) (by omega)) (Nat.le_refl _)).rd (by (try simp only [World.size_alloc, World.size_setCell, size_drewN, World.size_drew]); omega)) ?_ ?_ ?_ ?_))
      case refine_1 => simp only [List.length_cons, List.length_nil, HL.out]; omega
      case refine_2 => simp only [List.length_cons, List.length_nil, HL.out]; unfold maxLen; omega
      case refine_3 => simp only [World.size_alloc]; omega
      case refine_4 =>
        intro v' w' hr' hg'
        have hb' : Below w.heap.size w w' := bel_grown (bel_alloc hb _) (by (try simp only [World.size_alloc, World.size_setCell, size_drewN, World.size_drew]); omega) hg' (fun g hg => (HR.out.block g hg).1)
        have HR' := Lib.hid hr'
        clear hr'
        go_wp2
        go_roundw
        case rel => exact ⟨k + 1, by omega, by go_num, by rw [HP.out]; exact HR'.out, hb'⟩
        case measure => simp [intOf]; omega
    · have HE : Hid (pre x.length (x.take k) = bti x) := by rw [List.take_of_length_le (by omega)]; exact rfl
      go_wp2
      go_ret
      exact ⟨_, rfl, by rw [← HE.out]; exact hr, hb⟩
end Go.Proofs.Ytldgbnlcnlfmeaa
