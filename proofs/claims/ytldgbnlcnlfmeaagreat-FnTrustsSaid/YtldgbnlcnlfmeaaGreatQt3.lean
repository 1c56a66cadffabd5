/- Texts of this claim, merged by a program: Int Byt Cpy Asn Pnm Nmd. -/
import Derived.Test.YtldgbnlcnlfmeaaGreatQtP
import Derived.Test.YtldgbnlcnlfmeaaGreatQt2
import Derived.Test.YtldgbnlcnlfmeaaGreatQt0
import Derived.Lib.SliceRun
import Derived.Laws.Bits128
import Derived.Test.YtldgbnlcnlfmeaaGreatQt1
namespace Go.Proofs.YtldgbnlcnlfmeaaGreat
open Go.RowKit
set_option linter.unusedVariables false
set_option linter.unusedSimpArgs false
theorem infoI : (Tryz.prog.info? 3).map (fun i => (i.zero, i.size, i.bytes)) = some (some (.int .i64 0), 1, 8) := by kernel_rfl
theorem infoB : (Tryz.prog.info? 5).map (fun i => (i.zero, i.size, i.bytes)) = some (some (.int .u8 0), 1, 1) := by kernel_rfl
def modP (n : Int) : Int := (n.tmod 2147483647 + 2147483647).tmod 2147483647
theorem tmodP_bd (n : Int) : -2147483647 < n.tmod 2147483647 ∧ n.tmod 2147483647 < 2147483647 := by
 have h1 := Int.tmod_lt_of_pos n (show (0 : Int) < 2147483647 by decide)
 refine ⟨?_, h1⟩
 rcases Int.le_total 0 n with h | h
 ·have := Int.tmod_nonneg 2147483647 h; omega
 ·have h3 := Int.tmod_lt_of_pos (-n) (show (0 : Int) < 2147483647 by decide)
  rw [Int.neg_tmod] at h3; omega
theorem modP_wrap (n : Int) : (wrap64 (n.tmod 2147483647 + 2147483647)).tmod 2147483647 = modP n := by
 unfold modP; rw [show wrap64 (n.tmod 2147483647 + 2147483647) = n.tmod 2147483647 + 2147483647 from by have := tmodP_bd n; unfold wrap64; omega]
theorem okI {n : Int} (h1 : -9223372036854775808 ≤ n) (h2 : n ≤ 9223372036854775807) : flatI.ok n := ⟨h1, h2⟩
theorem modP_le (n : Int) : 0 ≤ modP n ∧ modP n < 2147483647 := by
 unfold modP
 have h1 := Int.tmod_lt_of_pos n (show (0 : Int) < 2147483647 by decide)
 have h2 : -2147483647 < n.tmod 2147483647 := by
  rcases Int.le_total 0 n with h | h
  ·have := Int.tmod_nonneg 2147483647 h; omega
  ·have h3 := Int.tmod_lt_of_pos (-n) (show (0 : Int) < 2147483647 by decide)
   rw [Int.neg_tmod] at h3; omega
 exact ⟨Int.tmod_nonneg _ b_37, Int.tmod_lt_of_pos _ b_36⟩
def digest (l : List Int) : Int := l.foldl (fun d x => (d * 1000003 + modP x + 13).tmod 2147483647) 11
theorem digest_le (l : List Int) : 0 ≤ digest l ∧ digest l < 2147483647 := by
 unfold digest
 have : ∀ (l : List Int) (d : Int), 0 ≤ d ∧ d < 2147483647 → 0 ≤ l.foldl (fun d x => (d * 1000003 + modP x + 13).tmod 2147483647) d ∧ l.foldl (fun d x => (d * 1000003 + modP x + 13).tmod 2147483647) d < 2147483647 := by
  intro l
  induction l with
  | nil => exact fun d h => h
  | cons a l ih =>
   intro d h
   have hm := modP_le a
   exact ih _ ⟨Int.tmod_nonneg _ b_37, Int.tmod_lt_of_pos _ b_36⟩
 exact this l 11 b_37
def pre (n : Int) (y : List UInt8) : List Int := n :: y.map fun c => (c.toNat : Int)
def bti (x : List UInt8) : List Int := pre x.length x
theorem pre_take (n : Int) (y : List UInt8) {k : Nat} (h : k < y.length) : pre n (y.take (k + 1)) = pre n (y.take k) ++ [(y[k].toNat : Int)] := by
 unfold pre; rw [List.take_succ_eq_append_getElem h, List.map_append]; rfl
theorem pre_len (n : Int) (y : List UInt8) : (pre n y).length = y.length + 1 := by simp [pre]
theorem digest_take (l : List Int) {k : Nat} (h : k < l.length) : digest (l.take (k + 1)) = (digest (l.take k) * 1000003 + modP l[k] + 13).tmod 2147483647 := by
 unfold digest
 rw [List.take_succ_eq_append_getElem h, List.foldl_append]; rfl
set_option maxHeartbeats 400000 in
theorem C_spec_ModP (w : World) (n : Int) (hn : -9223372036854775808 ≤ n ∧ n ≤ 9223372036854775807) : Calls Tryz.prog 127 #[.int .i64 n, .int .i64 2147483647] w (RetIP w (modP n)) := by
 go_enter Tryz.func127, Tryz.ntmps127
 go_wp2_with fail
 refine (C_spec_l1In _ _ _ _).mono ?_
 rintro e w1 ⟨rfl, rfl⟩
 have hq : inR 2147483647 1 1000000000000 = true := by decide
 rw [hq]
 clear hq
 go_wp2
 go_ret
 exact ⟨ret_int (modP_wrap n), rfl⟩
set_option maxHeartbeats 1000000 in
theorem C_spec_Digest (w : World) (v : Value) (x : List Int) (h : (Ty.sl .int).rd w [v] x) : Calls Tryz.prog 86 #[v] w (RetI w (digest x)) := by
 obtain ⟨A, c, rfl, hc, hm, hn⟩ := Ty.rd_sl h
 go_enter Tryz.func86, Tryz.ntmps86
 go_wp2
 go_loopw [3, 4] (fun d i wr => ∃ k : Nat, k ≤ x.length ∧ i = .int .i64 k ∧ d = .int .i64 (digest (x.take k)) ∧ Below w.heap.size w wr) (fun _ i _ => x.length - (intOf i).toNat)
 case atStart => exact ⟨0, by omega, rfl, rfl, Below.refl _ _⟩
 case round =>
  obtain ⟨k, hk, rfl, rfl, hb⟩ := hrel
  by_cases hlt : k < x.length
  ·obtain ⟨b, o, rfl, e0, n0⟩ := Ty.rd_int_at (Ty.rd_below hb h) hlt
   have HD := Lib.hid (digest_take x hlt)
   have hd := digest_le (x.take k)
   have hm1 := modP_le x[k]
   generalize digest (x.take k) = D at HD hd ⊢
   go_wp2_with fail
   refine (C_spec_ModP _ _ n0).mono ?_
   rintro e w1 ⟨rfl, rfl⟩
   generalize modP x[k] = M at HD hm1 ⊢
   go_wp2
   go_roundw
   case rel => exact ⟨k + 1, by omega, by go_num, by rw [HD.out, Int.tmod_eq_emod_of_nonneg b_37], hb⟩
   case measure => simp [intOf]; omega
  ·have HE : Hid (digest (x.take k) = digest x) := by rw [List.take_of_length_le b_37]; exact rfl
   go_wp2
   go_ret
   exact ⟨ret_int HE.out, hb⟩
set_option maxHeartbeats 1000000 in
theorem C_spec_BytesToInts (w : World) (v : Value) (x : List UInt8) (h : (Ty.sl .byte).rd w [v] x) (hx : x.length ≤ 1099511627776) : Calls Tryz.prog 166 #[v] w (RetRow flatI w 3 (bti x)) := by
 obtain ⟨A, c, rfl, hc, hm, hn⟩ := Ty.rd_sl h
 go_enter Tryz.func166, Tryz.ntmps166
 go_wp2
 go_loopw [3, 4] (fun l i wr => ∃ k : Nat, k ≤ x.length ∧ i = .int .i64 k ∧ Row flatI wr w.heap.size 3 l (pre x.length (x.take k)) ∧ Below w.heap.size w wr) (fun _ i _ => x.length - (intOf i).toNat)
 case atStart => exact ⟨0, by omega, rfl, Row.lit1 flatI w 3 (x.length : Int) (okI b_37 b_37) (Nat.le_refl _), b_10⟩
 case round =>
  obtain ⟨k, hk, rfl, hr, hb⟩ := hrel
  by_cases hlt : k < x.length
  ·obtain ⟨b, o, rfl, e0⟩ := Ty.rd_byte_at (Ty.rd_below hb h) hlt
   have HP := Lib.hid (pre_take x.length x hlt)
   have hu := UInt8.toNat_lt x[k]
   have hsz := hb.size
   have HR := Lib.hid hr
   clear hr
   have HL := Lib.hid (show (pre x.length (x.take k)).length = k + 1 from by rw [pre_len, List.length_take]; omega)
   have hw8 : wrap64 (x[k].toNat : Int) = (x[k].toNat : Int) := by unfold wrap64; omega
   set_option maxRecDepth 100000 in go_wp2_with (at_builtin; go_loud (refine wpList_append_row rfl _ _ 76 rfl flatI w.heap.size 3 infoI rfl Tryz.underlying76 _ _ _ [(x[k].toNat : Int)] rfl rfl (HR.out.below b_10) ((Row.lit1 flatI wr 3 (x[k].toNat : Int) (okI b_37 b_37) (Nat.le_refl _)).rd b_32) ?_ ?_ ?_ ?_))
   case refine_1 => simp only [List.length_cons, List.length_nil, HL.out]; omega
   case refine_2 => simp only [List.length_cons, List.length_nil, HL.out]; unfold maxLen; omega
   case refine_3 => simp only [World.size_alloc]; omega
   case refine_4 =>
    intro v' w' hr' hg'
    have hb' : Below w.heap.size w w' := bel_grown (bel_alloc hb _) b_32 hg' (fun g hg => (HR.out.block g hg).1)
    have HR' := Lib.hid hr'
    clear hr'
    go_wp2
    go_roundw
    case rel => exact ⟨k + 1, by omega, by go_num, by rw [HP.out]; exact HR'.out, hb'⟩
    case measure => simp [intOf]; omega
  ·have HE : Hid (pre x.length (x.take k) = bti x) := by rw [List.take_of_length_le b_37]; exact rfl
   go_wp2
   go_ret
   exact ⟨_, rfl, by rw [← HE.out]; exact hr, hb⟩
set_option maxHeartbeats 400000 in
theorem C_impl_ModP (w : World) (n : Int) (hn : -9223372036854775808 ≤ n ∧ n ≤ 9223372036854775807) : Calls Tryz.prog 126 #[.int .i64 n, .int .i64 2147483647] w (RetIP w (modP n)) := by
 go_enter Tryz.func126, Tryz.ntmps126
 go_wp2_with fail
 refine (C_impl_InRange _ _ _ _).mono ?_
 rintro e w1 ⟨rfl, rfl⟩
 have hq : inR 2147483647 1 1000000000000 = true := by decide
 rw [hq]
 clear hq
 go_wp2
 go_ret
 exact ⟨ret_int (modP_wrap n), rfl⟩
set_option maxHeartbeats 1000000 in
theorem C_impl_Digest (w : World) (v : Value) (x : List Int) (h : (Ty.sl .int).rd w [v] x) : Calls Tryz.prog 84 #[v] w (RetI w (digest x)) := by
 obtain ⟨A, c, rfl, hc, hm, hn⟩ := Ty.rd_sl h
 go_enter Tryz.func84, Tryz.ntmps84
 go_wp2
 go_loopw [3, 8] (fun d i wr => ∃ k : Nat, k ≤ x.length ∧ i = .int .i64 k ∧ d = .int .i64 (digest (x.take k)) ∧ Below w.heap.size w wr) (fun _ i _ => x.length - (intOf i).toNat)
 case atStart => exact ⟨0, by omega, rfl, rfl, Below.refl _ _⟩
 case round =>
  obtain ⟨k, hk, rfl, rfl, hb⟩ := hrel
  by_cases hlt : k < x.length
  ·obtain ⟨b, o, rfl, e0, n0⟩ := Ty.rd_int_at (Ty.rd_below hb h) hlt
   have HD := Lib.hid (digest_take x hlt)
   have hd := digest_le (x.take k)
   have hm1 := modP_le x[k]
   generalize digest (x.take k) = D at HD hd ⊢
   go_wp2_with fail
   refine (C_impl_ModP _ _ n0).mono ?_
   rintro e w1 ⟨rfl, rfl⟩
   generalize modP x[k] = M at HD hm1 ⊢
   go_wp2
   go_roundw
   case rel => exact ⟨k + 1, by omega, by go_num, by rw [HD.out, Int.tmod_eq_emod_of_nonneg b_37], hb⟩
   case measure => simp [intOf]; omega
  ·have HE : Hid (digest (x.take k) = digest x) := by rw [List.take_of_length_le b_37]; exact rfl
   go_wp2
   go_ret
   exact ⟨ret_int HE.out, hb⟩
set_option maxHeartbeats 1000000 in
theorem C_impl_BytesToInts (w : World) (v : Value) (x : List UInt8) (h : (Ty.sl .byte).rd w [v] x) (hx : x.length ≤ 1099511627776) : Calls Tryz.prog 163 #[v] w (RetRow flatI w 3 (bti x)) := by
 obtain ⟨A, c, rfl, hc, hm, hn⟩ := Ty.rd_sl h
 go_enter Tryz.func163, Tryz.ntmps163
 go_wp2
 go_loopw [3, 11] (fun l i wr => ∃ k : Nat, k ≤ x.length ∧ i = .int .i64 k ∧ Row flatI wr w.heap.size 3 l (pre x.length (x.take k)) ∧ Below w.heap.size w wr) (fun _ i _ => x.length - (intOf i).toNat)
 case atStart => exact ⟨0, by omega, rfl, Row.lit1 flatI w 3 (x.length : Int) (okI b_37 b_37) (Nat.le_refl _), b_10⟩
 case round =>
  obtain ⟨k, hk, rfl, hr, hb⟩ := hrel
  by_cases hlt : k < x.length
  ·obtain ⟨b, o, rfl, e0⟩ := Ty.rd_byte_at (Ty.rd_below hb h) hlt
   have HP := Lib.hid (pre_take x.length x hlt)
   have hu := UInt8.toNat_lt x[k]
   have hsz := hb.size
   have HR := Lib.hid hr
   clear hr
   have HL := Lib.hid (show (pre x.length (x.take k)).length = k + 1 from by rw [pre_len, List.length_take]; omega)
   have hw8 : wrap64 (x[k].toNat : Int) = (x[k].toNat : Int) := by unfold wrap64; omega
   set_option maxRecDepth 100000 in go_wp2_with (at_builtin; go_loud (refine wpList_append_row rfl _ _ 76 rfl flatI w.heap.size 3 infoI rfl Tryz.underlying76 _ _ _ [(x[k].toNat : Int)] rfl rfl (HR.out.below b_10) ((Row.lit1 flatI wr 3 (x[k].toNat : Int) (okI b_37 b_37) (Nat.le_refl _)).rd b_32) ?_ ?_ ?_ ?_))
   case refine_1 => simp only [List.length_cons, List.length_nil, HL.out]; omega
   case refine_2 => simp only [List.length_cons, List.length_nil, HL.out]; unfold maxLen; omega
   case refine_3 => simp only [World.size_alloc]; omega
   case refine_4 =>
    intro v' w' hr' hg'
    have hb' : Below w.heap.size w w' := bel_grown (bel_alloc hb _) b_32 hg' (fun g hg => (HR.out.block g hg).1)
    have HR' := Lib.hid hr'
    clear hr'
    go_wp2
    go_roundw
    case rel => exact ⟨k + 1, by omega, by go_num, by rw [HP.out]; exact HR'.out, hb'⟩
    case measure => simp [intOf]; omega
  ·have HE : Hid (pre x.length (x.take k) = bti x) := by rw [List.take_of_length_le b_37]; exact rfl
   go_wp2
   go_ret
   exact ⟨_, rfl, by rw [← HE.out]; exact hr, hb⟩
end Go.Proofs.YtldgbnlcnlfmeaaGreat
namespace Go.Proofs.YtldgbnlcnlfmeaaGreat
open Go.RowKit
set_option linter.unusedVariables false
set_option linter.unusedSimpArgs false
set_option maxHeartbeats 1000000 in
theorem C_slices_Clone_byte (w : World) (v : Value) (x : List UInt8) (h : (Ty.sl .byte).rd w [v] x) (hx : x.length ≤ 1099511627776) : Calls Tryz.prog 125 #[v] w (RetRow flatB w 5 x) := by
 obtain ⟨A, c, rfl, hc, hm, hn⟩ := Ty.rd_sl h
 cases A with
 | none =>
  obtain ⟨rfl, rfl⟩ := Ty.rd_nil h
  show Calls Tryz.prog 125 #[.slice none 0 0] w _
  clear h hx hc hm hn
  have q22 : ∀ (w : World) (a : Option Addr) (n c n' c' : Nat), (binOp .eql 22 (.slice a n c) (.slice none n' c')).run Tryz.prog w = .ok (.bool a.isNone) w := fun w a n c n' c' => Lib.run_eql_slice_nil w _ _ a n c n' c' Tryz.underlying22
  go_enter Tryz.func125, Tryz.ntmps125
  go_wp2
  go_ret
  exact ⟨_, rfl, Row.nil _ _ _ _, Below.refl _ _⟩
 | some a =>
  have q22 : ∀ (w : World) (a : Option Addr) (n c n' c' : Nat), (binOp .eql 22 (.slice a n c) (.slice none n' c')).run Tryz.prog w = .ok (.bool a.isNone) w := fun w a n c n' c' => Lib.run_eql_slice_nil w _ _ a n c n' c' Tryz.underlying22
  go_enter Tryz.func125, Tryz.ntmps125
  set_option maxRecDepth 100000 in go_wp2_with (at_builtin; go_loud (refine wpList_append_row rfl _ _ 22 rfl flatB w.heap.size 5 infoB rfl Tryz.underlying22 _ _ [] x rfl rfl (Row.lit0 flatB w 5 (Nat.le_refl _)) (Ty.rd_below b_10 h) ?_ ?_ ?_ ?_))
  case refine_1 => simp only [List.length_nil]; omega
  case refine_2 => simp only [List.length_nil]; unfold maxLen; omega
  case refine_3 => simp only [World.size_alloc]; omega
  case refine_4 =>
   intro v' w' hr' hg'
   have hb' : Below w.heap.size w w' := bel_grown b_10 b_32 hg' (fun g hg => by simp [Value.ownBlock] at hg; omega)
   have HR' := Lib.hid hr'
   clear hr'
   go_wp2
   go_ret
   exact ⟨_, rfl, HR'.out, hb'⟩
def hiByte (k : Nat) : UInt8 := UInt8.ofNat (k % 128 + 128)
theorem hiByte_nat (k : Nat) : ((hiByte k).toNat : Int) = ((k % 128 + 128 : Nat) : Int) := by unfold hiByte; rw [UInt8.toNat_ofNat']; omega
def varint (n : Nat) : List UInt8 := if h : n < 128 then [UInt8.ofNat n] else hiByte n :: varint (n / 128)
termination_by n
decreasing_by omega
theorem varint_len (n : Nat) : (varint n).length ≤ n + 1 := by
 induction n using Nat.strongRecOn with
 | _ n ih =>
  rw [varint]
  by_cases h : n < 128
  ·simp [h]
  ·simp only [h, dif_neg, not_false_eq_true, List.length_cons]
   have := ih (n / 128) b_37
   omega
def f_AppendVarint (b : List UInt8) (n : Int) : List UInt8 := if 0 ≤ n ∧ n ≤ 1000000000000 then b ++ varint n.toNat else b
theorem or128 (k : Nat) : bits BinOp.or IntKind.u8 ((k : Int) % 256) 128 = ((k % 128 + 128 : Nat) : Int) := by
 have h : ∀ r : Fin 256, bits BinOp.or IntKind.u8 ((r.val : Nat) : Int) 128 = ((r.val % 128 + 128 : Nat) : Int) := by decide +kernel
 have h2 := h ⟨k % 256, Nat.mod_lt _ b_36⟩
 simp only at h2
 rw [show (k : Int) % 256 = ((k % 256 : Nat) : Int) from rfl, h2]
 omega
theorem or128s (k : Nat) : bits BinOp.or IntKind.i64 (bits BinOp.and IntKind.i64 (k : Int) 127) 128 % 256 = ((k % 128 + 128 : Nat) : Int) := by
 have h : ∀ r : Fin 128, bits BinOp.or IntKind.i64 ((r.val : Nat) : Int) 128 % 256 = ((r.val + 128 : Nat) : Int) := by decide +kernel
 have h2 := h ⟨k % 128, Nat.mod_lt _ b_36⟩
 simp only at h2
 rw [i64_and127, show (k : Int) % 128 = ((k % 128 : Nat) : Int) from rfl, h2]
set_option maxHeartbeats 1000000 in
theorem C_impl_AppendVarint (w : World) (v : Value) (b : List UInt8) (n : Int) (h : (Ty.sl .byte).rd w [v] b) (hx : b.length ≤ 1099511627776) (hi : -9223372036854775808 ≤ n ∧ n ≤ 9223372036854775807) :
  Calls Tryz.prog 83 #[v, .int .i64 n] w (RetRow flatB w 5 (f_AppendVarint b n)) := by
 go_enter Tryz.func83, Tryz.ntmps83
 go_wp2_with fail
 refine (C_slices_Clone_byte _ _ _ h hx).mono ?_
 rintro e w1 ⟨v1, rfl, hr1, hb1⟩
 go_wp2_with fail
 refine (C_impl_InRange _ _ _ _).mono ?_
 rintro e w2 ⟨rfl, rfl⟩
 cases hq : inR n 0 1000000000000
 ·have HQ := Lib.hid hq
  have HR := Lib.hid hr1
  clear hq hr1
  go_wp2
  go_ret
  exact ⟨_, rfl, by unfold f_AppendVarint; rw [if_neg (by have := HQ.out; unfold inR at this; simp at this; omega)]; exact HR.out, hb1⟩
 ·obtain ⟨m, rfl, hm⟩ : ∃ m : Nat, n = m ∧ m ≤ 1000000000000 := ⟨n.toNat, by unfold inR at hq; simp at hq; omega, by unfold inR at hq; simp at hq; omega⟩
  have HR := Lib.hid hr1
  clear hr1
  go_wp2
  go_loopw [1, 5] (fun q l wr => ∃ (k : Nat) (d : List UInt8), k ≤ 1000000000000 ∧ q = .int .i64 k ∧ Row flatB wr w.heap.size 5 l (b ++ d) ∧ d ++ varint k = varint m ∧ Below w.heap.size w wr) (fun q _ _ => (intOf q).toNat)
  case atStart => exact ⟨m, [], hm, rfl, by rw [List.append_nil]; exact HR.out, rfl, hb1⟩
  case round =>
   obtain ⟨k, d, hk, rfl, hr, hd, hb⟩ := hrel
   have hdl := Lib.hid (congrArg List.length hd)
   have HD := Lib.hid hd
   clear hd
   have HR := Lib.hid hr
   clear hr
   by_cases hlt : k < 128
   ·have hkc : (k : Int) < 128 := by omega
    have hv : varint k = [UInt8.ofNat k] := by rw [varint, dif_pos hlt]
    have hu8 : ((UInt8.ofNat k).toNat : Int) = k := by rw [UInt8.toNat_ofNat']; omega
    have HV := Lib.hid hv
    clear hv
    have hlb : d.length + 1 ≤ m + 1 := by have h1 := hdl.out; rw [HV.out, List.length_append] at h1; have := varint_len m; simp at h1; omega
    have hb1 : Row flatB (wr.alloc (.cells #[.int .u8 (k : Int)] 5)) wr.heap.size 5 (.slice (some ⟨wr.heap.size, 0, none⟩) 1 1) [UInt8.ofNat k] := by
     have := Row.lit1 flatB wr 5 (UInt8.ofNat k) trivial (Nat.le_refl _)
     rwa [show flatB.enc (UInt8.ofNat k) = .int .u8 (k : Int) from congrArg (Value.int .u8) hu8] at this
    have HB := Lib.hid hb1
    clear hb1
    have hsz := hb.size
    clear hu8
    set_option maxRecDepth 100000 in go_wp2_with (at_builtin; go_loud (refine wpList_append_row rfl _ _ 22 rfl flatB w.heap.size 5 infoB rfl Tryz.underlying22 _ _ (b ++ d) [UInt8.ofNat k] rfl rfl (HR.out.below b_10) (HB.out.rd b_32) ?_ ?_ ?_ ?_))
    case refine_1 => simp only [List.length_append, List.length_cons, List.length_nil]; omega
    case refine_2 => simp only [List.length_append, List.length_cons, List.length_nil]; unfold maxLen; omega
    case refine_3 => simp only [World.size_alloc]; omega
    case refine_4 =>
     intro v' w' hr' hg'
     have hb' : Below w.heap.size w w' := bel_grown (bel_alloc hb _) b_32 hg' (fun g hg => (HR.out.block g hg).1)
     have HR' := Lib.hid hr'
     clear hr'
     go_wp2
     go_ret
     exact ⟨_, rfl, by unfold f_AppendVarint; rw [if_pos b_37, show ((m : Int)).toNat = m from rfl, ← HD.out, HV.out]; exact HR'.out, hb'⟩
   ·have hkc : (128 : Int) ≤ k := by omega
    have hv : varint k = hiByte k :: varint (k / 128) := by rw [varint, dif_neg hlt]
    have hu8 := hiByte_nat k
    have HV := Lib.hid hv
    clear hv
    have hlb : d.length + 1 ≤ m + 1 := by have h1 := hdl.out; rw [HV.out, List.length_append] at h1; have := varint_len m; simp at h1; omega
    have hb1 : Row flatB (wr.alloc (.cells #[.int .u8 (bits BinOp.or IntKind.u8 ((k : Int) % 256) 128)] 5)) wr.heap.size 5 (.slice (some ⟨wr.heap.size, 0, none⟩) 1 1) [hiByte k] := by
     have := Row.lit1 flatB wr 5 (hiByte k) trivial (Nat.le_refl _)
     rwa [show flatB.enc (hiByte k) = .int .u8 (bits BinOp.or IntKind.u8 ((k : Int) % 256) 128) from congrArg (Value.int .u8) (hu8.trans (or128 k).symm)] at this
    have HB := Lib.hid hb1
    clear hb1
    have hsz := hb.size
    clear hu8
    set_option maxRecDepth 100000 in go_wp2_with (at_builtin; go_loud (refine wpList_append_row rfl _ _ 22 rfl flatB w.heap.size 5 infoB rfl Tryz.underlying22 _ _ (b ++ d) [hiByte k] rfl rfl (HR.out.below b_10) (HB.out.rd b_32) ?_ ?_ ?_ ?_))
    case refine_1 => simp only [List.length_append, List.length_cons, List.length_nil]; omega
    case refine_2 => simp only [List.length_append, List.length_cons, List.length_nil]; unfold maxLen; omega
    case refine_3 => simp only [World.size_alloc]; omega
    case refine_4 =>
     intro v' w' hr' hg'
     have hb' : Below w.heap.size w w' := bel_grown (bel_alloc hb _) b_32 hg' (fun g hg => (HR.out.block g hg).1)
     have HR' := Lib.hid hr'
     clear hr'
     go_wp2
     exact ⟨⟨k / 128, d ++ [hiByte k], by omega, by first | rfl | go_num, by exact HR'.out, by rw [List.append_assoc, ← HD.out, HV.out]; rfl, hb'⟩, by simp [intOf]; omega⟩
set_option maxHeartbeats 1000000 in
theorem C_spec_AppendVarint (w : World) (v : Value) (b : List UInt8) (n : Int) (h : (Ty.sl .byte).rd w [v] b) (hx : b.length ≤ 1099511627776) (hi : -9223372036854775808 ≤ n ∧ n ≤ 9223372036854775807) :
  Calls Tryz.prog 85 #[v, .int .i64 n] w (RetRow flatB w 5 (f_AppendVarint b n)) := by
 go_enter Tryz.func85, Tryz.ntmps85
 set_option maxRecDepth 100000 in go_wp2_with (at_builtin; go_loud (refine wpList_append_row rfl _ _ 22 rfl flatB w.heap.size 5 infoB rfl Tryz.underlying22 _ _ [] b rfl rfl (Row.lit0 flatB w 5 (Nat.le_refl _)) (Ty.rd_below b_10 h) ?_ ?_ ?_ ?_))
 case refine_1 => simp only [List.length_nil]; omega
 case refine_2 => simp only [List.length_nil]; unfold maxLen; omega
 case refine_3 => simp only [World.size_alloc]; omega
 intro v1 w1 hr1 hg1
 have hb1 : Below w.heap.size w w1 := bel_grown b_10 b_32 hg1 (fun g hg => by simp [Value.ownBlock] at hg; omega)
 go_wp2_with fail
 refine (C_spec_l1In _ _ _ _).mono ?_
 rintro e w2 ⟨rfl, rfl⟩
 cases hq : inR n 0 1000000000000
 ·have HQ := Lib.hid hq
  have HR := Lib.hid hr1
  clear hq hr1
  go_wp2
  go_ret
  exact ⟨_, rfl, by unfold f_AppendVarint; rw [if_neg (by have := HQ.out; unfold inR at this; simp at this; omega)]; exact HR.out, hb1⟩
 ·obtain ⟨m, rfl, hm⟩ : ∃ m : Nat, n = m ∧ m ≤ 1000000000000 := ⟨n.toNat, by unfold inR at hq; simp at hq; omega, by unfold inR at hq; simp at hq; omega⟩
  have HR := Lib.hid hr1
  clear hr1
  go_wp2
  go_loopw [1, 5] (fun q l wr => ∃ (k : Nat) (d : List UInt8), k ≤ 1000000000000 ∧ q = .int .i64 k ∧ Row flatB wr w.heap.size 5 l (b ++ d) ∧ d ++ varint k = varint m ∧ Below w.heap.size w wr) (fun q _ _ => (intOf q).toNat)
  case atStart => exact ⟨m, [], hm, rfl, by rw [List.append_nil]; exact HR.out, rfl, hb1⟩
  case round =>
   obtain ⟨k, d, hk, rfl, hr, hd, hb⟩ := hrel
   have hdl := Lib.hid (congrArg List.length hd)
   have HD := Lib.hid hd
   clear hd
   have HR := Lib.hid hr
   clear hr
   by_cases hlt : k < 128
   ·have hkc : (k : Int) < 128 := by omega
    have hv : varint k = [UInt8.ofNat k] := by rw [varint, dif_pos hlt]
    have hu8 : ((UInt8.ofNat k).toNat : Int) = k := by rw [UInt8.toNat_ofNat']; omega
    have HV := Lib.hid hv
    clear hv
    have hlb : d.length + 1 ≤ m + 1 := by have h1 := hdl.out; rw [HV.out, List.length_append] at h1; have := varint_len m; simp at h1; omega
    have hb1 : Row flatB (wr.alloc (.cells #[.int .u8 (k : Int)] 5)) wr.heap.size 5 (.slice (some ⟨wr.heap.size, 0, none⟩) 1 1) [UInt8.ofNat k] := by
     have := Row.lit1 flatB wr 5 (UInt8.ofNat k) trivial (Nat.le_refl _)
     rwa [show flatB.enc (UInt8.ofNat k) = .int .u8 (k : Int) from congrArg (Value.int .u8) hu8] at this
    have HB := Lib.hid hb1
    clear hb1
    have hsz := hb.size
    clear hu8
    set_option maxRecDepth 100000 in go_wp2_with (at_builtin; go_loud (refine wpList_append_row rfl _ _ 22 rfl flatB w.heap.size 5 infoB rfl Tryz.underlying22 _ _ (b ++ d) [UInt8.ofNat k] rfl rfl (HR.out.below b_10) (HB.out.rd b_32) ?_ ?_ ?_ ?_))
    case refine_1 => simp only [List.length_append, List.length_cons, List.length_nil]; omega
    case refine_2 => simp only [List.length_append, List.length_cons, List.length_nil]; unfold maxLen; omega
    case refine_3 => simp only [World.size_alloc]; omega
    case refine_4 =>
     intro v' w' hr' hg'
     have hb' : Below w.heap.size w w' := bel_grown (bel_alloc hb _) b_32 hg' (fun g hg => (HR.out.block g hg).1)
     have HR' := Lib.hid hr'
     clear hr'
     go_wp2
     go_ret
     exact ⟨_, rfl, by unfold f_AppendVarint; rw [if_pos b_37, show ((m : Int)).toNat = m from rfl, ← HD.out, HV.out]; exact HR'.out, hb'⟩
   ·have hkc : (128 : Int) ≤ k := by omega
    have hv : varint k = hiByte k :: varint (k / 128) := by rw [varint, dif_neg hlt]
    have hu8 := hiByte_nat k
    have HV := Lib.hid hv
    clear hv
    have hlb : d.length + 1 ≤ m + 1 := by have h1 := hdl.out; rw [HV.out, List.length_append] at h1; have := varint_len m; simp at h1; omega
    have hb1 : Row flatB (wr.alloc (.cells #[.int .u8 (bits BinOp.or IntKind.i64 (bits BinOp.and IntKind.i64 (k : Int) 127) 128 % 256)] 5)) wr.heap.size 5 (.slice (some ⟨wr.heap.size, 0, none⟩) 1 1) [hiByte k] := by
     have := Row.lit1 flatB wr 5 (hiByte k) trivial (Nat.le_refl _)
     rwa [show flatB.enc (hiByte k) = .int .u8 (bits BinOp.or IntKind.i64 (bits BinOp.and IntKind.i64 (k : Int) 127) 128 % 256) from congrArg (Value.int .u8) (hu8.trans (or128s k).symm)] at this
    have HB := Lib.hid hb1
    clear hb1
    have hsz := hb.size
    clear hu8
    set_option maxRecDepth 100000 in go_wp2_with (at_builtin; go_loud (refine wpList_append_row rfl _ _ 22 rfl flatB w.heap.size 5 infoB rfl Tryz.underlying22 _ _ (b ++ d) [hiByte k] rfl rfl (HR.out.below b_10) (HB.out.rd b_32) ?_ ?_ ?_ ?_))
    case refine_1 => simp only [List.length_append, List.length_cons, List.length_nil]; omega
    case refine_2 => simp only [List.length_append, List.length_cons, List.length_nil]; unfold maxLen; omega
    case refine_3 => simp only [World.size_alloc]; omega
    case refine_4 =>
     intro v' w' hr' hg'
     have hb' : Below w.heap.size w w' := bel_grown (bel_alloc hb _) b_32 hg' (fun g hg => (HR.out.block g hg).1)
     have HR' := Lib.hid hr'
     clear hr'
     go_wp2
     exact ⟨⟨k / 128, d ++ [hiByte k], by omega, by first | rfl | go_num, by exact HR'.out, by rw [List.append_assoc, ← HD.out, HV.out]; rfl, hb'⟩, by simp [intOf]; omega⟩
theorem C_slices_Clone_str (w : World) (v : Value) (x : List (List UInt8)) (h : (Ty.sl .str).rd w [v] x) (hx : x.length ≤ 1099511627776) : Calls Tryz.prog 109 #[v] w (RetRow flatS w 9 x) := by
 obtain ⟨A, c, rfl, hc, hm, hn⟩ := Ty.rd_sl h
 cases A with
 | none =>
  obtain ⟨rfl, rfl⟩ := Ty.rd_nil h
  show Calls Tryz.prog 109 #[.slice none 0 0] w _
  clear h hx hc hm hn
  have q22 : ∀ (w : World) (a : Option Addr) (n c n' c' : Nat), (binOp .eql 30 (.slice a n c) (.slice none n' c')).run Tryz.prog w = .ok (.bool a.isNone) w := fun w a n c n' c' => Lib.run_eql_slice_nil w _ _ a n c n' c' Tryz.underlying30
  go_enter Tryz.func109, Tryz.ntmps109
  go_wp2
  go_ret
  exact ⟨_, rfl, Row.nil _ _ _ _, Below.refl _ _⟩
 | some a =>
  have q22 : ∀ (w : World) (a : Option Addr) (n c n' c' : Nat), (binOp .eql 30 (.slice a n c) (.slice none n' c')).run Tryz.prog w = .ok (.bool a.isNone) w := fun w a n c n' c' => Lib.run_eql_slice_nil w _ _ a n c n' c' Tryz.underlying30
  go_enter Tryz.func109, Tryz.ntmps109
  set_option maxRecDepth 100000 in go_wp2_with (at_builtin; go_loud (refine wpList_append_row rfl _ _ 30 rfl flatS w.heap.size 9 info_str rfl Tryz.underlying30 _ _ [] x rfl rfl (Row.lit0 flatS w 9 (Nat.le_refl _)) (Ty.rd_below b_10 h) ?_ ?_ ?_ ?_))
  case refine_1 => simp only [List.length_nil]; omega
  case refine_2 => simp only [List.length_nil]; unfold maxLen; omega
  case refine_3 => simp only [World.size_alloc]; omega
  case refine_4 =>
   intro v' w' hr' hg'
   have hb' : Below w.heap.size w w' := bel_grown b_10 b_32 hg' (fun g hg => by simp [Value.ownBlock] at hg; omega)
   have HR' := Lib.hid hr'
   clear hr'
   go_wp2
   go_ret
   exact ⟨_, rfl, HR'.out, hb'⟩
set_option maxHeartbeats 1000000 in
theorem C_impl_copyName (w : World) (cs : List Value) (x : List (List UInt8)) (h : (Ty.sl .str).rd w cs x) (hx : x.length ≤ 1000000000000) :
  Calls Tryz.prog 55 #[.agg cs.toArray] w (RetAgg w (.sl .str) x) := by
 obtain ⟨A0, c0, rfl⟩ := Ty.rd_slv h
 go_enter Tryz.func55, Tryz.ntmps55
 go_wp2_with fail
 refine (C_slices_Clone_str _ _ x (Ty.rd_below b_10 h) b_37).mono ?_
 rintro e w1 ⟨v1, rfl, hr1, hb1⟩
 obtain ⟨A1, c1, fp1, rfl, how1, hfr1⟩ := hr1.own hb1.size
 have hw1 : Below w.heap.size w w1 := bel_trans b_10 hb1
 obtain ⟨hc1, hf1⟩ := bcell hb1
 have hz1 := hb1.size
 simp only [World.size_alloc] at hz1 hfr1
 have z0 : w.heap.size < w1.heap.size := by omega
 have z1 : w.heap.size + 1 < w1.heap.size := by omega
 clear hr1
 go_wp2
 refine bodyPost_ret (v := .agg #[.slice A1 (List.length x) c1]) (by simp [results, Tryz.results55, go_sem, hc1, hf1, z0, z1]) rfl ?_
 exact ⟨_, fp1, rfl, Ty.ow_keep (by intro b hb'; have hb'' := (hfr1).2 b hb'; (try simp only [szz] at hb''); repeat (first | (with_reducible rfl) | (rw [Below.heap_setCell _ _ _ _ b_33]) | (rw [Below.heap_alloc _ _ _ (by simp only [World.size_alloc, World.size_setCell]; omega)]))) how1, (hfr1.mono b_32 b_32), b_10⟩
set_option maxHeartbeats 1000000 in
theorem C_spec_l4Copy (w : World) (cs : List Value) (x : List (List UInt8)) (h : (Ty.sl .str).rd w cs x) (hx : x.length ≤ 1000000000000) :
  Calls Tryz.prog 57 #[.agg cs.toArray] w (RetAgg w (.sl .str) x) := by
 obtain ⟨A0, c0, rfl⟩ := Ty.rd_slv h
 have hl0 : Row flatS (((w.alloc (.cells #[.slice A0 x.length c0] 32)).alloc (.cells #[.slice none 0 0] 32)).alloc (.cells #[] 9)) (w.heap.size + 1 + 1) 9 (.slice (some ⟨w.heap.size + 1 + 1, 0, none⟩) 0 0) [] := by
  have := Row.lit0 flatS ((w.alloc (.cells #[.slice A0 x.length c0] 32)).alloc (.cells #[.slice none 0 0] 32)) 9 (base := w.heap.size + 1 + 1) b_30
  simp only [World.size_alloc] at this
  exact this
 have HL0 := Lib.hid hl0
 clear hl0
 go_enter Tryz.func57, Tryz.ntmps57
 set_option maxRecDepth 100000 in go_wp2_with (at_builtin; go_loud (refine wpList_append_row rfl _ _ 30 rfl flatS (w.heap.size + 1 + 1) 9 info_str rfl Tryz.underlying30 _ _ [] x rfl rfl HL0.out (Ty.rd_below b_10 h) ?_ ?_ ?_ ?_))
 case refine_1 => simp only [List.length_nil]; omega
 case refine_2 => simp only [List.length_nil]; unfold maxLen; omega
 case refine_3 => simp only [World.size_alloc]; omega
 intro v1 w1 hr1 hg1
 have hb1 : Below ((w.alloc (.cells #[.slice A0 x.length c0] 32)).alloc (.cells #[.slice none 0 0] 32)).heap.size ((w.alloc (.cells #[.slice A0 x.length c0] 32)).alloc (.cells #[.slice none 0 0] 32)) w1 := bel_grown (bel_alloc (Below.refl _ _) _) b_30 hg1 (fun g hg => by simp [Value.ownBlock] at hg; simp only [World.size_alloc]; omega)
 have hz1 := hb1.size
 simp only [World.size_alloc] at hz1
 obtain ⟨A1, c1, fp1, rfl, how1, hfr1⟩ := hr1.own b_37
 have hw1 : Below w.heap.size w w1 := bel_trans b_10 hb1
 obtain ⟨hc1, hf1⟩ := bcell hb1
 have z0 : w.heap.size < w1.heap.size := by omega
 have z1 : w.heap.size + 1 < w1.heap.size := by omega
 clear hr1
 go_wp2
 refine bodyPost_ret (v := .agg #[.slice A1 (List.length x) c1]) (by simp [results, Tryz.results57, go_sem, hc1, hf1, z0, z1]) rfl ?_
 exact ⟨_, fp1, rfl, Ty.ow_keep (by intro b hb'; have hb'' := (hfr1).2 b hb'; (try simp only [szz] at hb''); repeat (first | (with_reducible rfl) | (rw [Below.heap_setCell _ _ _ _ b_33]) | (rw [Below.heap_alloc _ _ _ (by simp only [World.size_alloc, World.size_setCell]; omega)]))) how1, (hfr1.mono b_32 b_32), b_10⟩
theorem Ty.ow_tail {w : World} {e : Ty} {b o n c : Nat} {x : List e.D} {fp : List Nat} {lo hi : Nat} (h : (Ty.sl e).ow w [.slice (some ⟨b, o, none⟩) n c] x fp) (h1 : 1 < x.length) (hf : FrI lo hi fp) :
  ∃ fp', (Ty.sl e).ow w [.slice (some ⟨b, o + e.sz, none⟩) (n - 1) (c - 1)] (x.drop 1) fp' ∧ FrI lo hi fp' := by
 obtain ⟨A, c', h2, h3, h4, h5, h6⟩ := h
 injection h2 with h2 _
 injection h2 with h2 hn2 h7
 subst h7
 have h3' : x.length ≤ c := h3
 have h5' : x.length ≤ 9223372036854775807 := h5
 rcases h6 with h6 | ⟨_, b', o', fs, hA, hfp, hc⟩
 ·exact absurd h6.1 (by show ¬ x.length = 0; omega)
 rw [← h2] at hA
 injection hA with hA
 injection hA with hb ho
 subst hb; subst ho
 have hl : (x.drop 1).length = x.length - 1 := List.length_drop
 have hr : List.range x.length = 0 :: (List.range (x.length - 1)).map Nat.succ := by
  rw [show x.length = (x.length - 1) + 1 from by omega, List.range_succ_eq_map, Nat.add_sub_cancel]
 have hfp2 : fp = b :: (fs 0 ++ (List.range (x.length - 1)).flatMap (fun i => fs (i + 1))) := by
  have hfp' : fp = b :: (List.range x.length).flatMap fs := hfp
  rw [hfp', hr, List.flatMap_cons, List.flatMap_map]
 refine ⟨b :: (List.range (x.drop 1).length).flatMap (fun i => fs (i + 1)), ⟨_, c - 1, ?_, ?_, ⟨by have := h4.1; omega, fun h => by cases h⟩, ?_, .inr ⟨?_, b, o + e.sz, fun i => fs (i + 1), rfl, rfl, fun i hi => ?_⟩⟩, ?_⟩
 ·rw [show n - 1 = List.length (x.drop 1) from by have : n = x.length := hn2; rw [hl]; omega]
 ·show (x.drop 1).length ≤ c - 1; omega
 ·show (x.drop 1).length ≤ _; omega
 ·show 0 < (x.drop 1).length; omega
 ·have hi' : i + 1 < x.length := by have : i < (x.drop 1).length := hi; omega
  obtain ⟨ds, g1, g2, g3⟩ := hc (i + 1) hi'
  refine ⟨ds, g1, fun j hj => ?_, ?_⟩
  ·have := g2 j hj
   rw [show o + e.sz + i * e.sz + j = o + (i + 1) * e.sz + j from by rw [Nat.succ_mul]; omega]
   exact this
  ·have : (x.drop 1)[i]'hi = x[i + 1] := by rw [List.getElem_drop]; congr 1; omega
   rw [this]; exact g3
 ·rw [hfp2] at hf
  rw [hl]
  refine ⟨?_, fun y hy => hf.2 y ?_⟩
  ·have h8 := hf.1
   rw [List.nodup_cons] at h8 ⊢
   exact ⟨fun hm => h8.1 (List.mem_append_right _ hm), (List.nodup_append.1 h8.2).2.1⟩
  ·rcases List.mem_cons.1 hy with rfl | hy
   ·exact List.mem_cons_self
   ·exact List.mem_cons_of_mem _ (List.mem_append_right _ hy)
end Go.Proofs.YtldgbnlcnlfmeaaGreat
namespace Go.Proofs.YtldgbnlcnlfmeaaGreat
open Go.RowKit
set_option linter.unusedVariables false
set_option linter.unusedSimpArgs false
set_option maxHeartbeats 2000000 in
theorem C_spec_ParseName (w : World) (s : List UInt8) (hs : s.length ≤ 1000000000) :
  Calls Tryz.prog 115 #[vS s] w (RetAgg2 w (.sl .str) (pnS s).1 (.bool (pnS s).2)) := by
 by_cases h1 : s = [47]
 ·have HY := Lib.hid (pnS_one h1)
  have q1 : (s == [47]) = true := by simp [h1]
  generalize pnS s = F at HY ⊢
  clear h1
  go_enter Tryz.func115, Tryz.ntmps115
  go_wp2
  refine bodyPost_ret (v := .tuple #[.agg #[.slice none 0 0], .bool true]) (by simp [results, Tryz.results115, go_sem]) rfl ?_
  rw [HY.out]
  exact ⟨[.slice none 0 0], [], rfl, rd_ow_nil _ _, FrI.nil _ _, b_10⟩
 have HNO := Lib.hid (fun h => pnS_no h1 h)
 have HYES := Lib.hid (fun h => pnS_yes h1 h)
 have q1 : (s == [47]) = false := by simp [h1]
 have hL := spl_pos 47 s
 have hcall : Calls Tryz.prog 153 #[vS s, .int .u8 47] (w.alloc (.cells #[.slice none 0 0] 32)) (RetRow flatS (w.alloc (.cells #[.slice none 0 0] 32)) 9 (spl 47 s)) := C_spec_l4Split _ s 47 hs
 generalize pnS s = F at HNO HYES ⊢
 generalize spl 47 s = L at HNO HYES hL hcall
 go_enter Tryz.func115, Tryz.ntmps115
 go_wp2_with fail
 refine hcall.mono ?_
 rintro e w1 ⟨v1, rfl, hr1, hb1⟩
 obtain ⟨A1, c1, fp1, rfl, how1, hfr1⟩ := hr1.own hb1.size
 have hcl : L.length ≤ c1 := by obtain ⟨A, c, h2, h3, _⟩ := how1; injection h2 with h2 _; injection h2 with _ _ h7; rw [h7]; exact h3
 obtain ⟨b, o, ds, rfl, hl, hcell, hrd⟩ := Ty.rd_at (Ty.ow_rd how1) hL
 obtain ⟨rfl, hsl⟩ := hrd
 have e0 : w1.cell? ⟨b, o, none⟩ = some (vS L[0]) := by simpa [Ty.sz] using hcell 0 b_36
 clear hcell hl hcall hr1 h1
 have hw1 : Below w.heap.size w w1 := bel_trans b_10 hb1
 have hB1 : Blk w1 w.heap.size 32 #[.slice none 0 0] := (Blk.new w _ _).below hb1 b_31
 obtain ⟨k1, f1, z1⟩ := bk1 hB1
 have hbl : b < w1.heap.size := World.block_lt_of_cell? _ _ e0
 have hs1 := hb1.size
 simp only [World.size_alloc] at hs1 hfr1
 by_cases h2 : 2 ≤ L.length
 ·obtain ⟨fp2, how2, hfr2⟩ := Ty.ow_tail how1 b_37 hfr1
  have ht : L.drop 1 = L.tail := by simp
  rw [ht] at how2
  have hhead : L.head? = some L[0] := by cases L with | nil => simp at hL | cons a l => rfl
  have q2 : ¬ ((L.length : Int) < 2) := by omega
  have q4 : ¬ c1 = 1 := by omega
  have q5 : decide ((L.length : Int) < 2) = false := by simp; omega
  clear ht
  have how2 : (Ty.sl .str).ow w1 [.slice (some ⟨b, o + 1, none⟩) (L.length - 1) (c1 - 1)] L.tail fp2 := how2
  by_cases h3 : L[0] = []
  ·have q3 : L[0].isEmpty = true := by rw [h3]; rfl
   generalize hvv : validName L.tail = vv at HNO HYES
   have HVV := Lib.hid hvv
   have HC : Hid ((decide (2 ≤ L.length) && decide (L.head? = some []) && vv) = vv) := by unfold Hid; rw [hhead, h3]; simp [h2]
   clear h3 hhead hvv
   go_wp2_with fail
   have hv := C_spec_ValidName (w1.alloc (.cells #[.slice (some ⟨b, o + 1, none⟩) (L.length - 1) (c1 - 1)] 32)) _ L.tail (Ty.rd_below b_10 (Ty.ow_rd how2))
   rw [HVV.out] at hv
   refine hv.mono ?_
   rintro e w2 ⟨rfl, hb2⟩
   clear hv
   have hs2 := hb2.size
   simp only [World.size_alloc] at hs2
   have hx2 : Below w1.heap.size w1 w2 := bel_trans (bel_alloc (Below.refl _ _) _) hb2
   have hw2 : Below w.heap.size w w2 := bel_trans hw1 hx2
   have hB2 := hB1.below hx2 z1
   have hP2 : Blk w2 w1.heap.size 32 #[.slice (some ⟨b, o + 1, none⟩) (L.length - 1) (c1 - 1)] := (Blk.new w1 _ _).below hb2 b_31
   obtain ⟨k2, f2, -⟩ := bk1 hB2
   have j2 : w2.cell? ⟨w1.heap.size, 0, none⟩ = some (.slice (some ⟨b, o + 1, none⟩) (L.length - 1) (c1 - 1)) := hP2.cell 0
   have z2 : w.heap.size < w2.heap.size := by omega
   have y2 : w1.heap.size < w2.heap.size := by omega
   clear k1 f1 e0
   cases vv with
   | false =>
    have HN := Lib.hid (HNO.out HC.out)
    go_wp2
    refine bodyPost_ret (v := .tuple #[.agg #[.slice none 0 0], .bool false]) (by simp [results, Tryz.results115, go_sem, k2, f2, z2]) rfl ?_
    rw [HN.out]
    exact ⟨[.slice none 0 0], [], rfl, rd_ow_nil _ _, FrI.nil _ _, b_10⟩
   | true =>
    have HY := Lib.hid (HYES.out HC.out)
    go_wp2
    refine bodyPost_ret (v := .tuple #[.agg #[.slice (some ⟨b, o + 1, none⟩) (L.length - 1) (c1 - 1)], .bool true]) (by simp [results, Tryz.results115, go_sem, k2, f2, z2]) rfl ?_
    rw [HY.out]
    exact ⟨[.slice (some ⟨b, o + 1, none⟩) (L.length - 1) (c1 - 1)], fp2, rfl, Ty.ow_keep (by intro b hb'; have hb'' := (hfr2).2 b hb'; (try simp only [szz] at hb''); repeat (first | (with_reducible rfl) | (rw [Below.heap_setCell _ _ _ _ b_33]) | (rw [Below.heap_alloc _ _ _ b_23]) | (rw [hx2.block _ b_32]))) how2, hfr2.mono b_32 b_32, b_10⟩
  ·have q3 : L[0].isEmpty = false := by cases hq : L[0] with | nil => exact absurd hq h3 | cons a l => rfl
   have HN := Lib.hid (HNO.out (by rw [hhead]; simp [h3]))
   clear h3
   go_wp2
   refine bodyPost_ret (v := .tuple #[.agg #[.slice none 0 0], .bool false]) (by simp [results, Tryz.results115, go_sem, k1, f1, z1]) rfl ?_
   rw [HN.out]
   exact ⟨[.slice none 0 0], [], rfl, rd_ow_nil _ _, FrI.nil _ _, b_10⟩
 ·have HN := Lib.hid (HNO.out (by simp; omega))
  have q2 : ((L.length : Int) < 2) := by omega
  go_wp2
  all_goals refine bodyPost_ret (v := .tuple #[.agg #[.slice none 0 0], .bool false]) (by simp [results, Tryz.results115, go_sem, k1, f1, z1]) rfl ?_
  all_goals rw [HN.out]
  all_goals exact ⟨[.slice none 0 0], [], rfl, rd_ow_nil _ _, FrI.nil _ _, b_10⟩
set_option maxHeartbeats 1000000 in
theorem C_spec_l4Of (w : World) (s : List UInt8) (hs : s.length ≤ 1000000000) :
  Calls Tryz.prog 62 #[vS s] w (RetAgg w (.sl .str) (pnS s).1) := by
 go_enter Tryz.func62, Tryz.ntmps62
 go_wp2_with fail
 refine (C_spec_ParseName _ s hs).mono ?_
 rintro e w1 ⟨cs1, fp1, rfl, how1, hfr1, hb1⟩
 obtain ⟨A1, c1, rfl⟩ := Ty.ow_slv how1
 have hw1 : Below w.heap.size w w1 := bel_trans b_10 hb1
 have hB1 : Blk w1 w.heap.size 32 #[.slice none 0 0] := (Blk.new w _ _).below hb1 b_31
 obtain ⟨k1, f1, z1⟩ := bk1 hB1
 have hs1 := hb1.size
 simp only [World.size_alloc] at hs1 hfr1
 go_wp2
 refine bodyPost_ret (v := .agg #[.slice A1 (List.length (pnS s).1) c1]) (by simp [results, Tryz.results62, go_sem, k1, f1, z1]) rfl ?_
 exact ⟨_, fp1, rfl, Ty.ow_keep (by intro b hb'; have hb'' := (hfr1).2 b hb'; (try simp only [szz] at hb''); repeat (first | (with_reducible rfl) | (rw [Below.heap_setCell _ _ _ _ b_33]) | (rw [Below.heap_alloc _ _ _ b_23]))) how1, hfr1.mono b_32 b_32, b_10⟩
theorem Row.dr {e : Ty} {F : Flat e} {B : Nat} {w w' : World} {base : Nat} {te : TypeId} {v : Value} {x : List e.D} (h : Row F w base te v x) (hd : Dr B w w') (hB : B < base) : Row F w' base te v x := by
 refine ⟨⟨h.1.1, ?_⟩, h.2⟩
 rcases h.1.2 with hn | ⟨g, cap, cur, rfl, hbg, hgg, rest⟩
 ·exact .inl hn
 ·exact .inr ⟨g, cap, cur, rfl, hbg, (Dr.block hd (Blk.lt (t := te) (cs := cur) hgg) b_37).trans hgg, rest⟩
theorem row_setN {e : Ty} {F : Flat e} {w : World} {base : Nat} {te : TypeId} {v : Value} {x : List e.D} (h : Row F w base te v x) {p : Addr} (hp : p.block < base) (u : Value) : Row F (w.setCell p u) base te v x := by
 refine ⟨⟨h.1.1, ?_⟩, h.2⟩
 rcases h.1.2 with hn | ⟨g, cap, cur, rfl, hbg, hgg, rest⟩
 ·exact .inl hn
 ·exact .inr ⟨g, cap, cur, rfl, hbg, (Below.heap_setCell _ _ _ _ b_37).trans hgg, rest⟩
theorem Row.rdH {e : Ty} {F : Flat e} {B : Nat} {w : World} {base : Nat} {te : TypeId} {v : Value} {x : List e.D} (h : Row F w base te v x) (hb : base ≤ w.heap.size) (hB : B < base) : (Ty.sl e).rd (hide B w) [v] x := by
 obtain ⟨A, c, fp, _, how, hfr⟩ := h.own hb
 exact Ty.ow_rd (ow_hideF how hfr hB)
theorem rd_lits (B : Nat) (w : World) (te : TypeId) (l : List (List UInt8)) (hl : ∀ s ∈ l, s.length ≤ 9223372036854775807) (hn : l.length ≤ 256) (hB : B < w.heap.size) :
  (Ty.sl .str).rd (hide B (w.alloc (.cells (l.map flatS.enc).toArray te))) [.slice (some ⟨w.heap.size, 0, none⟩) l.length l.length] l :=
 Row.rdH (F := flatS) (base := w.heap.size) ⟨World.ownsRow_lit w (l.map flatS.enc).toArray l.length (Nat.le_refl _) (by unfold maxLen; omega) b_38, hl⟩ b_31 hB
theorem rd_liti (B : Nat) (w : World) (te : TypeId) (l : List Int) (hl : ∀ s ∈ l, -9223372036854775808 ≤ s ∧ s ≤ 9223372036854775807) (hn : l.length ≤ 256) (hB : B < w.heap.size) :
  (Ty.sl .int).rd (hide B (w.alloc (.cells (l.map flatI.enc).toArray te))) [.slice (some ⟨w.heap.size, 0, none⟩) l.length l.length] l :=
 Row.rdH (F := flatI) (base := w.heap.size) ⟨World.ownsRow_lit w (l.map flatI.enc).toArray l.length (Nat.le_refl _) (by unfold maxLen; omega) b_38, hl⟩ b_31 hB
theorem rd_drewH {B : Nat} {w : World} {t : Ty} {cs : List Value} {x : t.D} (h : t.rd (hide B w) cs x) : t.rd (hide B w.drew) cs x := Dr.rd (Dr.drew (Dr.refl B w)) h
def RetRA (te : TypeId) (w : World) (x : List (List UInt8)) (e : Ending) (w' : World) : Prop := ∃ v, e = .returned (.agg #[v]) ∧ Row flatS w' w.heap.size te v x ∧ Below w.heap.size w w'
def RetRA2 (te : TypeId) (w : World) (x : List (List UInt8)) (u : Value) (e : Ending) (w' : World) : Prop := ∃ v, e = .returned (.tuple #[.agg #[v], u]) ∧ Row flatS w' w.heap.size te v x ∧ Below w.heap.size w w'
def apS (n : List (List UInt8)) (s : List UInt8) : List (List UInt8) × Bool := if validName (n ++ [s]) then (n ++ [s], true) else (n, false)
set_option maxHeartbeats 1000000 in
theorem C_spec_l4CopyR (w : World) (cs : List Value) (x : List (List UInt8)) (h : (Ty.sl .str).rd w cs x) (hx : x.length ≤ 1000000000000) :
  Calls Tryz.prog 57 #[.agg cs.toArray] w (RetRA 9 w x) := by
 obtain ⟨A0, c0, rfl⟩ := Ty.rd_slv h
 have hl0 : Row flatS (((w.alloc (.cells #[.slice A0 x.length c0] 32)).alloc (.cells #[.slice none 0 0] 32)).alloc (.cells #[] 9)) (w.heap.size + 1 + 1) 9 (.slice (some ⟨w.heap.size + 1 + 1, 0, none⟩) 0 0) [] := by
  have := Row.lit0 flatS ((w.alloc (.cells #[.slice A0 x.length c0] 32)).alloc (.cells #[.slice none 0 0] 32)) 9 (base := w.heap.size + 1 + 1) b_30
  simp only [World.size_alloc] at this
  exact this
 have HL0 := Lib.hid hl0
 clear hl0
 go_enter Tryz.func57, Tryz.ntmps57
 set_option maxRecDepth 100000 in go_wp2_with (at_builtin; go_loud (refine wpList_append_row rfl _ _ 30 rfl flatS (w.heap.size + 1 + 1) 9 info_str rfl Tryz.underlying30 _ _ [] x rfl rfl HL0.out (Ty.rd_below b_10 h) ?_ ?_ ?_ ?_))
 case refine_1 => simp only [List.length_nil]; omega
 case refine_2 => simp only [List.length_nil]; unfold maxLen; omega
 case refine_3 => simp only [World.size_alloc]; omega
 intro v1 w1 hr1 hg1
 have hb1 : Below ((w.alloc (.cells #[.slice A0 x.length c0] 32)).alloc (.cells #[.slice none 0 0] 32)).heap.size ((w.alloc (.cells #[.slice A0 x.length c0] 32)).alloc (.cells #[.slice none 0 0] 32)) w1 := bel_grown (bel_alloc (Below.refl _ _) _) b_30 hg1 (fun g hg => by simp [Value.ownBlock] at hg; simp only [World.size_alloc]; omega)
 have hz1 := hb1.size
 simp only [World.size_alloc] at hz1
 obtain ⟨A1, c1, fp1, rfl, how1, hfr1⟩ := hr1.own b_37
 have hw1 : Below w.heap.size w w1 := bel_trans b_10 hb1
 obtain ⟨hc1, hf1⟩ := bcell hb1
 have z0 : w.heap.size < w1.heap.size := by omega
 have z1 : w.heap.size + 1 < w1.heap.size := by omega
 have HR1 := Lib.hid hr1
 clear hr1
 obtain ⟨A2, c2, hv2⟩ := HR1.out.form
 go_wp2
 refine bodyPost_ret (v := .agg #[.slice A1 (List.length x) c1]) (by simp [results, Tryz.results57, go_sem, hc1, hf1, z0, z1]) rfl ?_
 exact ⟨_, rfl, (row_setN HR1.out b_34 _).mono b_37, b_10⟩
set_option maxHeartbeats 2000000 in
theorem C_spec_AppendPart (w : World) (v : Value) (n : List (List UInt8)) (s : List UInt8) (h : (Ty.sl .str).rd w [v] n) (hn : n.length ≤ 1000000) (hs : s.length ≤ 1000000) :
  Calls Tryz.prog 135 #[.agg #[v], vS s] w (RetRA2 9 w (apS n s).1 (.bool (apS n s).2)) := by
 obtain ⟨A0, c0, rfl, _, _, _⟩ := Ty.rd_sl h
 have hl0 : Row flatS (((w.alloc (.cells #[.slice A0 n.length c0] 32)).alloc (.cells #[.slice none 0 0] 32)).alloc (.cells #[] 9)) (w.heap.size + 1 + 1) 9 (.slice (some ⟨w.heap.size + 1 + 1, 0, none⟩) 0 0) [] := by
  have := Row.lit0 flatS ((w.alloc (.cells #[.slice A0 n.length c0] 32)).alloc (.cells #[.slice none 0 0] 32)) 9 (base := w.heap.size + 1 + 1) b_30
  simp only [World.size_alloc] at this
  exact this
 have HL0 := Lib.hid hl0
 clear hl0
 go_enter Tryz.func135, Tryz.ntmps135
 set_option maxRecDepth 100000 in go_wp2_with (at_builtin; go_loud (refine wpList_append_row rfl _ _ 30 rfl flatS (w.heap.size + 1 + 1) 9 info_str rfl Tryz.underlying30 _ _ [] n rfl rfl HL0.out (Ty.rd_below b_10 h) ?_ ?_ ?_ ?_))
 case refine_1 => simp only [List.length_nil]; omega
 case refine_2 => simp only [List.length_nil]; unfold maxLen; omega
 case refine_3 => simp only [World.size_alloc]; omega
 intro v1 w1 hr1 hg1
 have hb1 : Below ((w.alloc (.cells #[.slice A0 n.length c0] 32)).alloc (.cells #[.slice none 0 0] 32)).heap.size ((w.alloc (.cells #[.slice A0 n.length c0] 32)).alloc (.cells #[.slice none 0 0] 32)) w1 := bel_grown (bel_alloc (Below.refl _ _) _) b_30 hg1 (fun g hg => by simp [Value.ownBlock] at hg; simp only [World.size_alloc]; omega)
 have hz1 := hb1.size
 simp only [World.size_alloc] at hz1
 have hw1 : Below w.heap.size w w1 := bel_trans b_10 hb1
 have HR1 := Lib.hid (show Row flatS w1 (w.heap.size + 1 + 1) 9 v1 n from hr1)
 have hA1 : Blk w1 w.heap.size 32 #[.slice A0 n.length c0] := ((Blk.new w _ _).alloc _).below hb1 b_30
 have hO1 : Blk w1 (w.heap.size + 1) 32 #[.slice none 0 0] := by
  have := (Blk.new (w.alloc (.cells #[.slice A0 n.length c0] 32)) 32 #[.slice none 0 0]).below hb1 b_30
  rwa [World.size_alloc] at this
 clear hr1
 have HL1 := Lib.hid (Row.lit1 flatS w1 9 s (by show s.length ≤ _; omega) (Nat.le_refl _))
 set_option maxRecDepth 100000 in go_wp2_with (at_builtin; go_loud (refine wpList_append_row rfl _ _ 30 rfl flatS (w.heap.size + 1 + 1) 9 info_str rfl Tryz.underlying30 _ _ n [s] rfl rfl (HR1.out.below b_10) (HL1.out.rd b_32) ?_ ?_ ?_ ?_))
 case refine_1 => simp only [List.length_singleton]; omega
 case refine_2 => simp only [List.length_singleton]; unfold maxLen; omega
 case refine_3 => simp only [World.size_alloc]; omega
 intro v2 w2 hr2 hg2
 have hne : ∀ g, g < w.heap.size + 1 + 1 → some g ≠ v1.ownBlock := fun g hg e => by have := (HR1.out.block _ e.symm).1; omega
 have hA2 : Blk w2 w.heap.size 32 #[.slice A0 n.length c0] := (hA1.alloc _).grown hg2 (hne _ b_37)
 have hO2 : Blk w2 (w.heap.size + 1) 32 #[.slice none 0 0] := (hO1.alloc _).grown hg2 (hne _ b_37)
 have hw2 : Below w.heap.size w w2 := bel_grown (bel_alloc hw1 _) b_30 hg2 (fun g hg => by have := (HR1.out.block g hg).1; omega)
 have hz2 := hg2.size
 simp only [World.size_alloc] at hz2
 obtain ⟨A2, c2, rfl⟩ := hr2.form
 have HR2 := Lib.hid hr2
 have hm2 := HR2.out
 have how2 := hm2.own b_37
 obtain ⟨A2', c2', fp2, hv2, how2, hfr2⟩ := how2
 have hval := C_spec_ValidName (w2.alloc (.cells #[.slice A2 (n ++ [s]).length c2] 32)) [.slice A2 (n ++ [s]).length c2] (n ++ [s]) (Ty.rd_below b_10 (Ty.ow_rd how2))
 have HNO := Lib.hid (fun h : validName (n ++ [s]) = false => show apS n s = (n, false) from by unfold apS; rw [h]; rfl)
 have HYES := Lib.hid (fun h : validName (n ++ [s]) = true => show apS n s = (n ++ [s], true) from by unfold apS; rw [if_pos h])
 generalize validName (n ++ [s]) = vv at hval HNO HYES
 have hk2 : w2.cell? ⟨w.heap.size, 0, none⟩ = some (.slice A0 n.length c0) := hA2.cell 0
 clear hr2 hm2 hg2 hne
 generalize hnn : (n ++ [s]).length = nn at *
 go_wp2_with fail
 refine hval.mono ?_
 rintro e w3 ⟨rfl, hb3⟩
 have hs3 := hb3.size
 simp only [World.size_alloc] at hs3
 have hx3 : Below w2.heap.size w2 w3 := bel_trans (bel_alloc (Below.refl _ _) _) hb3
 have hw3 : Below w.heap.size w w3 := bel_trans hw2 hx3
 have hA3 := hA2.below hx3 b_37
 have hO3 := hO2.below hx3 b_37
 have hP3 : Blk w3 w2.heap.size 32 #[.slice A2 nn c2] := (Blk.new w2 _ _).below hb3 b_31
 have kA3 : w3.cell? ⟨w.heap.size, 0, none⟩ = some (.slice A0 n.length c0) := hA3.cell 0
 obtain ⟨kO3, fO3, -⟩ := bk1 hO3
 have kP3 : w3.cell? ⟨w2.heap.size, 0, none⟩ = some (.slice A2 nn c2) := hP3.cell 0
 have z3 : w.heap.size + 1 < w3.heap.size := by omega
 have y3 : w2.heap.size < w3.heap.size := by omega
 clear hk2 hval
 cases vv with
 | true =>
  have HY := Lib.hid (HYES.out rfl)
  go_wp2
  refine bodyPost_ret (v := .tuple #[.agg #[.slice A2 nn c2], .bool true]) (by simp [results, Tryz.results135, go_sem, kO3, fO3, z3]) rfl ?_
  rw [HY.out]
  exact ⟨_, rfl, (row_setN (HR2.out.below hx3) b_34 _).mono b_37, b_10⟩
 | false =>
  have HN := Lib.hid (HNO.out rfl)
  go_wp2_with fail
  refine (C_spec_l4CopyR _ _ n (Ty.rd_below hw3 h) b_37).mono ?_
  rintro e w4 ⟨v4, rfl, hr4, hb4⟩
  have hO4 := hO3.below hb4 z3
  obtain ⟨kO4, fO4, z4⟩ := bk1 hO4
  have hs4 := hb4.size
  have HR4 := Lib.hid hr4
  obtain ⟨A4, c4, rfl⟩ := hr4.form
  clear hr4 kO3 fO3
  go_wp2
  refine bodyPost_ret (v := .tuple #[.agg #[.slice A4 n.length c4], .bool false]) (by simp [results, Tryz.results135, go_sem, kO4, fO4, z4]) rfl ?_
  rw [HN.out]
  exact ⟨_, rfl, (row_setN HR4.out b_34 _).mono b_37, bel_set (bel_trans hw3 hb4) b_34 _⟩
end Go.Proofs.YtldgbnlcnlfmeaaGreat
