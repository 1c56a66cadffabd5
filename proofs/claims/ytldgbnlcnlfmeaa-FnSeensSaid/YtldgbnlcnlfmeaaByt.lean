/- Rows of bytes: clone, varint, bytes, ints, names. -/
import Derived.Test.YtldgbnlcnlfmeaaInt
import Derived.Lib.SliceRun
import Derived.Laws.Bits128
namespace Go.Proofs.Ytldgbnlcnlfmeaa
open Go.RowKit
set_option linter.unusedVariables false
set_option linter.unusedSimpArgs false

set_option maxHeartbeats 1000000 in
theorem C_slices_Clone_byte (w : World) (v : Value) (x : List UInt8) (h : (Ty.sl .byte).rd w [v] x) (hx : x.length ≤ 1099511627776) : Calls Try.prog 157 #[v] w (RetRow flatB w 5 x) := by
  obtain ⟨A, c, rfl, hc, hm, hn⟩ := Ty.rd_sl h
  cases A with
  | none =>
    obtain ⟨rfl, rfl⟩ := Ty.rd_nil h
    show Calls Try.prog 157 #[.slice none 0 0] w _
    clear h hx hc hm hn
    have q22 : ∀ (w : World) (a : Option Addr) (n c n' c' : Nat), (binOp .eql 22 (.slice a n c) (.slice none n' c')).run Try.prog w = .ok (.bool a.isNone) w := fun w a n c n' c' => Lib.run_eql_slice_nil w _ _ a n c n' c' Try.underlying22
    go_enter Try.func157, Try.ntmps157
    go_wp2
    go_ret
    exact ⟨_, rfl, Row.nil _ _ _ _, Below.refl _ _⟩
  | some a =>
    have q22 : ∀ (w : World) (a : Option Addr) (n c n' c' : Nat), (binOp .eql 22 (.slice a n c) (.slice none n' c')).run Try.prog w = .ok (.bool a.isNone) w := fun w a n c n' c' => Lib.run_eql_slice_nil w _ _ a n c n' c' Try.underlying22
    go_enter Try.func157, Try.ntmps157
    set_option maxRecDepth 100000 in go_wp2_with (at_builtin; go_loud (refine wpList_append_row rfl _ _ 22 rfl flatB w.heap.size 5 infoB rfl Try.underlying22 _ _ [] x rfl rfl (Row.lit0 flatB w 5 (Nat.le_refl _)) (Ty.rd_below (by repeat' (first | (with_reducible exact Below.refl _ _) | (with_reducible assumption) | (with_reducible refine bel_set ?_ (by (try dsimp only); omega) _) | (with_reducible refine bel_alloc ?_ _) | (with_reducible refine bel_drewN ?_ _) | (with_reducible refine bel_drew ?_))) h) ?_ ?_ ?_ ?_))
    case refine_1 => simp only [List.length_nil]; omega
    case refine_2 => simp only [List.length_nil]; unfold maxLen; omega
    case refine_3 => simp only [World.size_alloc]; omega
    case refine_4 =>
      intro v' w' hr' hg'
      have hb' : Below w.heap.size w w' := bel_grown (by repeat' (first | (with_reducible exact Below.refl _ _) | (with_reducible assumption) | (with_reducible refine bel_set ?_ (by (try dsimp only); omega) _) | (with_reducible refine bel_alloc ?_ _) | (with_reducible refine bel_drewN ?_ _) | (with_reducible refine bel_drew ?_))) (by (try simp only [World.size_alloc, World.size_setCell, size_drewN, World.size_drew]); omega) hg' (fun g hg => by simp [Value.ownBlock] at hg; omega)
      have HR' := Lib.hid hr'
      clear hr'
      go_wp2
      go_ret
      exact ⟨_, rfl, HR'.out, hb'⟩
def hiByte (k : Nat) : UInt8 := UInt8.ofNat (k % 128 + 128)
theorem hiByte_nat (k : Nat) : ((hiByte k).toNat : Int) = ((k % 128 + 128 : Nat) : Int) := by unfold hiByte; rw [UInt8.toNat_ofNat']; omega
def varint (n : Nat) : List UInt8 := if h : n < 128 then [UInt8.ofNat n] else hiByte n :: varint (n / 128)
termination_by n
decreasing_by omega
theorem varint_len (n : Nat) : (varint n).length ≤ n + 1 := by
  induction n using Nat.strongRecOn with
  | _ n ih =>
    rw [varint]
    by_cases h : n < 128
    · simp [h]
    · simp only [h, dif_neg, not_false_eq_true, List.length_cons]
      have := ih (n / 128) (by omega)
      omega
def f_AppendVarint (b : List UInt8) (n : Int) : List UInt8 := if 0 ≤ n ∧ n ≤ 1000000000000 then b ++ varint n.toNat else b
theorem or128 (k : Nat) : bits BinOp.or IntKind.u8 ((k : Int) % 256) 128 = ((k % 128 + 128 : Nat) : Int) := by
  have h : ∀ r : Fin 256, bits BinOp.or IntKind.u8 ((r.val : Nat) : Int) 128 = ((r.val % 128 + 128 : Nat) : Int) := by decide +kernel
  have h2 := h ⟨k % 256, Nat.mod_lt _ (by decide)⟩
  simp only at h2
  rw [show (k : Int) % 256 = ((k % 256 : Nat) : Int) from rfl, h2]
  omega
theorem or128s (k : Nat) : bits BinOp.or IntKind.i64 (bits BinOp.and IntKind.i64 (k : Int) 127) 128 % 256 = ((k % 128 + 128 : Nat) : Int) := by
  have h : ∀ r : Fin 128, bits BinOp.or IntKind.i64 ((r.val : Nat) : Int) 128 % 256 = ((r.val + 128 : Nat) : Int) := by decide +kernel
  have h2 := h ⟨k % 128, Nat.mod_lt _ (by decide)⟩
  simp only at h2
  rw [i64_and127, show (k : Int) % 128 = ((k % 128 : Nat) : Int) from rfl, h2]
set_option maxHeartbeats 1000000 in
theorem C_impl_AppendVarint (w : World) (v : Value) (b : List UInt8) (n : Int) (h : (Ty.sl .byte).rd w [v] b) (hx : b.length ≤ 1099511627776) (hi : -9223372036854775808 ≤ n ∧ n ≤ 9223372036854775807) :
    Calls Try.prog 152 #[v, .int .i64 n] w (RetRow flatB w 5 (f_AppendVarint b n)) := by
  go_enter Try.func152, Try.ntmps152
  go_wp2_with fail
  refine (C_slices_Clone_byte _ _ _ h hx).mono ?_
  rintro e w1 ⟨v1, rfl, hr1, hb1⟩
  go_wp2_with fail
  refine (C_impl_InRange _ _ _ _).mono ?_
  rintro e w2 ⟨rfl, rfl⟩
  cases hq : inR n 0 1000000000000
  · have HQ := Lib.hid hq
    have HR := Lib.hid hr1
    clear hq hr1
    go_wp2
    go_ret
    exact ⟨_, rfl, by unfold f_AppendVarint; rw [if_neg (by have := HQ.out; unfold inR at this; simp at this; omega)]; exact HR.out, hb1⟩
  · obtain ⟨m, rfl, hm⟩ : ∃ m : Nat, n = m ∧ m ≤ 1000000000000 := ⟨n.toNat, by unfold inR at hq; simp at hq; omega, by unfold inR at hq; simp at hq; omega⟩
    have HR := Lib.hid hr1
    clear hr1
    go_wp2
    go_loopw [1, 5] (fun q l wr => ∃ (k : Nat) (d : List UInt8), k ≤ 1000000000000 ∧ q = .int .i64 k ∧ Row flatB wr w.heap.size 5 l (b ++ d) ∧ d ++ varint k = varint m ∧ Below w.heap.size w wr) (fun q _ _ => (intOf q).toNat)
    case atStart => exact ⟨m, [], hm, rfl, by rw [List.append_nil]; exact HR.out, rfl, hb1⟩
    case round =>
      obtain ⟨k, d, hk, rfl, hr, hd, hb⟩ := hrel
      have hdl := Lib.hid (congrArg List.length hd)
      have HD := Lib.hid hd
      clear hd
      have HR := Lib.hid hr
      clear hr
      by_cases hlt : k < 128
      · have hkc : (k : Int) < 128 := by omega
        have hv : varint k = [UInt8.ofNat k] := by rw [varint, dif_pos hlt]
        have hu8 : ((UInt8.ofNat k).toNat : Int) = k := by rw [UInt8.toNat_ofNat']; omega
        have HV := Lib.hid hv
        clear hv
        have hlb : d.length + 1 ≤ m + 1 := by have h1 := hdl.out; rw [HV.out, List.length_append] at h1; have := varint_len m; simp at h1; omega
        have hb1 : Row flatB (wr.alloc (.cells #[.int .u8 (k : Int)] 5)) wr.heap.size 5 (.slice (some ⟨wr.heap.size, 0, none⟩) 1 1) [UInt8.ofNat k] := by
          have := Row.lit1 flatB wr 5 (UInt8.ofNat k) trivial (Nat.le_refl _)
          rwa [show flatB.enc (UInt8.ofNat k) = .int .u8 (k : Int) from congrArg (Value.int .u8) hu8] at this
        have HB := Lib.hid hb1
        clear hb1
        have hsz := hb.size
        clear hu8
        set_option maxRecDepth 100000 in go_wp2_with (at_builtin; go_loud (refine wpList_append_row rfl _ _ 22 rfl flatB w.heap.size 5 infoB rfl Try.underlying22 _ _ (b ++ d) [UInt8.ofNat k] rfl rfl (HR.out.below (by repeat' (first | (with_reducible exact Below.refl _ _) | (with_reducible assumption) | (with_reducible refine bel_set ?_ (by (try dsimp only); omega) _) | (with_reducible refine bel_alloc ?_ _) | (with_reducible refine bel_drewN ?_ _) | (with_reducible refine bel_drew ?_)))) (HB.out.rd (by (try simp only [World.size_alloc, World.size_setCell, size_drewN, World.size_drew]); omega)) ?_ ?_ ?_ ?_))
        case refine_1 => simp only [List.length_append, List.length_cons, List.length_nil]; omega
        case refine_2 => simp only [List.length_append, List.length_cons, List.length_nil]; unfold maxLen; omega
        case refine_3 => simp only [World.size_alloc]; omega
        case refine_4 =>
          intro v' w' hr' hg'
          have hb' : Below w.heap.size w w' := bel_grown (bel_alloc hb _) (by (try simp only [World.size_alloc, World.size_setCell, size_drewN, World.size_drew]); omega) hg' (fun g hg => (HR.out.block g hg).1)
          have HR' := Lib.hid hr'
          clear hr'
          go_wp2
          go_ret
          exact ⟨_, rfl, by unfold f_AppendVarint; rw [if_pos (by omega), show ((m : Int)).toNat = m from rfl, ← HD.out, HV.out]; exact HR'.out, hb'⟩
      · have hkc : (128 : Int) ≤ k := by omega
        have hv : varint k = hiByte k :: varint (k / 128) := by rw [varint, dif_neg hlt]
        have hu8 := hiByte_nat k
        have HV := Lib.hid hv
        clear hv
        have hlb : d.length + 1 ≤ m + 1 := by have h1 := hdl.out; rw [HV.out, List.length_append] at h1; have := varint_len m; simp at h1; omega
        have hb1 : Row flatB (wr.alloc (.cells #[.int .u8 (bits BinOp.or IntKind.u8 ((k : Int) % 256) 128)] 5)) wr.heap.size 5 (.slice (some ⟨wr.heap.size, 0, none⟩) 1 1) [hiByte k] := by
          have := Row.lit1 flatB wr 5 (hiByte k) trivial (Nat.le_refl _)
          rwa [show flatB.enc (hiByte k) = .int .u8 (bits BinOp.or IntKind.u8 ((k : Int) % 256) 128) from congrArg (Value.int .u8) (hu8.trans (or128 k).symm)] at this
        have HB := Lib.hid hb1
        clear hb1
        have hsz := hb.size
        clear hu8
        set_option maxRecDepth 100000 in go_wp2_with (at_builtin; go_loud (refine wpList_append_row rfl _ _ 22 rfl flatB w.heap.size 5 infoB rfl Try.underlying22 _ _ (b ++ d) [hiByte k] rfl rfl (HR.out.below (by repeat' (first | (with_reducible exact Below.refl _ _) | (with_reducible assumption) | (with_reducible refine bel_set ?_ (by (try dsimp only); omega) _) | (with_reducible refine bel_alloc ?_ _) | (with_reducible refine bel_drewN ?_ _) | (with_reducible refine bel_drew ?_)))) (HB.out.rd (by (try simp only [World.size_alloc, World.size_setCell, size_drewN, World.size_drew]); omega)) ?_ ?_ ?_ ?_))
        case refine_1 => simp only [List.length_append, List.length_cons, List.length_nil]; omega
        case refine_2 => simp only [List.length_append, List.length_cons, List.length_nil]; unfold maxLen; omega
        case refine_3 => simp only [World.size_alloc]; omega
        case refine_4 =>
          intro v' w' hr' hg'
          have hb' : Below w.heap.size w w' := bel_grown (bel_alloc hb _) (by (try simp only [World.size_alloc, World.size_setCell, size_drewN, World.size_drew]); omega) hg' (fun g hg => (HR.out.block g hg).1)
          have HR' := Lib.hid hr'
          clear hr'
          go_wp2
          exact ⟨⟨k / 128, d ++ [hiByte k], by omega, by first | rfl | go_num, by exact HR'.out, by rw [List.append_assoc, ← HD.out, HV.out]; rfl, hb'⟩, by simp [intOf]; omega⟩
set_option maxHeartbeats 1000000 in
theorem C_spec_AppendVarint (w : World) (v : Value) (b : List UInt8) (n : Int) (h : (Ty.sl .byte).rd w [v] b) (hx : b.length ≤ 1099511627776) (hi : -9223372036854775808 ≤ n ∧ n ≤ 9223372036854775807) :
    Calls Try.prog 165 #[v, .int .i64 n] w (RetRow flatB w 5 (f_AppendVarint b n)) := by
  go_enter Try.func165, Try.ntmps165
  set_option maxRecDepth 100000 in go_wp2_with (at_builtin; go_loud (refine wpList_append_row rfl _ _ 22 rfl flatB w.heap.size 5 infoB rfl Try.underlying22 _ _ [] b rfl rfl (Row.lit0 flatB w 5 (Nat.le_refl _)) (Ty.rd_below (by repeat' (first | (with_reducible exact Below.refl _ _) | (with_reducible assumption) | (with_reducible refine bel_set ?_ (by (try dsimp only); omega) _) | (with_reducible refine bel_alloc ?_ _) | (with_reducible refine bel_drewN ?_ _) | (with_reducible refine bel_drew ?_))) h) ?_ ?_ ?_ ?_))
  case refine_1 => simp only [List.length_nil]; omega
  case refine_2 => simp only [List.length_nil]; unfold maxLen; omega
  case refine_3 => simp only [World.size_alloc]; omega
  intro v1 w1 hr1 hg1
  have hb1 : Below w.heap.size w w1 := bel_grown (by repeat' (first | (with_reducible exact Below.refl _ _) | (with_reducible assumption) | (with_reducible refine bel_set ?_ (by (try dsimp only); omega) _) | (with_reducible refine bel_alloc ?_ _) | (with_reducible refine bel_drewN ?_ _) | (with_reducible refine bel_drew ?_))) (by (try simp only [World.size_alloc, World.size_setCell, size_drewN, World.size_drew]); omega) hg1 (fun g hg => by simp [Value.ownBlock] at hg; omega)
  go_wp2_with fail
  refine (C_spec_l1In _ _ _ _).mono ?_
  rintro e w2 ⟨rfl, rfl⟩
  cases hq : inR n 0 1000000000000
  · have HQ := Lib.hid hq
    have HR := Lib.hid hr1
    clear hq hr1
    go_wp2
    go_ret
    exact ⟨_, rfl, by unfold f_AppendVarint; rw [if_neg (by have := HQ.out; unfold inR at this; simp at this; omega)]; exact HR.out, hb1⟩
  · obtain ⟨m, rfl, hm⟩ : ∃ m : Nat, n = m ∧ m ≤ 1000000000000 := ⟨n.toNat, by unfold inR at hq; simp at hq; omega, by unfold inR at hq; simp at hq; omega⟩
    have HR := Lib.hid hr1
    clear hr1
    go_wp2
    go_loopw [1, 5] (fun q l wr => ∃ (k : Nat) (d : List UInt8), k ≤ 1000000000000 ∧ q = .int .i64 k ∧ Row flatB wr w.heap.size 5 l (b ++ d) ∧ d ++ varint k = varint m ∧ Below w.heap.size w wr) (fun q _ _ => (intOf q).toNat)
    case atStart => exact ⟨m, [], hm, rfl, by rw [List.append_nil]; exact HR.out, rfl, hb1⟩
    case round =>
      obtain ⟨k, d, hk, rfl, hr, hd, hb⟩ := hrel
      have hdl := Lib.hid (congrArg List.length hd)
      have HD := Lib.hid hd
      clear hd
      have HR := Lib.hid hr
      clear hr
      by_cases hlt : k < 128
      · have hkc : (k : Int) < 128 := by omega
        have hv : varint k = [UInt8.ofNat k] := by rw [varint, dif_pos hlt]
        have hu8 : ((UInt8.ofNat k).toNat : Int) = k := by rw [UInt8.toNat_ofNat']; omega
        have HV := Lib.hid hv
        clear hv
        have hlb : d.length + 1 ≤ m + 1 := by have h1 := hdl.out; rw [HV.out, List.length_append] at h1; have := varint_len m; simp at h1; omega
        have hb1 : Row flatB (wr.alloc (.cells #[.int .u8 (k : Int)] 5)) wr.heap.size 5 (.slice (some ⟨wr.heap.size, 0, none⟩) 1 1) [UInt8.ofNat k] := by
          have := Row.lit1 flatB wr 5 (UInt8.ofNat k) trivial (Nat.le_refl _)
          rwa [show flatB.enc (UInt8.ofNat k) = .int .u8 (k : Int) from congrArg (Value.int .u8) hu8] at this
        have HB := Lib.hid hb1
        clear hb1
        have hsz := hb.size
        clear hu8
        set_option maxRecDepth 100000 in go_wp2_with (at_builtin; go_loud (refine wpList_append_row rfl _ _ 22 rfl flatB w.heap.size 5 infoB rfl Try.underlying22 _ _ (b ++ d) [UInt8.ofNat k] rfl rfl (HR.out.below (by repeat' (first | (with_reducible exact Below.refl _ _) | (with_reducible assumption) | (with_reducible refine bel_set ?_ (by (try dsimp only); omega) _) | (with_reducible refine bel_alloc ?_ _) | (with_reducible refine bel_drewN ?_ _) | (with_reducible refine bel_drew ?_)))) (HB.out.rd (by (try simp only [World.size_alloc, World.size_setCell, size_drewN, World.size_drew]); omega)) ?_ ?_ ?_ ?_))
        case refine_1 => simp only [List.length_append, List.length_cons, List.length_nil]; omega
        case refine_2 => simp only [List.length_append, List.length_cons, List.length_nil]; unfold maxLen; omega
        case refine_3 => simp only [World.size_alloc]; omega
        case refine_4 =>
          intro v' w' hr' hg'
          have hb' : Below w.heap.size w w' := bel_grown (bel_alloc hb _) (by (try simp only [World.size_alloc, World.size_setCell, size_drewN, World.size_drew]); omega) hg' (fun g hg => (HR.out.block g hg).1)
          have HR' := Lib.hid hr'
          clear hr'
          go_wp2
          go_ret
          exact ⟨_, rfl, by unfold f_AppendVarint; rw [if_pos (by omega), show ((m : Int)).toNat = m from rfl, ← HD.out, HV.out]; exact HR'.out, hb'⟩
      · have hkc : (128 : Int) ≤ k := by omega
        have hv : varint k = hiByte k :: varint (k / 128) := by rw [varint, dif_neg hlt]
        have hu8 := hiByte_nat k
        have HV := Lib.hid hv
        clear hv
        have hlb : d.length + 1 ≤ m + 1 := by have h1 := hdl.out; rw [HV.out, List.length_append] at h1; have := varint_len m; simp at h1; omega
        have hb1 : Row flatB (wr.alloc (.cells #[.int .u8 (bits BinOp.or IntKind.i64 (bits BinOp.and IntKind.i64 (k : Int) 127) 128 % 256)] 5)) wr.heap.size 5 (.slice (some ⟨wr.heap.size, 0, none⟩) 1 1) [hiByte k] := by
          have := Row.lit1 flatB wr 5 (hiByte k) trivial (Nat.le_refl _)
          rwa [show flatB.enc (hiByte k) = .int .u8 (bits BinOp.or IntKind.i64 (bits BinOp.and IntKind.i64 (k : Int) 127) 128 % 256) from congrArg (Value.int .u8) (hu8.trans (or128s k).symm)] at this
        have HB := Lib.hid hb1
        clear hb1
        have hsz := hb.size
        clear hu8
        set_option maxRecDepth 100000 in go_wp2_with (at_builtin; go_loud (refine wpList_append_row rfl _ _ 22 rfl flatB w.heap.size 5 infoB rfl Try.underlying22 _ _ (b ++ d) [hiByte k] rfl rfl (HR.out.below (by repeat' (first | (with_reducible exact Below.refl _ _) | (with_reducible assumption) | (with_reducible refine bel_set ?_ (by (try dsimp only); omega) _) | (with_reducible refine bel_alloc ?_ _) | (with_reducible refine bel_drewN ?_ _) | (with_reducible refine bel_drew ?_)))) (HB.out.rd (by (try simp only [World.size_alloc, World.size_setCell, size_drewN, World.size_drew]); omega)) ?_ ?_ ?_ ?_))
        case refine_1 => simp only [List.length_append, List.length_cons, List.length_nil]; omega
        case refine_2 => simp only [List.length_append, List.length_cons, List.length_nil]; unfold maxLen; omega
        case refine_3 => simp only [World.size_alloc]; omega
        case refine_4 =>
          intro v' w' hr' hg'
          have hb' : Below w.heap.size w w' := bel_grown (bel_alloc hb _) (by (try simp only [World.size_alloc, World.size_setCell, size_drewN, World.size_drew]); omega) hg' (fun g hg => (HR.out.block g hg).1)
          have HR' := Lib.hid hr'
          clear hr'
          go_wp2
          exact ⟨⟨k / 128, d ++ [hiByte k], by omega, by first | rfl | go_num, by exact HR'.out, by rw [List.append_assoc, ← HD.out, HV.out]; rfl, hb'⟩, by simp [intOf]; omega⟩
end Go.Proofs.Ytldgbnlcnlfmeaa
