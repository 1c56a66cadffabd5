/- Texts of this claim, merged by a program: Byt Cpy Asn Pnm Nmd Nmn Dow Bdr Drf Drg. -/
import Derived.Test.YtldgbnlcnlfmeaaGreatMf1
import Derived.Lib.SliceRun
import Derived.Laws.Bits128
import Derived.Test.YtldgbnlcnlfmeaaGreatMf0
import Derived.Deep.RegionHeld3
/- Rows of bytes: clone, varint, bytes, ints, names. -/
namespace Go.Proofs.YtldgbnlcnlfmeaaGreat
open Go.RowKit
set_option linter.unusedVariables false
set_option linter.unusedSimpArgs false

set_option maxHeartbeats 1000000 in
theorem C_slices_Clone_byte (w : World) (v : Value) (x : List UInt8) (h : (Ty.sl .byte).rd w [v] x) (hx : x.length ≤ 1099511627776) : Calls Tryz.prog 125 #[v] w (RetRow flatB w 5 x) := by
  obtain ⟨A, c, rfl, hc, hm, hn⟩ := Ty.rd_sl h
  cases A with
  | none =>
    obtain ⟨rfl, rfl⟩ := Ty.rd_nil h
    show Calls Tryz.prog 125 #[.slice none 0 0] w _
    clear h hx hc hm hn
    have q22 : ∀ (w : World) (a : Option Addr) (n c n' c' : Nat), (binOp .eql 22 (.slice a n c) (.slice none n' c')).run Tryz.prog w = .ok (.bool a.isNone) w := fun w a n c n' c' => Lib.run_eql_slice_nil w _ _ a n c n' c' Tryz.underlying22
    go_enter Tryz.func125, Tryz.ntmps125
    go_wp2
    go_ret
    exact ⟨_, rfl, Row.nil _ _ _ _, Below.refl _ _⟩
  | some a =>
    have q22 : ∀ (w : World) (a : Option Addr) (n c n' c' : Nat), (binOp .eql 22 (.slice a n c) (.slice none n' c')).run Tryz.prog w = .ok (.bool a.isNone) w := fun w a n c n' c' => Lib.run_eql_slice_nil w _ _ a n c n' c' Tryz.underlying22
    go_enter Tryz.func125, Tryz.ntmps125
    set_option maxRecDepth 100000 in go_wp2_with (at_builtin; go_loud (refine wpList_append_row rfl _ _ 22 rfl flatB w.heap.size 5 infoB rfl Tryz.underlying22 _ _ [] x rfl rfl (Row.lit0 flatB w 5 (Nat.le_refl _)) (Ty.rd_below (by repeat' (first | (with_reducible exact Below.refl _ _) | (with_reducible assumption) | (with_reducible refine bel_set ?_ (by (try dsimp only); omega) _) | (with_reducible refine bel_alloc ?_ _) | (with_reducible refine bel_drewN ?_ _) | (with_reducible refine bel_drew ?_))) h) ?_ ?_ ?_ ?_))
    case refine_1 => simp only [List.length_nil]; omega
    case refine_2 => simp only [List.length_nil]; unfold maxLen; omega
    case refine_3 => simp only [World.size_alloc]; omega
    case refine_4 =>
      intro v' w' hr' hg'
      have hb' : Below w.heap.size w w' := bel_grown (by repeat' (first | (with_reducible exact Below.refl _ _) | (with_reducible assumption) | (with_reducible refine bel_set ?_ (by (try dsimp only); omega) _) | (with_reducible refine bel_alloc ?_ _) | (with_reducible refine bel_drewN ?_ _) | (with_reducible refine bel_drew ?_))) (by (try simp only [World.size_alloc, World.size_setCell, size_drewN, World.size_drew]); omega) hg' (fun g hg => by simp [Value.ownBlock] at hg; omega)
      have HR' := Lib.hid hr'
      clear hr'
      go_wp2
      go_ret
      exact ⟨_, rfl, HR'.out, hb'⟩
def hiByte (k : Nat) : UInt8 := UInt8.ofNat (k % 128 + 128)
theorem hiByte_nat (k : Nat) : ((hiByte k).toNat : Int) = ((k % 128 + 128 : Nat) : Int) := by unfold hiByte; rw [UInt8.toNat_ofNat']; omega
def varint (n : Nat) : List UInt8 := if h : n < 128 then [UInt8.ofNat n] else hiByte n :: varint (n / 128)
termination_by n
decreasing_by omega
theorem varint_len (n : Nat) : (varint n).length ≤ n + 1 := by
  induction n using Nat.strongRecOn with
  | _ n ih =>
    rw [varint]
    by_cases h : n < 128
    · simp [h]
    · simp only [h, dif_neg, not_false_eq_true, List.length_cons]
      have := ih (n / 128) (by omega)
      omega
def f_AppendVarint (b : List UInt8) (n : Int) : List UInt8 := if 0 ≤ n ∧ n ≤ 1000000000000 then b ++ varint n.toNat else b
theorem or128 (k : Nat) : bits BinOp.or IntKind.u8 ((k : Int) % 256) 128 = ((k % 128 + 128 : Nat) : Int) := by
  have h : ∀ r : Fin 256, bits BinOp.or IntKind.u8 ((r.val : Nat) : Int) 128 = ((r.val % 128 + 128 : Nat) : Int) := by decide +kernel
  have h2 := h ⟨k % 256, Nat.mod_lt _ (by decide)⟩
  simp only at h2
  rw [show (k : Int) % 256 = ((k % 256 : Nat) : Int) from rfl, h2]
  omega
theorem or128s (k : Nat) : bits BinOp.or IntKind.i64 (bits BinOp.and IntKind.i64 (k : Int) 127) 128 % 256 = ((k % 128 + 128 : Nat) : Int) := by
  have h : ∀ r : Fin 128, bits BinOp.or IntKind.i64 ((r.val : Nat) : Int) 128 % 256 = ((r.val + 128 : Nat) : Int) := by decide +kernel
  have h2 := h ⟨k % 128, Nat.mod_lt _ (by decide)⟩
  simp only at h2
  rw [i64_and127, show (k : Int) % 128 = ((k % 128 : Nat) : Int) from rfl, h2]
set_option maxHeartbeats 1000000 in
theorem C_impl_AppendVarint (w : World) (v : Value) (b : List UInt8) (n : Int) (h : (Ty.sl .byte).rd w [v] b) (hx : b.length ≤ 1099511627776) (hi : -9223372036854775808 ≤ n ∧ n ≤ 9223372036854775807) :
    Calls Tryz.prog 83 #[v, .int .i64 n] w (RetRow flatB w 5 (f_AppendVarint b n)) := by
  go_enter Tryz.func83, Tryz.ntmps83
  go_wp2_with fail
  refine (C_slices_Clone_byte _ _ _ h hx).mono ?_
  rintro e w1 ⟨v1, rfl, hr1, hb1⟩
  go_wp2_with fail
  refine (C_impl_InRange _ _ _ _).mono ?_
  rintro e w2 ⟨rfl, rfl⟩
  cases hq : inR n 0 1000000000000
  · have HQ := Lib.hid hq
    have HR := Lib.hid hr1
    clear hq hr1
    go_wp2
    go_ret
    exact ⟨_, rfl, by unfold f_AppendVarint; rw [if_neg (by have := HQ.out; unfold inR at this; simp at this; omega)]; exact HR.out, hb1⟩
  · obtain ⟨m, rfl, hm⟩ : ∃ m : Nat, n = m ∧ m ≤ 1000000000000 := ⟨n.toNat, by unfold inR at hq; simp at hq; omega, by unfold inR at hq; simp at hq; omega⟩
    have HR := Lib.hid hr1
    clear hr1
    go_wp2
    go_loopw [1, 5] (fun q l wr => ∃ (k : Nat) (d : List UInt8), k ≤ 1000000000000 ∧ q = .int .i64 k ∧ Row flatB wr w.heap.size 5 l (b ++ d) ∧ d ++ varint k = varint m ∧ Below w.heap.size w wr) (fun q _ _ => (intOf q).toNat)
    case atStart => exact ⟨m, [], hm, rfl, by rw [List.append_nil]; exact HR.out, rfl, hb1⟩
    case round =>
      obtain ⟨k, d, hk, rfl, hr, hd, hb⟩ := hrel
      have hdl := Lib.hid (congrArg List.length hd)
      have HD := Lib.hid hd
      clear hd
      have HR := Lib.hid hr
      clear hr
      by_cases hlt : k < 128
      · have hkc : (k : Int) < 128 := by omega
        have hv : varint k = [UInt8.ofNat k] := by rw [varint, dif_pos hlt]
        have hu8 : ((UInt8.ofNat k).toNat : Int) = k := by rw [UInt8.toNat_ofNat']; omega
        have HV := Lib.hid hv
        clear hv
        have hlb : d.length + 1 ≤ m + 1 := by have h1 := hdl.out; rw [HV.out, List.length_append] at h1; have := varint_len m; simp at h1; omega
        have hb1 : Row flatB (wr.alloc (.cells #[.int .u8 (k : Int)] 5)) wr.heap.size 5 (.slice (some ⟨wr.heap.size, 0, none⟩) 1 1) [UInt8.ofNat k] := by
          have := Row.lit1 flatB wr 5 (UInt8.ofNat k) trivial (Nat.le_refl _)
          rwa [show flatB.enc (UInt8.ofNat k) = .int .u8 (k : Int) from congrArg (Value.int .u8) hu8] at this
        have HB := Lib.hid hb1
        clear hb1
        have hsz := hb.size
        clear hu8
        set_option maxRecDepth 100000 in go_wp2_with (at_builtin; go_loud (refine wpList_append_row rfl _ _ 22 rfl flatB w.heap.size 5 infoB rfl Tryz.underlying22 _ _ (b ++ d) [UInt8.ofNat k] rfl rfl (HR.out.below (by repeat' (first | (with_reducible exact Below.refl _ _) | (with_reducible assumption) | (with_reducible refine bel_set ?_ (by (try dsimp only); omega) _) | (with_reducible refine bel_alloc ?_ _) | (with_reducible refine bel_drewN ?_ _) | (with_reducible refine bel_drew ?_)))) (HB.out.rd (by (try simp only [World.size_alloc, World.size_setCell, size_drewN, World.size_drew]); omega)) ?_ ?_ ?_ ?_))
        case refine_1 => simp only [List.length_append, List.length_cons, List.length_nil]; omega
        case refine_2 => simp only [List.length_append, List.length_cons, List.length_nil]; unfold maxLen; omega
        case refine_3 => simp only [World.size_alloc]; omega
        case refine_4 =>
          intro v' w' hr' hg'
          have hb' : Below w.heap.size w w' := bel_grown (bel_alloc hb _) (by (try simp only [World.size_alloc, World.size_setCell, size_drewN, World.size_drew]); omega) hg' (fun g hg => (HR.out.block g hg).1)
          have HR' := Lib.hid hr'
          clear hr'
          go_wp2
          go_ret
          exact ⟨_, rfl, by unfold f_AppendVarint; rw [if_pos (by omega), show ((m : Int)).toNat = m from rfl, ← HD.out, HV.out]; exact HR'.out, hb'⟩
      · have hkc : (128 : Int) ≤ k := by omega
        have hv : varint k = hiByte k :: varint (k / 128) := by rw [varint, dif_neg hlt]
        have hu8 := hiByte_nat k
        have HV := Lib.hid hv
        clear hv
        have hlb : d.length + 1 ≤ m + 1 := by have h1 := hdl.out; rw [HV.out, List.length_append] at h1; have := varint_len m; simp at h1; omega
        have hb1 : Row flatB (wr.alloc (.cells #[.int .u8 (bits BinOp.or IntKind.u8 ((k : Int) % 256) 128)] 5)) wr.heap.size 5 (.slice (some ⟨wr.heap.size, 0, none⟩) 1 1) [hiByte k] := by
          have := Row.lit1 flatB wr 5 (hiByte k) trivial (Nat.le_refl _)
          rwa [show flatB.enc (hiByte k) = .int .u8 (bits BinOp.or IntKind.u8 ((k : Int) % 256) 128) from congrArg (Value.int .u8) (hu8.trans (or128 k).symm)] at this
        have HB := Lib.hid hb1
        clear hb1
        have hsz := hb.size
        clear hu8
        set_option maxRecDepth 100000 in go_wp2_with (at_builtin; go_loud (refine wpList_append_row rfl _ _ 22 rfl flatB w.heap.size 5 infoB rfl Tryz.underlying22 _ _ (b ++ d) [hiByte k] rfl rfl (HR.out.below (by repeat' (first | (with_reducible exact Below.refl _ _) | (with_reducible assumption) | (with_reducible refine bel_set ?_ (by (try dsimp only); omega) _) | (with_reducible refine bel_alloc ?_ _) | (with_reducible refine bel_drewN ?_ _) | (with_reducible refine bel_drew ?_)))) (HB.out.rd (by (try simp only [World.size_alloc, World.size_setCell, size_drewN, World.size_drew]); omega)) ?_ ?_ ?_ ?_))
        case refine_1 => simp only [List.length_append, List.length_cons, List.length_nil]; omega
        case refine_2 => simp only [List.length_append, List.length_cons, List.length_nil]; unfold maxLen; omega
        case refine_3 => simp only [World.size_alloc]; omega
        case refine_4 =>
          intro v' w' hr' hg'
          have hb' : Below w.heap.size w w' := bel_grown (bel_alloc hb _) (by (try simp only [World.size_alloc, World.size_setCell, size_drewN, World.size_drew]); omega) hg' (fun g hg => (HR.out.block g hg).1)
          have HR' := Lib.hid hr'
          clear hr'
          go_wp2
          exact ⟨⟨k / 128, d ++ [hiByte k], by omega, by first | rfl | go_num, by exact HR'.out, by rw [List.append_assoc, ← HD.out, HV.out]; rfl, hb'⟩, by simp [intOf]; omega⟩
set_option maxHeartbeats 1000000 in
theorem C_spec_AppendVarint (w : World) (v : Value) (b : List UInt8) (n : Int) (h : (Ty.sl .byte).rd w [v] b) (hx : b.length ≤ 1099511627776) (hi : -9223372036854775808 ≤ n ∧ n ≤ 9223372036854775807) :
    Calls Tryz.prog 85 #[v, .int .i64 n] w (RetRow flatB w 5 (f_AppendVarint b n)) := by
  go_enter Tryz.func85, Tryz.ntmps85
  set_option maxRecDepth 100000 in go_wp2_with (at_builtin; go_loud (refine wpList_append_row rfl _ _ 22 rfl flatB w.heap.size 5 infoB rfl Tryz.underlying22 _ _ [] b rfl rfl (Row.lit0 flatB w 5 (Nat.le_refl _)) (Ty.rd_below (by repeat' (first | (with_reducible exact Below.refl _ _) | (with_reducible assumption) | (with_reducible refine bel_set ?_ (by (try dsimp only); omega) _) | (with_reducible refine bel_alloc ?_ _) | (with_reducible refine bel_drewN ?_ _) | (with_reducible refine bel_drew ?_))) h) ?_ ?_ ?_ ?_))
  case refine_1 => simp only [List.length_nil]; omega
  case refine_2 => simp only [List.length_nil]; unfold maxLen; omega
  case refine_3 => simp only [World.size_alloc]; omega
  intro v1 w1 hr1 hg1
  have hb1 : Below w.heap.size w w1 := bel_grown (by repeat' (first | (with_reducible exact Below.refl _ _) | (with_reducible assumption) | (with_reducible refine bel_set ?_ (by (try dsimp only); omega) _) | (with_reducible refine bel_alloc ?_ _) | (with_reducible refine bel_drewN ?_ _) | (with_reducible refine bel_drew ?_))) (by (try simp only [World.size_alloc, World.size_setCell, size_drewN, World.size_drew]); omega) hg1 (fun g hg => by simp [Value.ownBlock] at hg; omega)
  go_wp2_with fail
  refine (C_spec_l1In _ _ _ _).mono ?_
  rintro e w2 ⟨rfl, rfl⟩
  cases hq : inR n 0 1000000000000
  · have HQ := Lib.hid hq
    have HR := Lib.hid hr1
    clear hq hr1
    go_wp2
    go_ret
    exact ⟨_, rfl, by unfold f_AppendVarint; rw [if_neg (by have := HQ.out; unfold inR at this; simp at this; omega)]; exact HR.out, hb1⟩
  · obtain ⟨m, rfl, hm⟩ : ∃ m : Nat, n = m ∧ m ≤ 1000000000000 := ⟨n.toNat, by unfold inR at hq; simp at hq; omega, by unfold inR at hq; simp at hq; omega⟩
    have HR := Lib.hid hr1
    clear hr1
    go_wp2
    go_loopw [1, 5] (fun q l wr => ∃ (k : Nat) (d : List UInt8), k ≤ 1000000000000 ∧ q = .int .i64 k ∧ Row flatB wr w.heap.size 5 l (b ++ d) ∧ d ++ varint k = varint m ∧ Below w.heap.size w wr) (fun q _ _ => (intOf q).toNat)
    case atStart => exact ⟨m, [], hm, rfl, by rw [List.append_nil]; exact HR.out, rfl, hb1⟩
    case round =>
      obtain ⟨k, d, hk, rfl, hr, hd, hb⟩ := hrel
      have hdl := Lib.hid (congrArg List.length hd)
      have HD := Lib.hid hd
      clear hd
      have HR := Lib.hid hr
      clear hr
      by_cases hlt : k < 128
      · have hkc : (k : Int) < 128 := by omega
        have hv : varint k = [UInt8.ofNat k] := by rw [varint, dif_pos hlt]
        have hu8 : ((UInt8.ofNat k).toNat : Int) = k := by rw [UInt8.toNat_ofNat']; omega
        have HV := Lib.hid hv
        clear hv
        have hlb : d.length + 1 ≤ m + 1 := by have h1 := hdl.out; rw [HV.out, List.length_append] at h1; have := varint_len m; simp at h1; omega
        have hb1 : Row flatB (wr.alloc (.cells #[.int .u8 (k : Int)] 5)) wr.heap.size 5 (.slice (some ⟨wr.heap.size, 0, none⟩) 1 1) [UInt8.ofNat k] := by
          have := Row.lit1 flatB wr 5 (UInt8.ofNat k) trivial (Nat.le_refl _)
          rwa [show flatB.enc (UInt8.ofNat k) = .int .u8 (k : Int) from congrArg (Value.int .u8) hu8] at this
        have HB := Lib.hid hb1
        clear hb1
        have hsz := hb.size
        clear hu8
        set_option maxRecDepth 100000 in go_wp2_with (at_builtin; go_loud (refine wpList_append_row rfl _ _ 22 rfl flatB w.heap.size 5 infoB rfl Tryz.underlying22 _ _ (b ++ d) [UInt8.ofNat k] rfl rfl (HR.out.below (by repeat' (first | (with_reducible exact Below.refl _ _) | (with_reducible assumption) | (with_reducible refine bel_set ?_ (by (try dsimp only); omega) _) | (with_reducible refine bel_alloc ?_ _) | (with_reducible refine bel_drewN ?_ _) | (with_reducible refine bel_drew ?_)))) (HB.out.rd (by (try simp only [World.size_alloc, World.size_setCell, size_drewN, World.size_drew]); omega)) ?_ ?_ ?_ ?_))
        case refine_1 => simp only [List.length_append, List.length_cons, List.length_nil]; omega
        case refine_2 => simp only [List.length_append, List.length_cons, List.length_nil]; unfold maxLen; omega
        case refine_3 => simp only [World.size_alloc]; omega
        case refine_4 =>
          intro v' w' hr' hg'
          have hb' : Below w.heap.size w w' := bel_grown (bel_alloc hb _) (by (try simp only [World.size_alloc, World.size_setCell, size_drewN, World.size_drew]); omega) hg' (fun g hg => (HR.out.block g hg).1)
          have HR' := Lib.hid hr'
          clear hr'
          go_wp2
          go_ret
          exact ⟨_, rfl, by unfold f_AppendVarint; rw [if_pos (by omega), show ((m : Int)).toNat = m from rfl, ← HD.out, HV.out]; exact HR'.out, hb'⟩
      · have hkc : (128 : Int) ≤ k := by omega
        have hv : varint k = hiByte k :: varint (k / 128) := by rw [varint, dif_neg hlt]
        have hu8 := hiByte_nat k
        have HV := Lib.hid hv
        clear hv
        have hlb : d.length + 1 ≤ m + 1 := by have h1 := hdl.out; rw [HV.out, List.length_append] at h1; have := varint_len m; simp at h1; omega
        have hb1 : Row flatB (wr.alloc (.cells #[.int .u8 (bits BinOp.or IntKind.i64 (bits BinOp.and IntKind.i64 (k : Int) 127) 128 % 256)] 5)) wr.heap.size 5 (.slice (some ⟨wr.heap.size, 0, none⟩) 1 1) [hiByte k] := by
          have := Row.lit1 flatB wr 5 (hiByte k) trivial (Nat.le_refl _)
          rwa [show flatB.enc (hiByte k) = .int .u8 (bits BinOp.or IntKind.i64 (bits BinOp.and IntKind.i64 (k : Int) 127) 128 % 256) from congrArg (Value.int .u8) (hu8.trans (or128s k).symm)] at this
        have HB := Lib.hid hb1
        clear hb1
        have hsz := hb.size
        clear hu8
        set_option maxRecDepth 100000 in go_wp2_with (at_builtin; go_loud (refine wpList_append_row rfl _ _ 22 rfl flatB w.heap.size 5 infoB rfl Tryz.underlying22 _ _ (b ++ d) [hiByte k] rfl rfl (HR.out.below (by repeat' (first | (with_reducible exact Below.refl _ _) | (with_reducible assumption) | (with_reducible refine bel_set ?_ (by (try dsimp only); omega) _) | (with_reducible refine bel_alloc ?_ _) | (with_reducible refine bel_drewN ?_ _) | (with_reducible refine bel_drew ?_)))) (HB.out.rd (by (try simp only [World.size_alloc, World.size_setCell, size_drewN, World.size_drew]); omega)) ?_ ?_ ?_ ?_))
        case refine_1 => simp only [List.length_append, List.length_cons, List.length_nil]; omega
        case refine_2 => simp only [List.length_append, List.length_cons, List.length_nil]; unfold maxLen; omega
        case refine_3 => simp only [World.size_alloc]; omega
        case refine_4 =>
          intro v' w' hr' hg'
          have hb' : Below w.heap.size w w' := bel_grown (bel_alloc hb _) (by (try simp only [World.size_alloc, World.size_setCell, size_drewN, World.size_drew]); omega) hg' (fun g hg => (HR.out.block g hg).1)
          have HR' := Lib.hid hr'
          clear hr'
          go_wp2
          exact ⟨⟨k / 128, d ++ [hiByte k], by omega, by first | rfl | go_num, by exact HR'.out, by rw [List.append_assoc, ← HD.out, HV.out]; rfl, hb'⟩, by simp [intOf]; omega⟩
end Go.Proofs.YtldgbnlcnlfmeaaGreat

/- Copies of names and keys. -/
namespace Go.Proofs.YtldgbnlcnlfmeaaGreat
open Go.RowKit
set_option linter.unusedVariables false
set_option linter.unusedSimpArgs false

set_option maxHeartbeats 1000000 in
theorem C_slices_Clone_str (w : World) (v : Value) (x : List (List UInt8)) (h : (Ty.sl .str).rd w [v] x) (hx : x.length ≤ 1099511627776) : Calls Tryz.prog 109 #[v] w (RetRow flatS w 9 x) := by
  obtain ⟨A, c, rfl, hc, hm, hn⟩ := Ty.rd_sl h
  cases A with
  | none =>
    obtain ⟨rfl, rfl⟩ := Ty.rd_nil h
    show Calls Tryz.prog 109 #[.slice none 0 0] w _
    clear h hx hc hm hn
    have q22 : ∀ (w : World) (a : Option Addr) (n c n' c' : Nat), (binOp .eql 30 (.slice a n c) (.slice none n' c')).run Tryz.prog w = .ok (.bool a.isNone) w := fun w a n c n' c' => Lib.run_eql_slice_nil w _ _ a n c n' c' Tryz.underlying30
    go_enter Tryz.func109, Tryz.ntmps109
    go_wp2
    go_ret
    exact ⟨_, rfl, Row.nil _ _ _ _, Below.refl _ _⟩
  | some a =>
    have q22 : ∀ (w : World) (a : Option Addr) (n c n' c' : Nat), (binOp .eql 30 (.slice a n c) (.slice none n' c')).run Tryz.prog w = .ok (.bool a.isNone) w := fun w a n c n' c' => Lib.run_eql_slice_nil w _ _ a n c n' c' Tryz.underlying30
    go_enter Tryz.func109, Tryz.ntmps109
    set_option maxRecDepth 100000 in go_wp2_with (at_builtin; go_loud (refine wpList_append_row rfl _ _ 30 rfl flatS w.heap.size 9 info_str rfl Tryz.underlying30 _ _ [] x rfl rfl (Row.lit0 flatS w 9 (Nat.le_refl _)) (Ty.rd_below (by repeat' (first | (with_reducible exact Below.refl _ _) | (with_reducible assumption) | (with_reducible refine bel_set ?_ (by (try dsimp only); omega) _) | (with_reducible refine bel_alloc ?_ _) | (with_reducible refine bel_drewN ?_ _) | (with_reducible refine bel_drew ?_))) h) ?_ ?_ ?_ ?_))
    case refine_1 => simp only [List.length_nil]; omega
    case refine_2 => simp only [List.length_nil]; unfold maxLen; omega
    case refine_3 => simp only [World.size_alloc]; omega
    case refine_4 =>
      intro v' w' hr' hg'
      have hb' : Below w.heap.size w w' := bel_grown (by repeat' (first | (with_reducible exact Below.refl _ _) | (with_reducible assumption) | (with_reducible refine bel_set ?_ (by (try dsimp only); omega) _) | (with_reducible refine bel_alloc ?_ _) | (with_reducible refine bel_drewN ?_ _) | (with_reducible refine bel_drew ?_))) (by (try simp only [World.size_alloc, World.size_setCell, size_drewN, World.size_drew]); omega) hg' (fun g hg => by simp [Value.ownBlock] at hg; omega)
      have HR' := Lib.hid hr'
      clear hr'
      go_wp2
      go_ret
      exact ⟨_, rfl, HR'.out, hb'⟩
set_option maxHeartbeats 1000000 in
theorem C_impl_copyName (w : World) (cs : List Value) (x : List (List UInt8)) (h : (Ty.sl .str).rd w cs x) (hx : x.length ≤ 1000000000000) :
    Calls Tryz.prog 55 #[.agg cs.toArray] w (RetAgg w (.sl .str) x) := by
  obtain ⟨A0, c0, rfl⟩ := Ty.rd_slv h
  go_enter Tryz.func55, Tryz.ntmps55
  go_wp2_with fail
  refine (C_slices_Clone_str _ _ x (Ty.rd_below (by repeat' (first | (with_reducible exact Below.refl _ _) | (with_reducible assumption) | (with_reducible refine bel_set ?_ (by (try dsimp only); omega) _) | (with_reducible refine bel_alloc ?_ _) | (with_reducible refine bel_drewN ?_ _) | (with_reducible refine bel_drew ?_))) h) (by omega)).mono ?_
  rintro e w1 ⟨v1, rfl, hr1, hb1⟩
  obtain ⟨A1, c1, fp1, rfl, how1, hfr1⟩ := hr1.own hb1.size
  have hw1 : Below w.heap.size w w1 := bel_trans (by repeat' (first | (with_reducible exact Below.refl _ _) | (with_reducible assumption) | (with_reducible refine bel_set ?_ (by (try dsimp only); omega) _) | (with_reducible refine bel_alloc ?_ _) | (with_reducible refine bel_drewN ?_ _) | (with_reducible refine bel_drew ?_))) hb1
  obtain ⟨hc1, hf1⟩ := bcell hb1
  have hz1 := hb1.size
  simp only [World.size_alloc] at hz1 hfr1
  have z0 : w.heap.size < w1.heap.size := by omega
  have z1 : w.heap.size + 1 < w1.heap.size := by omega
  clear hr1
  go_wp2
  refine bodyPost_ret (v := .agg #[.slice A1 (List.length x) c1]) (by simp [results, Tryz.results55, go_sem, hc1, hf1, z0, z1]) rfl ?_
  exact ⟨_, fp1, rfl, Ty.ow_keep (by intro b hb'; have hb'' := (hfr1).2 b hb'; (try simp only [World.size_alloc, World.size_setCell, size_drewN, World.size_drew] at hb''); repeat (first | (with_reducible rfl) | (rw [Below.heap_setCell _ _ _ _ (by (try dsimp only); omega)]) | (rw [Below.heap_alloc _ _ _ (by simp only [World.size_alloc, World.size_setCell]; omega)]))) how1, (hfr1.mono (by (try simp only [World.size_alloc, World.size_setCell, size_drewN, World.size_drew]); omega) (by (try simp only [World.size_alloc, World.size_setCell, size_drewN, World.size_drew]); omega)), (by repeat' (first | (with_reducible exact Below.refl _ _) | (with_reducible assumption) | (with_reducible refine bel_set ?_ (by (try dsimp only); omega) _) | (with_reducible refine bel_alloc ?_ _) | (with_reducible refine bel_drewN ?_ _) | (with_reducible refine bel_drew ?_)))⟩
set_option maxHeartbeats 1000000 in
theorem C_spec_l4Copy (w : World) (cs : List Value) (x : List (List UInt8)) (h : (Ty.sl .str).rd w cs x) (hx : x.length ≤ 1000000000000) :
    Calls Tryz.prog 57 #[.agg cs.toArray] w (RetAgg w (.sl .str) x) := by
  obtain ⟨A0, c0, rfl⟩ := Ty.rd_slv h
  have hl0 : Row flatS (((w.alloc (.cells #[.slice A0 x.length c0] 32)).alloc (.cells #[.slice none 0 0] 32)).alloc (.cells #[] 9)) (w.heap.size + 1 + 1) 9 (.slice (some ⟨w.heap.size + 1 + 1, 0, none⟩) 0 0) [] := by
    have := Row.lit0 flatS ((w.alloc (.cells #[.slice A0 x.length c0] 32)).alloc (.cells #[.slice none 0 0] 32)) 9 (base := w.heap.size + 1 + 1) (by simp only [World.size_alloc]; omega)
    simp only [World.size_alloc] at this
    exact this
  have HL0 := Lib.hid hl0
  clear hl0
  go_enter Tryz.func57, Tryz.ntmps57
  set_option maxRecDepth 100000 in go_wp2_with (at_builtin; go_loud (refine wpList_append_row rfl _ _ 30 rfl flatS (w.heap.size + 1 + 1) 9 info_str rfl Tryz.underlying30 _ _ [] x rfl rfl HL0.out (Ty.rd_below (by repeat' (first | (with_reducible exact Below.refl _ _) | (with_reducible assumption) | (with_reducible refine bel_set ?_ (by (try dsimp only); omega) _) | (with_reducible refine bel_alloc ?_ _) | (with_reducible refine bel_drewN ?_ _) | (with_reducible refine bel_drew ?_))) h) ?_ ?_ ?_ ?_))
  case refine_1 => simp only [List.length_nil]; omega
  case refine_2 => simp only [List.length_nil]; unfold maxLen; omega
  case refine_3 => simp only [World.size_alloc]; omega
  intro v1 w1 hr1 hg1
  have hb1 : Below ((w.alloc (.cells #[.slice A0 x.length c0] 32)).alloc (.cells #[.slice none 0 0] 32)).heap.size ((w.alloc (.cells #[.slice A0 x.length c0] 32)).alloc (.cells #[.slice none 0 0] 32)) w1 := bel_grown (bel_alloc (Below.refl _ _) _) (by simp only [World.size_alloc]; omega) hg1 (fun g hg => by simp [Value.ownBlock] at hg; simp only [World.size_alloc]; omega)
  have hz1 := hb1.size
  simp only [World.size_alloc] at hz1
  obtain ⟨A1, c1, fp1, rfl, how1, hfr1⟩ := hr1.own (by omega)
  have hw1 : Below w.heap.size w w1 := bel_trans (by repeat' (first | (with_reducible exact Below.refl _ _) | (with_reducible assumption) | (with_reducible refine bel_set ?_ (by (try dsimp only); omega) _) | (with_reducible refine bel_alloc ?_ _) | (with_reducible refine bel_drewN ?_ _) | (with_reducible refine bel_drew ?_))) hb1
  obtain ⟨hc1, hf1⟩ := bcell hb1
  have z0 : w.heap.size < w1.heap.size := by omega
  have z1 : w.heap.size + 1 < w1.heap.size := by omega
  clear hr1
  go_wp2
  refine bodyPost_ret (v := .agg #[.slice A1 (List.length x) c1]) (by simp [results, Tryz.results57, go_sem, hc1, hf1, z0, z1]) rfl ?_
  exact ⟨_, fp1, rfl, Ty.ow_keep (by intro b hb'; have hb'' := (hfr1).2 b hb'; (try simp only [World.size_alloc, World.size_setCell, size_drewN, World.size_drew] at hb''); repeat (first | (with_reducible rfl) | (rw [Below.heap_setCell _ _ _ _ (by (try dsimp only); omega)]) | (rw [Below.heap_alloc _ _ _ (by simp only [World.size_alloc, World.size_setCell]; omega)]))) how1, (hfr1.mono (by (try simp only [World.size_alloc, World.size_setCell, size_drewN, World.size_drew]); omega) (by (try simp only [World.size_alloc, World.size_setCell, size_drewN, World.size_drew]); omega)), (by repeat' (first | (with_reducible exact Below.refl _ _) | (with_reducible assumption) | (with_reducible refine bel_set ?_ (by (try dsimp only); omega) _) | (with_reducible refine bel_alloc ?_ _) | (with_reducible refine bel_drewN ?_ _) | (with_reducible refine bel_drew ?_)))⟩
end Go.Proofs.YtldgbnlcnlfmeaaGreat

/- A nonce is remembered. Printed by gen18.py. -/
namespace Go.Proofs.YtldgbnlcnlfmeaaGreat
open Go.RowKit
set_option linter.unusedVariables false
set_option linter.unusedSimpArgs false

/-- A slice without its first element. -/
theorem Ty.ow_tail {w : World} {e : Ty} {b o n c : Nat} {x : List e.D} {fp : List Nat} {lo hi : Nat} (h : (Ty.sl e).ow w [.slice (some ⟨b, o, none⟩) n c] x fp) (h1 : 1 < x.length) (hf : FrI lo hi fp) :
    ∃ fp', (Ty.sl e).ow w [.slice (some ⟨b, o + e.sz, none⟩) (n - 1) (c - 1)] (x.drop 1) fp' ∧ FrI lo hi fp' := by
  obtain ⟨A, c', h2, h3, h4, h5, h6⟩ := h
  injection h2 with h2 _
  injection h2 with h2 hn2 h7
  subst h7
  have h3' : x.length ≤ c := h3
  have h5' : x.length ≤ 9223372036854775807 := h5
  rcases h6 with h6 | ⟨_, b', o', fs, hA, hfp, hc⟩
  · exact absurd h6.1 (by show ¬ x.length = 0; omega)
  rw [← h2] at hA
  injection hA with hA
  injection hA with hb ho
  subst hb; subst ho
  have hl : (x.drop 1).length = x.length - 1 := List.length_drop
  have hr : List.range x.length = 0 :: (List.range (x.length - 1)).map Nat.succ := by
    rw [show x.length = (x.length - 1) + 1 from by omega, List.range_succ_eq_map, Nat.add_sub_cancel]
  have hfp2 : fp = b :: (fs 0 ++ (List.range (x.length - 1)).flatMap (fun i => fs (i + 1))) := by
    have hfp' : fp = b :: (List.range x.length).flatMap fs := hfp
    rw [hfp', hr, List.flatMap_cons, List.flatMap_map]
  refine ⟨b :: (List.range (x.drop 1).length).flatMap (fun i => fs (i + 1)), ⟨_, c - 1, ?_, ?_, ⟨by have := h4.1; omega, fun h => by cases h⟩, ?_, .inr ⟨?_, b, o + e.sz, fun i => fs (i + 1), rfl, rfl, fun i hi => ?_⟩⟩, ?_⟩
  · rw [show n - 1 = List.length (x.drop 1) from by have : n = x.length := hn2; rw [hl]; omega]
  · show (x.drop 1).length ≤ c - 1; omega
  · show (x.drop 1).length ≤ _; omega
  · show 0 < (x.drop 1).length; omega
  · have hi' : i + 1 < x.length := by have : i < (x.drop 1).length := hi; omega
    obtain ⟨ds, g1, g2, g3⟩ := hc (i + 1) hi'
    refine ⟨ds, g1, fun j hj => ?_, ?_⟩
    · have := g2 j hj
      rw [show o + e.sz + i * e.sz + j = o + (i + 1) * e.sz + j from by rw [Nat.succ_mul]; omega]
      exact this
    · have : (x.drop 1)[i]'hi = x[i + 1] := by rw [List.getElem_drop]; congr 1; omega
      rw [this]; exact g3
  · rw [hfp2] at hf
    rw [hl]
    refine ⟨?_, fun y hy => hf.2 y ?_⟩
    · have h8 := hf.1
      rw [List.nodup_cons] at h8 ⊢
      exact ⟨fun hm => h8.1 (List.mem_append_right _ hm), (List.nodup_append.1 h8.2).2.1⟩
    · rcases List.mem_cons.1 hy with rfl | hy
      · exact List.mem_cons_self
      · exact List.mem_cons_of_mem _ (List.mem_append_right _ hy)
end Go.Proofs.YtldgbnlcnlfmeaaGreat

/- Names read out of texts: the walk of the reference's way. -/
namespace Go.Proofs.YtldgbnlcnlfmeaaGreat
open Go.RowKit
set_option linter.unusedVariables false
set_option linter.unusedSimpArgs false

set_option maxHeartbeats 2000000 in
theorem C_spec_ParseName (w : World) (s : List UInt8) (hs : s.length ≤ 1000000000) :
    Calls Tryz.prog 115 #[vS s] w (RetAgg2 w (.sl .str) (pnS s).1 (.bool (pnS s).2)) := by
  by_cases h1 : s = [47]
  · have HY := Lib.hid (pnS_one h1)
    have q1 : (s == [47]) = true := by simp [h1]
    generalize pnS s = F at HY ⊢
    clear h1
    go_enter Tryz.func115, Tryz.ntmps115
    go_wp2
    refine bodyPost_ret (v := .tuple #[.agg #[.slice none 0 0], .bool true]) (by simp [results, Tryz.results115, go_sem]) rfl ?_
    rw [HY.out]
    exact ⟨[.slice none 0 0], [], rfl, rd_ow_nil _ _, FrI.nil _ _, (by repeat' (first | (with_reducible exact Below.refl _ _) | (with_reducible assumption) | (with_reducible refine bel_set ?_ (by (try dsimp only); omega) _) | (with_reducible refine bel_alloc ?_ _) | (with_reducible refine bel_drewN ?_ _) | (with_reducible refine bel_drew ?_)))⟩
  have HNO := Lib.hid (fun h => pnS_no h1 h)
  have HYES := Lib.hid (fun h => pnS_yes h1 h)
  have q1 : (s == [47]) = false := by simp [h1]
  have hL := spl_pos 47 s
  have hcall : Calls Tryz.prog 153 #[vS s, .int .u8 47] (w.alloc (.cells #[.slice none 0 0] 32)) (RetRow flatS (w.alloc (.cells #[.slice none 0 0] 32)) 9 (spl 47 s)) := C_spec_l4Split _ s 47 hs
  generalize pnS s = F at HNO HYES ⊢
  generalize spl 47 s = L at HNO HYES hL hcall
  go_enter Tryz.func115, Tryz.ntmps115
  go_wp2_with fail
  refine hcall.mono ?_
  rintro e w1 ⟨v1, rfl, hr1, hb1⟩
  obtain ⟨A1, c1, fp1, rfl, how1, hfr1⟩ := hr1.own hb1.size
  have hcl : L.length ≤ c1 := by obtain ⟨A, c, h2, h3, _⟩ := how1; injection h2 with h2 _; injection h2 with _ _ h7; rw [h7]; exact h3
  obtain ⟨b, o, ds, rfl, hl, hcell, hrd⟩ := Ty.rd_at (Ty.ow_rd how1) hL
  obtain ⟨rfl, hsl⟩ := hrd
  have e0 : w1.cell? ⟨b, o, none⟩ = some (vS L[0]) := by simpa [Ty.sz] using hcell 0 (by decide)
  clear hcell hl hcall hr1 h1
  have hw1 : Below w.heap.size w w1 := bel_trans (by repeat' (first | (with_reducible exact Below.refl _ _) | (with_reducible assumption) | (with_reducible refine bel_set ?_ (by (try dsimp only); omega) _) | (with_reducible refine bel_alloc ?_ _) | (with_reducible refine bel_drewN ?_ _) | (with_reducible refine bel_drew ?_))) hb1
  have hB1 : Blk w1 w.heap.size 32 #[.slice none 0 0] := (Blk.new w _ _).below hb1 (by rw [World.size_alloc]; omega)
  have k1 : w1.cell? ⟨w.heap.size, 0, none⟩ = some (.slice none 0 0) := hB1.cell 0
  have f1 : w1.frozen? ⟨w.heap.size, 0, none⟩ = false := hB1.frozen 0
  have z1 : w.heap.size < w1.heap.size := hB1.lt
  have hbl : b < w1.heap.size := World.block_lt_of_cell? _ _ e0
  have hs1 := hb1.size
  simp only [World.size_alloc] at hs1 hfr1
  by_cases h2 : 2 ≤ L.length
  · obtain ⟨fp2, how2, hfr2⟩ := Ty.ow_tail how1 (by omega) hfr1
    have ht : L.drop 1 = L.tail := by simp
    rw [ht] at how2
    have hhead : L.head? = some L[0] := by cases L with | nil => simp at hL | cons a l => rfl
    have q2 : ¬ ((L.length : Int) < 2) := by omega
    have q4 : ¬ c1 = 1 := by omega
    have q5 : decide ((L.length : Int) < 2) = false := by simp; omega
    clear ht
    have how2 : (Ty.sl .str).ow w1 [.slice (some ⟨b, o + 1, none⟩) (L.length - 1) (c1 - 1)] L.tail fp2 := how2
    by_cases h3 : L[0] = []
    · have q3 : L[0].isEmpty = true := by rw [h3]; rfl
      generalize hvv : validName L.tail = vv at HNO HYES
      have HVV := Lib.hid hvv
      have HC : Hid ((decide (2 ≤ L.length) && decide (L.head? = some []) && vv) = vv) := by unfold Hid; rw [hhead, h3]; simp [h2]
      clear h3 hhead hvv
      go_wp2_with fail
      have hv := C_spec_ValidName (w1.alloc (.cells #[.slice (some ⟨b, o + 1, none⟩) (L.length - 1) (c1 - 1)] 32)) _ L.tail (Ty.rd_below (by repeat' (first | (with_reducible exact Below.refl _ _) | (with_reducible assumption) | (with_reducible refine bel_set ?_ (by (try dsimp only); omega) _) | (with_reducible refine bel_alloc ?_ _) | (with_reducible refine bel_drewN ?_ _) | (with_reducible refine bel_drew ?_))) (Ty.ow_rd how2))
      rw [HVV.out] at hv
      refine hv.mono ?_
      rintro e w2 ⟨rfl, hb2⟩
      clear hv
      have hs2 := hb2.size
      simp only [World.size_alloc] at hs2
      have hx2 : Below w1.heap.size w1 w2 := bel_trans (bel_alloc (Below.refl _ _) _) hb2
      have hw2 : Below w.heap.size w w2 := bel_trans hw1 hx2
      have hB2 := hB1.below hx2 z1
      have hP2 : Blk w2 w1.heap.size 32 #[.slice (some ⟨b, o + 1, none⟩) (L.length - 1) (c1 - 1)] := (Blk.new w1 _ _).below hb2 (by rw [World.size_alloc]; omega)
      have k2 : w2.cell? ⟨w.heap.size, 0, none⟩ = some (.slice none 0 0) := hB2.cell 0
      have f2 : w2.frozen? ⟨w.heap.size, 0, none⟩ = false := hB2.frozen 0
      have j2 : w2.cell? ⟨w1.heap.size, 0, none⟩ = some (.slice (some ⟨b, o + 1, none⟩) (L.length - 1) (c1 - 1)) := hP2.cell 0
      have z2 : w.heap.size < w2.heap.size := by omega
      have y2 : w1.heap.size < w2.heap.size := by omega
      clear k1 f1 e0
      cases vv with
      | false =>
        have HN := Lib.hid (HNO.out HC.out)
        go_wp2
        refine bodyPost_ret (v := .tuple #[.agg #[.slice none 0 0], .bool false]) (by simp [results, Tryz.results115, go_sem, k2, f2, z2]) rfl ?_
        rw [HN.out]
        exact ⟨[.slice none 0 0], [], rfl, rd_ow_nil _ _, FrI.nil _ _, (by repeat' (first | (with_reducible exact Below.refl _ _) | (with_reducible assumption) | (with_reducible refine bel_set ?_ (by (try dsimp only); omega) _) | (with_reducible refine bel_alloc ?_ _) | (with_reducible refine bel_drewN ?_ _) | (with_reducible refine bel_drew ?_)))⟩
      | true =>
        have HY := Lib.hid (HYES.out HC.out)
        go_wp2
        refine bodyPost_ret (v := .tuple #[.agg #[.slice (some ⟨b, o + 1, none⟩) (L.length - 1) (c1 - 1)], .bool true]) (by simp [results, Tryz.results115, go_sem, k2, f2, z2]) rfl ?_
        rw [HY.out]
        exact ⟨[.slice (some ⟨b, o + 1, none⟩) (L.length - 1) (c1 - 1)], fp2, rfl, Ty.ow_keep (by intro b hb'; have hb'' := (hfr2).2 b hb'; (try simp only [World.size_alloc, World.size_setCell, size_drewN, World.size_drew] at hb''); repeat (first | (with_reducible rfl) | (rw [Below.heap_setCell _ _ _ _ (by (try dsimp only); omega)]) | (rw [Below.heap_alloc _ _ _ (by (try simp only [World.size_alloc, World.size_setCell]); omega)]) | (rw [hx2.block _ (by (try simp only [World.size_alloc, World.size_setCell, size_drewN, World.size_drew]); omega)]))) how2, hfr2.mono (by (try simp only [World.size_alloc, World.size_setCell, size_drewN, World.size_drew]); omega) (by (try simp only [World.size_alloc, World.size_setCell, size_drewN, World.size_drew]); omega), (by repeat' (first | (with_reducible exact Below.refl _ _) | (with_reducible assumption) | (with_reducible refine bel_set ?_ (by (try dsimp only); omega) _) | (with_reducible refine bel_alloc ?_ _) | (with_reducible refine bel_drewN ?_ _) | (with_reducible refine bel_drew ?_)))⟩
    · have q3 : L[0].isEmpty = false := by cases hq : L[0] with | nil => exact absurd hq h3 | cons a l => rfl
      have HN := Lib.hid (HNO.out (by rw [hhead]; simp [h3]))
      clear h3
      go_wp2
      refine bodyPost_ret (v := .tuple #[.agg #[.slice none 0 0], .bool false]) (by simp [results, Tryz.results115, go_sem, k1, f1, z1]) rfl ?_
      rw [HN.out]
      exact ⟨[.slice none 0 0], [], rfl, rd_ow_nil _ _, FrI.nil _ _, (by repeat' (first | (with_reducible exact Below.refl _ _) | (with_reducible assumption) | (with_reducible refine bel_set ?_ (by (try dsimp only); omega) _) | (with_reducible refine bel_alloc ?_ _) | (with_reducible refine bel_drewN ?_ _) | (with_reducible refine bel_drew ?_)))⟩
  · have HN := Lib.hid (HNO.out (by simp; omega))
    have q2 : ((L.length : Int) < 2) := by omega
    go_wp2
    all_goals refine bodyPost_ret (v := .tuple #[.agg #[.slice none 0 0], .bool false]) (by simp [results, Tryz.results115, go_sem, k1, f1, z1]) rfl ?_
    all_goals rw [HN.out]
    all_goals exact ⟨[.slice none 0 0], [], rfl, rd_ow_nil _ _, FrI.nil _ _, (by repeat' (first | (with_reducible exact Below.refl _ _) | (with_reducible assumption) | (with_reducible refine bel_set ?_ (by (try dsimp only); omega) _) | (with_reducible refine bel_alloc ?_ _) | (with_reducible refine bel_drewN ?_ _) | (with_reducible refine bel_drew ?_)))⟩
set_option maxHeartbeats 1000000 in
theorem C_spec_l4Of (w : World) (s : List UInt8) (hs : s.length ≤ 1000000000) :
    Calls Tryz.prog 62 #[vS s] w (RetAgg w (.sl .str) (pnS s).1) := by
  go_enter Tryz.func62, Tryz.ntmps62
  go_wp2_with fail
  refine (C_spec_ParseName _ s hs).mono ?_
  rintro e w1 ⟨cs1, fp1, rfl, how1, hfr1, hb1⟩
  obtain ⟨A1, c1, rfl⟩ := Ty.ow_slv how1
  have hw1 : Below w.heap.size w w1 := bel_trans (by repeat' (first | (with_reducible exact Below.refl _ _) | (with_reducible assumption) | (with_reducible refine bel_set ?_ (by (try dsimp only); omega) _) | (with_reducible refine bel_alloc ?_ _) | (with_reducible refine bel_drewN ?_ _) | (with_reducible refine bel_drew ?_))) hb1
  have hB1 : Blk w1 w.heap.size 32 #[.slice none 0 0] := (Blk.new w _ _).below hb1 (by rw [World.size_alloc]; omega)
  have k1 : w1.cell? ⟨w.heap.size, 0, none⟩ = some (.slice none 0 0) := hB1.cell 0
  have f1 : w1.frozen? ⟨w.heap.size, 0, none⟩ = false := hB1.frozen 0
  have z1 : w.heap.size < w1.heap.size := hB1.lt
  have hs1 := hb1.size
  simp only [World.size_alloc] at hs1 hfr1
  go_wp2
  refine bodyPost_ret (v := .agg #[.slice A1 (List.length (pnS s).1) c1]) (by simp [results, Tryz.results62, go_sem, k1, f1, z1]) rfl ?_
  exact ⟨_, fp1, rfl, Ty.ow_keep (by intro b hb'; have hb'' := (hfr1).2 b hb'; (try simp only [World.size_alloc, World.size_setCell, size_drewN, World.size_drew] at hb''); repeat (first | (with_reducible rfl) | (rw [Below.heap_setCell _ _ _ _ (by (try dsimp only); omega)]) | (rw [Below.heap_alloc _ _ _ (by (try simp only [World.size_alloc, World.size_setCell]); omega)]))) how1, hfr1.mono (by (try simp only [World.size_alloc, World.size_setCell, size_drewN, World.size_drew]); omega) (by (try simp only [World.size_alloc, World.size_setCell, size_drewN, World.size_drew]); omega), (by repeat' (first | (with_reducible exact Below.refl _ _) | (with_reducible assumption) | (with_reducible refine bel_set ?_ (by (try dsimp only); omega) _) | (with_reducible refine bel_alloc ?_ _) | (with_reducible refine bel_drewN ?_ _) | (with_reducible refine bel_drew ?_)))⟩
end Go.Proofs.YtldgbnlcnlfmeaaGreat

/- Names are drawn. Printed by gen46.py. -/
namespace Go.Proofs.YtldgbnlcnlfmeaaGreat
open Go.RowKit
set_option linter.unusedVariables false
set_option linter.unusedSimpArgs false

theorem Row.dr {e : Ty} {F : Flat e} {B : Nat} {w w' : World} {base : Nat} {te : TypeId} {v : Value} {x : List e.D} (h : Row F w base te v x) (hd : Dr B w w') (hB : B < base) : Row F w' base te v x := by
  refine ⟨⟨h.1.1, ?_⟩, h.2⟩
  rcases h.1.2 with hn | ⟨g, cap, cur, rfl, hbg, hgg, rest⟩
  · exact .inl hn
  · exact .inr ⟨g, cap, cur, rfl, hbg, (Dr.block hd (Blk.lt (t := te) (cs := cur) hgg) (by omega)).trans hgg, rest⟩
theorem row_setN {e : Ty} {F : Flat e} {w : World} {base : Nat} {te : TypeId} {v : Value} {x : List e.D} (h : Row F w base te v x) {p : Addr} (hp : p.block < base) (u : Value) : Row F (w.setCell p u) base te v x := by
  refine ⟨⟨h.1.1, ?_⟩, h.2⟩
  rcases h.1.2 with hn | ⟨g, cap, cur, rfl, hbg, hgg, rest⟩
  · exact .inl hn
  · exact .inr ⟨g, cap, cur, rfl, hbg, (Below.heap_setCell _ _ _ _ (by omega)).trans hgg, rest⟩
theorem Row.rdH {e : Ty} {F : Flat e} {B : Nat} {w : World} {base : Nat} {te : TypeId} {v : Value} {x : List e.D} (h : Row F w base te v x) (hb : base ≤ w.heap.size) (hB : B < base) : (Ty.sl e).rd (hide B w) [v] x := by
  obtain ⟨A, c, fp, _, how, hfr⟩ := h.own hb
  exact Ty.ow_rd (ow_hideF how hfr hB)
theorem rd_lits (B : Nat) (w : World) (te : TypeId) (l : List (List UInt8)) (hl : ∀ s ∈ l, s.length ≤ 9223372036854775807) (hn : l.length ≤ 256) (hB : B < w.heap.size) :
    (Ty.sl .str).rd (hide B (w.alloc (.cells (l.map flatS.enc).toArray te))) [.slice (some ⟨w.heap.size, 0, none⟩) l.length l.length] l :=
  Row.rdH (F := flatS) (base := w.heap.size) ⟨World.ownsRow_lit w (l.map flatS.enc).toArray l.length (Nat.le_refl _) (by unfold maxLen; omega) (by simp), hl⟩ (by rw [World.size_alloc]; omega) hB
theorem rd_drewH {B : Nat} {w : World} {t : Ty} {cs : List Value} {x : t.D} (h : t.rd (hide B w) cs x) : t.rd (hide B w.drew) cs x := Dr.rd (Dr.drew (Dr.refl B w)) h
/-- A struct of one row, in memory of its own, and perhaps a plain value. -/
def RetRA (te : TypeId) (w : World) (x : List (List UInt8)) (e : Ending) (w' : World) : Prop := ∃ v, e = .returned (.agg #[v]) ∧ Row flatS w' w.heap.size te v x ∧ Below w.heap.size w w'
def RetRA2 (te : TypeId) (w : World) (x : List (List UInt8)) (u : Value) (e : Ending) (w' : World) : Prop := ∃ v, e = .returned (.tuple #[.agg #[v], u]) ∧ Row flatS w' w.heap.size te v x ∧ Below w.heap.size w w'
def apS (n : List (List UInt8)) (s : List UInt8) : List (List UInt8) × Bool := if validName (n ++ [s]) then (n ++ [s], true) else (n, false)
set_option maxHeartbeats 1000000 in
theorem C_spec_l4CopyR (w : World) (cs : List Value) (x : List (List UInt8)) (h : (Ty.sl .str).rd w cs x) (hx : x.length ≤ 1000000000000) :
    Calls Tryz.prog 57 #[.agg cs.toArray] w (RetRA 9 w x) := by
  obtain ⟨A0, c0, rfl⟩ := Ty.rd_slv h
  have hl0 : Row flatS (((w.alloc (.cells #[.slice A0 x.length c0] 32)).alloc (.cells #[.slice none 0 0] 32)).alloc (.cells #[] 9)) (w.heap.size + 1 + 1) 9 (.slice (some ⟨w.heap.size + 1 + 1, 0, none⟩) 0 0) [] := by
    have := Row.lit0 flatS ((w.alloc (.cells #[.slice A0 x.length c0] 32)).alloc (.cells #[.slice none 0 0] 32)) 9 (base := w.heap.size + 1 + 1) (by simp only [World.size_alloc]; omega)
    simp only [World.size_alloc] at this
    exact this
  have HL0 := Lib.hid hl0
  clear hl0
  go_enter Tryz.func57, Tryz.ntmps57
  set_option maxRecDepth 100000 in go_wp2_with (at_builtin; go_loud (refine wpList_append_row rfl _ _ 30 rfl flatS (w.heap.size + 1 + 1) 9 info_str rfl Tryz.underlying30 _ _ [] x rfl rfl HL0.out (Ty.rd_below (by repeat' (first | (with_reducible exact Below.refl _ _) | (with_reducible assumption) | (with_reducible refine bel_set ?_ (by (try dsimp only); omega) _) | (with_reducible refine bel_alloc ?_ _) | (with_reducible refine bel_drewN ?_ _) | (with_reducible refine bel_drew ?_))) h) ?_ ?_ ?_ ?_))
  case refine_1 => simp only [List.length_nil]; omega
  case refine_2 => simp only [List.length_nil]; unfold maxLen; omega
  case refine_3 => simp only [World.size_alloc]; omega
  intro v1 w1 hr1 hg1
  have hb1 : Below ((w.alloc (.cells #[.slice A0 x.length c0] 32)).alloc (.cells #[.slice none 0 0] 32)).heap.size ((w.alloc (.cells #[.slice A0 x.length c0] 32)).alloc (.cells #[.slice none 0 0] 32)) w1 := bel_grown (bel_alloc (Below.refl _ _) _) (by simp only [World.size_alloc]; omega) hg1 (fun g hg => by simp [Value.ownBlock] at hg; simp only [World.size_alloc]; omega)
  have hz1 := hb1.size
  simp only [World.size_alloc] at hz1
  obtain ⟨A1, c1, fp1, rfl, how1, hfr1⟩ := hr1.own (by omega)
  have hw1 : Below w.heap.size w w1 := bel_trans (by repeat' (first | (with_reducible exact Below.refl _ _) | (with_reducible assumption) | (with_reducible refine bel_set ?_ (by (try dsimp only); omega) _) | (with_reducible refine bel_alloc ?_ _) | (with_reducible refine bel_drewN ?_ _) | (with_reducible refine bel_drew ?_))) hb1
  obtain ⟨hc1, hf1⟩ := bcell hb1
  have z0 : w.heap.size < w1.heap.size := by omega
  have z1 : w.heap.size + 1 < w1.heap.size := by omega
  have HR1 := Lib.hid hr1
  clear hr1
  obtain ⟨A2, c2, hv2⟩ := HR1.out.form
  go_wp2
  refine bodyPost_ret (v := .agg #[.slice A1 (List.length x) c1]) (by simp [results, Tryz.results57, go_sem, hc1, hf1, z0, z1]) rfl ?_
  exact ⟨_, rfl, (row_setN HR1.out (by dsimp only; omega) _).mono (by omega), (by repeat' (first | (with_reducible exact Below.refl _ _) | (with_reducible assumption) | (with_reducible refine bel_set ?_ (by (try dsimp only); omega) _) | (with_reducible refine bel_alloc ?_ _) | (with_reducible refine bel_drewN ?_ _) | (with_reducible refine bel_drew ?_)))⟩
set_option maxHeartbeats 2000000 in
theorem C_spec_AppendPart (w : World) (v : Value) (n : List (List UInt8)) (s : List UInt8) (h : (Ty.sl .str).rd w [v] n) (hn : n.length ≤ 1000000) (hs : s.length ≤ 1000000) :
    Calls Tryz.prog 135 #[.agg #[v], vS s] w (RetRA2 9 w (apS n s).1 (.bool (apS n s).2)) := by
  obtain ⟨A0, c0, rfl, _, _, _⟩ := Ty.rd_sl h
  have hl0 : Row flatS (((w.alloc (.cells #[.slice A0 n.length c0] 32)).alloc (.cells #[.slice none 0 0] 32)).alloc (.cells #[] 9)) (w.heap.size + 1 + 1) 9 (.slice (some ⟨w.heap.size + 1 + 1, 0, none⟩) 0 0) [] := by
    have := Row.lit0 flatS ((w.alloc (.cells #[.slice A0 n.length c0] 32)).alloc (.cells #[.slice none 0 0] 32)) 9 (base := w.heap.size + 1 + 1) (by simp only [World.size_alloc]; omega)
    simp only [World.size_alloc] at this
    exact this
  have HL0 := Lib.hid hl0
  clear hl0
  go_enter Tryz.func135, Tryz.ntmps135
  set_option maxRecDepth 100000 in go_wp2_with (at_builtin; go_loud (refine wpList_append_row rfl _ _ 30 rfl flatS (w.heap.size + 1 + 1) 9 info_str rfl Tryz.underlying30 _ _ [] n rfl rfl HL0.out (Ty.rd_below (by repeat' (first | (with_reducible exact Below.refl _ _) | (with_reducible assumption) | (with_reducible refine bel_set ?_ (by (try dsimp only); omega) _) | (with_reducible refine bel_alloc ?_ _) | (with_reducible refine bel_drewN ?_ _) | (with_reducible refine bel_drew ?_))) h) ?_ ?_ ?_ ?_))
  case refine_1 => simp only [List.length_nil]; omega
  case refine_2 => simp only [List.length_nil]; unfold maxLen; omega
  case refine_3 => simp only [World.size_alloc]; omega
  intro v1 w1 hr1 hg1
  have hb1 : Below ((w.alloc (.cells #[.slice A0 n.length c0] 32)).alloc (.cells #[.slice none 0 0] 32)).heap.size ((w.alloc (.cells #[.slice A0 n.length c0] 32)).alloc (.cells #[.slice none 0 0] 32)) w1 := bel_grown (bel_alloc (Below.refl _ _) _) (by simp only [World.size_alloc]; omega) hg1 (fun g hg => by simp [Value.ownBlock] at hg; simp only [World.size_alloc]; omega)
  have hz1 := hb1.size
  simp only [World.size_alloc] at hz1
  have hw1 : Below w.heap.size w w1 := bel_trans (by repeat' (first | (with_reducible exact Below.refl _ _) | (with_reducible assumption) | (with_reducible refine bel_set ?_ (by (try dsimp only); omega) _) | (with_reducible refine bel_alloc ?_ _) | (with_reducible refine bel_drewN ?_ _) | (with_reducible refine bel_drew ?_))) hb1
  have HR1 := Lib.hid (show Row flatS w1 (w.heap.size + 1 + 1) 9 v1 n from hr1)
  have hA1 : Blk w1 w.heap.size 32 #[.slice A0 n.length c0] := ((Blk.new w _ _).alloc _).below hb1 (by simp only [World.size_alloc]; omega)
  have hO1 : Blk w1 (w.heap.size + 1) 32 #[.slice none 0 0] := by
    have := (Blk.new (w.alloc (.cells #[.slice A0 n.length c0] 32)) 32 #[.slice none 0 0]).below hb1 (by simp only [World.size_alloc]; omega)
    rwa [World.size_alloc] at this
  clear hr1
  have HL1 := Lib.hid (Row.lit1 flatS w1 9 s (by show s.length ≤ _; omega) (Nat.le_refl _))
  set_option maxRecDepth 100000 in go_wp2_with (at_builtin; go_loud (refine wpList_append_row rfl _ _ 30 rfl flatS (w.heap.size + 1 + 1) 9 info_str rfl Tryz.underlying30 _ _ n [s] rfl rfl (HR1.out.below (by repeat' (first | (with_reducible exact Below.refl _ _) | (with_reducible assumption) | (with_reducible refine bel_set ?_ (by (try dsimp only); omega) _) | (with_reducible refine bel_alloc ?_ _) | (with_reducible refine bel_drewN ?_ _) | (with_reducible refine bel_drew ?_)))) (HL1.out.rd (by (try simp only [World.size_alloc, World.size_setCell, size_drewN, World.size_drew]); omega)) ?_ ?_ ?_ ?_))
  case refine_1 => simp only [List.length_singleton]; omega
  case refine_2 => simp only [List.length_singleton]; unfold maxLen; omega
  case refine_3 => simp only [World.size_alloc]; omega
  intro v2 w2 hr2 hg2
  have hne : ∀ g, g < w.heap.size + 1 + 1 → some g ≠ v1.ownBlock := fun g hg e => by have := (HR1.out.block _ e.symm).1; omega
  have hA2 : Blk w2 w.heap.size 32 #[.slice A0 n.length c0] := (hA1.alloc _).grown hg2 (hne _ (by omega))
  have hO2 : Blk w2 (w.heap.size + 1) 32 #[.slice none 0 0] := (hO1.alloc _).grown hg2 (hne _ (by omega))
  have hw2 : Below w.heap.size w w2 := bel_grown (bel_alloc hw1 _) (by simp only [World.size_alloc]; omega) hg2 (fun g hg => by have := (HR1.out.block g hg).1; omega)
  have hz2 := hg2.size
  simp only [World.size_alloc] at hz2
  obtain ⟨A2, c2, rfl⟩ := hr2.form
  have HR2 := Lib.hid hr2
  have hm2 := HR2.out
  have how2 := hm2.own (by omega)
  obtain ⟨A2', c2', fp2, hv2, how2, hfr2⟩ := how2
  have hval := C_spec_ValidName (w2.alloc (.cells #[.slice A2 (n ++ [s]).length c2] 32)) [.slice A2 (n ++ [s]).length c2] (n ++ [s]) (Ty.rd_below (by repeat' (first | (with_reducible exact Below.refl _ _) | (with_reducible assumption) | (with_reducible refine bel_set ?_ (by (try dsimp only); omega) _) | (with_reducible refine bel_alloc ?_ _) | (with_reducible refine bel_drewN ?_ _) | (with_reducible refine bel_drew ?_))) (Ty.ow_rd how2))
  have HNO := Lib.hid (fun h : validName (n ++ [s]) = false => show apS n s = (n, false) from by unfold apS; rw [h]; rfl)
  have HYES := Lib.hid (fun h : validName (n ++ [s]) = true => show apS n s = (n ++ [s], true) from by unfold apS; rw [if_pos h])
  generalize validName (n ++ [s]) = vv at hval HNO HYES
  have hk2 : w2.cell? ⟨w.heap.size, 0, none⟩ = some (.slice A0 n.length c0) := hA2.cell 0
  clear hr2 hm2 hg2 hne
  generalize hnn : (n ++ [s]).length = nn at *
  go_wp2_with fail
  refine hval.mono ?_
  rintro e w3 ⟨rfl, hb3⟩
  have hs3 := hb3.size
  simp only [World.size_alloc] at hs3
  have hx3 : Below w2.heap.size w2 w3 := bel_trans (bel_alloc (Below.refl _ _) _) hb3
  have hw3 : Below w.heap.size w w3 := bel_trans hw2 hx3
  have hA3 := hA2.below hx3 (by omega)
  have hO3 := hO2.below hx3 (by omega)
  have hP3 : Blk w3 w2.heap.size 32 #[.slice A2 nn c2] := (Blk.new w2 _ _).below hb3 (by rw [World.size_alloc]; omega)
  have kA3 : w3.cell? ⟨w.heap.size, 0, none⟩ = some (.slice A0 n.length c0) := hA3.cell 0
  have kO3 : w3.cell? ⟨w.heap.size + 1, 0, none⟩ = some (.slice none 0 0) := hO3.cell 0
  have fO3 : w3.frozen? ⟨w.heap.size + 1, 0, none⟩ = false := hO3.frozen 0
  have kP3 : w3.cell? ⟨w2.heap.size, 0, none⟩ = some (.slice A2 nn c2) := hP3.cell 0
  have z3 : w.heap.size + 1 < w3.heap.size := by omega
  have y3 : w2.heap.size < w3.heap.size := by omega
  clear hk2 hval
  cases vv with
  | true =>
    have HY := Lib.hid (HYES.out rfl)
    go_wp2
    refine bodyPost_ret (v := .tuple #[.agg #[.slice A2 nn c2], .bool true]) (by simp [results, Tryz.results135, go_sem, kO3, fO3, z3]) rfl ?_
    rw [HY.out]
    exact ⟨_, rfl, (row_setN (HR2.out.below hx3) (by dsimp only; omega) _).mono (by omega), (by repeat' (first | (with_reducible exact Below.refl _ _) | (with_reducible assumption) | (with_reducible refine bel_set ?_ (by (try dsimp only); omega) _) | (with_reducible refine bel_alloc ?_ _) | (with_reducible refine bel_drewN ?_ _) | (with_reducible refine bel_drew ?_)))⟩
  | false =>
    have HN := Lib.hid (HNO.out rfl)
    go_wp2_with fail
    refine (C_spec_l4CopyR _ _ n (Ty.rd_below hw3 h) (by omega)).mono ?_
    rintro e w4 ⟨v4, rfl, hr4, hb4⟩
    have hO4 := hO3.below hb4 z3
    have kO4 : w4.cell? ⟨w.heap.size + 1, 0, none⟩ = some (.slice none 0 0) := hO4.cell 0
    have fO4 : w4.frozen? ⟨w.heap.size + 1, 0, none⟩ = false := hO4.frozen 0
    have z4 : w.heap.size + 1 < w4.heap.size := hO4.lt
    have hs4 := hb4.size
    have HR4 := Lib.hid hr4
    obtain ⟨A4, c4, rfl⟩ := hr4.form
    clear hr4 kO3 fO3
    go_wp2
    refine bodyPost_ret (v := .tuple #[.agg #[.slice A4 n.length c4], .bool false]) (by simp [results, Tryz.results135, go_sem, kO4, fO4, z4]) rfl ?_
    rw [HN.out]
    exact ⟨_, rfl, (row_setN HR4.out (by dsimp only; omega) _).mono (by omega), bel_set (bel_trans hw3 hb4) (by dsimp only; omega) _⟩
end Go.Proofs.YtldgbnlcnlfmeaaGreat

/- Names drawn. Printed by gen50.py. -/
namespace Go.Proofs.YtldgbnlcnlfmeaaGreat
open Go.RowKit
set_option linter.unusedVariables false
set_option linter.unusedSimpArgs false

theorem Blk.c1 {w : World} {g : Nat} {t : TypeId} {v : Value} (h : Blk w g t #[v]) : w.cell? ⟨g, 0, none⟩ = some v := h.cell 0
theorem Blk.f1 {w : World} {g i : Nat} {t : TypeId} {cs : Array Value} (h : Blk w g t cs) : w.frozen? ⟨g, i, none⟩ = false := h.frozen i
theorem rd_litsA {B : Nat} {w : World} {te : TypeId} {l : List (List UInt8)} {arr : Array Value} {g n c : Nat} (ha : arr = (l.map flatS.enc).toArray) (hl : (l.all fun s => decide (s.length ≤ 256)) = true) (hg : g = w.heap.size) (hn : n = l.length) (hc : c = n) (h256 : l.length ≤ 256) (hB : B < w.heap.size) :
    (Ty.sl .str).rd (hide B (w.alloc (.cells arr te))) [.slice (some ⟨g, 0, none⟩) n c] l := by
  subst ha hg hn hc
  exact rd_lits B w te l (fun s hs => by have := List.all_eq_true.1 hl s hs; simp only [decide_eq_true_eq] at this; omega) h256 hB
theorem validName_len {n : List (List UInt8)} (h : validName n = true) : n.length ≤ 6 := by
  unfold validName at h
  simp only [Bool.and_eq_true, decide_eq_true_eq] at h
  exact h.2
end Go.Proofs.YtldgbnlcnlfmeaaGreat

/- What a draw hands back: memory of its own. No program in sight. Printed by gen52.py. -/
namespace Go.Proofs.YtldgbnlcnlfmeaaGreat
open Go.RowKit
set_option linter.unusedVariables false
set_option linter.unusedSimpArgs false

section
variable {t : Ty} {w w' : World} {cs : List Value} {x : t.D} {fp : List Nat} {lo hi B : Nat}
theorem owSet (h : t.ow w cs x fp) (hf : FrI lo hi fp) {p : Addr} (hp : p.block < lo) (u : Value) : t.ow (w.setCell p u) cs x fp :=
  Ty.ow_keep (fun b hb => Below.heap_setCell _ _ _ _ (by have := (hf.2 b hb).1; omega)) h
theorem owSetH (h : t.ow w cs x fp) (hf : FrI lo hi fp) {p : Addr} (hp : hi ≤ p.block) (u : Value) : t.ow (w.setCell p u) cs x fp :=
  Ty.ow_keep (fun b hb => Below.heap_setCell _ _ _ _ (by have := (hf.2 b hb).2; omega)) h
theorem owAlloc (h : t.ow w cs x fp) (o : Obj) : t.ow (w.alloc o) cs x fp := Ty.ow_bel (bel_alloc (Below.refl _ _) o) h
theorem owDr (h : t.ow w cs x fp) (hf : FrI lo hi fp) (hB : B < lo) (hd : Dr B w w') : t.ow w' cs x fp := Dr.ow hd h (fun hm => by have := (hf.2 _ hm).1; omega)
theorem owBel (h : t.ow w cs x fp) (hb : Below w.heap.size w w') : t.ow w' cs x fp := Ty.ow_bel hb h
end
theorem Row.ow {e : Ty} {F : Flat e} {w : World} {base : Nat} {te : TypeId} {A : Option Addr} {c n : Nat} {x : List e.D} (h : Row F w base te (.slice A n c) x) (hb : base ≤ w.heap.size) : ∃ fp, (Ty.sl e).ow w [.slice A n c] x fp ∧ FrI base w.heap.size fp := by
  obtain ⟨A', c', fp, hv, how, hfr⟩ := h.own hb
  exact ⟨fp, how, hfr⟩
theorem DRow.ow_ {e : Ty} {w : World} {base : Nat} {te : TypeId} {A : Option Addr} {c n : Nat} {x : List e.D} (h : DRow e w base te (.slice A n c) x) : ∃ fp, (Ty.sl e).ow w [.slice A n c] x fp ∧ FrI base w.heap.size fp := by
  obtain ⟨A', c', fp, hv, how, hfr⟩ := h.own
  exact ⟨fp, how, hfr⟩
/-- A call that draws, and hands back a struct in memory of its own. -/
def DrA (t : Ty) (w : World) (ok : t.D → Prop) (e : Ending) (w' : World) : Prop := ∃ cs x fp, e = .returned (.agg cs.toArray) ∧ t.ow w' cs x fp ∧ FrI w.heap.size w'.heap.size fp ∧ ok x
def DrS (t : Ty) (w : World) (ok : List t.D → Prop) (e : Ending) (w' : World) : Prop := ∃ A x c fp, e = .returned (.slice A (List.length x) c) ∧ (Ty.sl t).ow w' [.slice A (List.length x) c] x fp ∧ FrI w.heap.size w'.heap.size fp ∧ ok x
theorem Dr.grown {B : Nat} {w w1 w' : World} {row : Option Nat} (h : Dr B w w1) (hg : w1.grownBy w' row) (hr : ∀ g, row = some g → w.heap.size ≤ g) : Dr B w w' := by
  have h1 := h.size
  refine ⟨hg.os.trans h.os, hg.tape.trans h.tape, hg.output.trans h.output, by rw [hide_size, hide_size]; have := hg.size; omega, fun k hk => ?_⟩
  by_cases e : k = B
  · subst e
    rw [hide_same (by have := hg.size; omega), hide_same hk]
  · rw [hide_other e, hide_other e, hg.block k (by omega) (fun e' => by have := hr k e'.symm; omega)]
    have := Below.block h k hk
    rw [hide_other e, hide_other e] at this
    exact this
theorem name_bulk {n : List (List UInt8)} (h : validName n = true) : Ty.bulk (.sl .str) n ≤ 54 := by
  have h6 := validName_len h
  have h8 : ∀ s ∈ n, s.length ≤ 8 := fun s hs => by
    unfold validName at h
    simp only [Bool.and_eq_true, List.all_eq_true] at h
    have := h.1 s hs
    unfold validPart at this
    simp only [Bool.and_eq_true, decide_eq_true_eq] at this
    omega
  have key : ∀ n : List (List UInt8), (∀ s ∈ n, s.length ≤ 8) → Ty.bulk (.sl .str) n ≤ n.length * 9 := by
    intro n
    induction n with
    | nil => intro _; exact Nat.le_refl _
    | cons a n ih =>
      intro h
      have h1 := ih (fun s hs => h s (List.mem_cons_of_mem _ hs))
      have h2 := h a (List.mem_cons_self ..)
      have h3 := bulk_app (e := .str) [a] n
      have h4 := bulk_one (e := .str) a
      rw [List.singleton_append] at h3
      have h5 : Ty.bulk .str a = a.length := rfl
      rw [h3, h4, h5, List.length_cons]
      omega
  have := key n h8
  omega
end Go.Proofs.YtldgbnlcnlfmeaaGreat

/- Bytes drawn. Printed by gen55.py. -/
namespace Go.Proofs.YtldgbnlcnlfmeaaGreat
open Go.RowKit
set_option linter.unusedVariables false
set_option linter.unusedSimpArgs false

set_option maxRecDepth 100000 in
set_option maxHeartbeats 2000000 in
theorem C_spec_l1Bytes (w : World) (B n : Nat) (hc : CurT w B) (hn : n ≤ 256) :
    Calls Tryz.prog 94 #[pB B, .int .i64 n] w (RetDT B w (DrS .byte w (fun x => x.length = n))) := by
  have hB := hc.lt
  go_enter Tryz.func94, Tryz.ntmps94
  go_wp2
  go_loopw [5, 6] (fun v i wr => ∃ (k : Nat) (x : List UInt8), i = .int .i64 k ∧ k ≤ n ∧ x.length = k ∧ CurT wr B ∧ Dr B w wr ∧ Row flatB wr w.heap.size 5 v x) (fun _ i _ => n - (intOf i).toNat)
  case atStart => exact ⟨0, [], rfl, by omega, rfl, (by repeat' (first | (with_reducible assumption) | (with_reducible refine Cur.far ?_ (by (try dsimp only); omega) _) | (with_reducible refine Cur.alloc ?_ _) | (with_reducible refine Cur.drewN ?_ _) | (with_reducible refine Cur.drew ?_))), (by repeat' (first | (with_reducible exact Dr.refl _ _) | (with_reducible assumption) | (with_reducible refine Dr.set ?_ (by (try dsimp only); omega) _) | (with_reducible refine Dr.alloc ?_ _) | (with_reducible refine Dr.drewN ?_ _) | (with_reducible refine Dr.drew ?_) | (with_reducible refine Dr.trans ?_ (by assumption)))), Row.lit0 flatB w 5 (Nat.le_refl _)⟩
  case round =>
    obtain ⟨k, x, rfl, hk, rfl, hcr, hdr, hR⟩ := hrel
    have zr := hdr.size
    obtain ⟨A, c, rfl⟩ := hR.form
    have HR := Lib.hid hR
    clear hR
    by_cases hlt : x.length < n
    · go_wp2_with fail
      refine (C_spec_l1Byte _ B (by repeat' (first | (with_reducible assumption) | (with_reducible refine Cur.far ?_ (by (try dsimp only); omega) _) | (with_reducible refine Cur.alloc ?_ _) | (with_reducible refine Cur.drewN ?_ _) | (with_reducible refine Cur.drew ?_)))).mono ?_
      rintro e w3 ⟨hd3, hc3, y, rfl, hy0, hy1⟩
      have z3 := hd3.size
      (try simp only [World.size_drew, size_drewN] at z3)
      have E3 : Dr B wr w3 := (by repeat' (first | (with_reducible exact Dr.refl _ _) | (with_reducible assumption) | (with_reducible refine Dr.set ?_ (by (try dsimp only); omega) _) | (with_reducible refine Dr.alloc ?_ _) | (with_reducible refine Dr.drewN ?_ _) | (with_reducible refine Dr.drew ?_) | (with_reducible refine Dr.trans ?_ (by assumption))))
      have D3 : Dr B w w3 := hdr.trans E3
      have HR3 := Lib.hid (Row.dr HR.out E3 hB)
      have hyu : (.int .u8 (y : Int) : Value) = flatB.enc (UInt8.ofNat y.toNat) := by
        show _ = Value.int .u8 ((UInt8.ofNat y.toNat).toNat : Int)
        congr 1
        simp only [UInt8.toNat_ofNat']
        omega
      have hwy : IntKind.u8.wrap y = y := IntWalk.u8_in _ (by omega)
      have HL : Hid (Row flatB (w3.alloc (.cells #[.int .u8 y] 5)) w.heap.size 5 (.slice (some ⟨w3.heap.size, 0, none⟩) 1 1) [UInt8.ofNat y.toNat]) := by rw [hyu]; exact Row.lit1 flatB w3 5 _ trivial (by omega)
      clear hd3 hyu
      set_option maxRecDepth 100000 in go_wp2_with (at_builtin; go_loud (refine wpList_append_row rfl _ _ 22 rfl flatB w.heap.size 5 info_Byte rfl Tryz.underlying22 _ _ x [UInt8.ofNat y.toNat] rfl rfl (HR3.out.below (by repeat' (first | (with_reducible exact Below.refl _ _) | (with_reducible assumption) | (with_reducible refine bel_set ?_ (by (try dsimp only); omega) _) | (with_reducible refine bel_alloc ?_ _) | (with_reducible refine bel_drewN ?_ _) | (with_reducible refine bel_drew ?_)))) (HL.out.rd (by (try simp only [World.size_alloc, World.size_setCell, size_drewN, World.size_drew]); omega)) ?_ ?_ ?_ ?_))
      case refine_1 => simp only [List.length_singleton]; omega
      case refine_2 => simp only [List.length_singleton]; unfold maxLen; omega
      case refine_3 => simp only [World.size_alloc]; omega
      intro v' w' hr' hg'
      have hbl := HR3.out.block
      have D4 : Dr B w w' := Dr.grown (Dr.alloc D3 _) hg' (fun g hg => (hbl g hg).1)
      have C4 : CurT w' B := Cur.grown (Cur.alloc hc3 _) hg' (fun g hg => by have := (hbl g hg).1; omega)
      have HR' := Lib.hid (show Row flatB w' w.heap.size 5 v' (x ++ [UInt8.ofNat y.toNat]) from hr')
      obtain ⟨A5, c5, rfl⟩ := HR'.out.form
      clear hr' hg' hbl
      go_wp2
      go_roundw
      case rel => exact ⟨x.length + 1, _, by go_num, by omega, by simp, C4, D4, HR'.out⟩
      case measure => simp [intOf]; omega
    · go_wp2
      go_ret
      obtain ⟨fp9, how9, hfr9⟩ := HR.out.ow zr
      exact ⟨hdr, hcr, _, x, _, fp9, rfl, how9, hfr9, by omega⟩
end Go.Proofs.YtldgbnlcnlfmeaaGreat

/- Rows of structs with memory of their own, the blocks told. No program in sight. -/
namespace Go.Proofs.YtldgbnlcnlfmeaaGreat
open Go.RowKit
set_option linter.unusedVariables false
set_option linter.unusedSimpArgs false

/-- What an append takes in, its blocks told. -/
def SrcF (e : Ty) (w : World) (u : Value) (y : List e.D) (fp : List Nat) : Prop :=
  ∃ A c fs, u = .slice A y.length c ∧ fp = (List.range y.length).flatMap fs ∧
    (0 < y.length → ∃ b o, A = some ⟨b, o, none⟩ ∧ ∀ i (h : i < y.length), ∃ ds : List Value, ds.length = e.sz ∧ (∀ j, j < e.sz → w.cell? ⟨b, o + i * e.sz + j, none⟩ = ds[j]?) ∧ e.ow w ds y[i] (fs i))
theorem SrcF.lit {e : Ty} {w : World} {c g : Nat} (te : TypeId) {ds : List Value} {d : e.D} {f : List Nat} (how : e.ow w ds d f) (hg : g = w.heap.size) :
    SrcF e (w.alloc (.cells ds.toArray te)) (.slice (some ⟨g, 0, none⟩) 1 c) [d] f := by
  subst hg
  refine ⟨_, c, fun _ => f, rfl, by simp, fun _ => ⟨_, _, rfl, fun i hi => ?_⟩⟩
  obtain rfl : i = 0 := by simpa using hi
  exact ⟨ds, Ty.ow_len how, fun j hj => by rw [Nat.zero_mul, Nat.add_zero, Nat.zero_add]; exact (cell_new w te ds.toArray j rfl).trans (by simp), Ty.ow_bel ((Below.refl _ _).alloc (Nat.le_refl _) _) how⟩
/-- A row of elements whose memory lies in the blocks fp. -/
def DRowF (e : Ty) (w : World) (base : Nat) (te : TypeId) (v : Value) (x : List e.D) (fp : List Nat) : Prop :=
  ∃ (css : Nat → List Value) (fs : Nat → List Nat), w.ownsRow base te e.sz v x.length ((List.range x.length).flatMap css) ∧
    (∀ i (h : i < x.length), (css i).length = e.sz ∧ e.ow w (css i) x[i] (fs i)) ∧
    fp = (List.range x.length).flatMap fs ∧ (∀ g, v.ownBlock = some g → g ∉ fp)
theorem DRowF.lit0 (e : Ty) (w : World) (te : TypeId) {base : Nat} (hb : base ≤ w.heap.size) : DRowF e (w.alloc (.cells #[] te)) base te (.slice (some ⟨w.heap.size, 0, none⟩) 0 0) [] [] :=
  ⟨fun _ => [], fun _ => [], World.ownsRow_lit w #[] 0 hb (by unfold maxLen; omega) (by simp), fun i h => absurd h (by simp), rfl, fun g h => by simp⟩
section
variable {e : Ty} {w w' : World} {base : Nat} {te : TypeId} {v : Value} {x : List e.D} {fp : List Nat}
theorem DRowF.drow (h : DRowF e w base te v x fp) (hf : FrI base w.heap.size fp) : DRow e w base te v x := by
  obtain ⟨css, fs, h1, h2, h3, h4⟩ := h
  subst h3
  exact ⟨css, fs, h1, h2, hf, h4⟩
theorem DRowF.block (h : DRowF e w base te v x fp) : ∀ g, v.ownBlock = some g → base ≤ g ∧ g < w.heap.size := by
  obtain ⟨css, fs, h, _⟩ := h
  exact h.lt
/-- The row stays as long as its own block and the blocks of its elements stay. -/
theorem DRowF.keep (h : DRowF e w base te v x fp) (hsz : w.heap.size ≤ w'.heap.size) (hk : ∀ b, b ∈ fp → w'.heap[b]? = w.heap[b]?) (ho : ∀ g, v.ownBlock = some g → w'.heap[g]? = w.heap[g]?) : DRowF e w' base te v x fp := by
  obtain ⟨css, fs, h1, h2, h3, h4⟩ := h
  refine ⟨css, fs, ⟨h1.1, ?_⟩, fun i hi => ⟨(h2 i hi).1, Ty.ow_keep (fun b hb' => hk b ?_) (h2 i hi).2⟩, h3, h4⟩
  · rcases h1.2 with hn | ⟨g, cap, cur, rfl, hbg, hgg, rest⟩
    · exact .inl hn
    · exact .inr ⟨g, cap, cur, rfl, hbg, (ho g rfl).trans hgg, rest⟩
  · rw [h3]; exact List.mem_flatMap.2 ⟨i, List.mem_range.2 hi, hb'⟩
theorem DRowF.mem_lt (h : DRowF e w base te v x fp) : ∀ b ∈ fp, b < w.heap.size := by
  obtain ⟨css, fs, h1, h2, h3, h4⟩ := h
  intro b hb
  rw [h3] at hb
  obtain ⟨i, hi, hb⟩ := List.mem_flatMap.1 hb
  exact Ty.ow_lt (h2 i (List.mem_range.1 hi)).2 b hb
theorem DRowF.below (h : DRowF e w base te v x fp) (hb : Below w.heap.size w w') : DRowF e w' base te v x fp :=
  h.keep hb.size (fun b hm => hb.block b (h.mem_lt b hm)) (fun g hg => hb.block g (h.block g hg).2)
end
theorem run_append_drowF {P : Program} {w : World} {e : Ty} (base : Nat) (t ty te : TypeId) {z : Value} {by_ : Nat} (hinfo : (P.info? te).map (fun i => (i.zero, i.size, i.bytes)) = some (some z, e.sz, by_)) (hz1 : z.cells.size = e.sz) (ht : P.underlying t = some (.slice te))
    (v u : Value) (x y : List e.D) (fp fq : List Nat) (hown : DRowF e w base te v x fp) (hy : SrcF e w u y fq) (hvy : ∀ g, v.ownBlock = some g → g ∉ fq) (hbytes : (x.length + y.length) * by_ ≤ 140737488355328) (hlen : x.length + y.length ≤ maxLen) (hbase : base ≤ w.heap.size) :
    ∃ v' w', (Builtin.append_ #[t, t] ty #[v, u]).run P w = .ok v' w' ∧ DRowF e w' base te v' (x ++ y) (fp ++ fq) ∧ w.grownBy w' v.ownBlock ∧ (v'.ownBlock = v.ownBlock ∨ v'.ownBlock = some w.heap.size) := by
  obtain ⟨i, hi, hzz⟩ := Option.map_eq_some_iff.1 hinfo
  simp only [Prod.mk.injEq] at hzz
  obtain ⟨hz, hsz, hby⟩ := hzz
  have hlt0 := hown.block
  have hmem := hown.mem_lt
  obtain ⟨css, fs, h1, h2, h3, h4⟩ := hown
  obtain ⟨A, c, fs', rfl, hfq, hel⟩ := hy
  by_cases h0 : y.length = 0
  · have hy0 : y = [] := List.eq_nil_of_length_eq_zero h0
    subst hy0
    have hfq0 : fq = [] := hfq
    subst hfq0
    refine ⟨v, w, run_append_zero base t ty te i e.sz ht hi v _ _ h1 A c, ?_, World.grownBy.refl _ _, .inl rfl⟩
    rw [List.append_nil, List.append_nil]
    exact ⟨css, fs, h1, h2, h3, h4⟩
  · obtain ⟨b, o, rfl, hel2⟩ := hel (by omega)
    have hpos := Ty.sz_pos e
    have hds : ∃ dss : Nat → List Value, ∀ i (h : i < y.length), (dss i).length = e.sz ∧ (∀ j, j < e.sz → w.cell? ⟨b, o + i * e.sz + j, none⟩ = (dss i)[j]?) ∧ e.ow w (dss i) y[i] (fs' i) := by
      refine ⟨fun i => if h : i < y.length then (hel2 i h).choose else [], fun i h => ?_⟩
      simp only [dif_pos h]
      exact (hel2 i h).choose_spec
    obtain ⟨dss, hd⟩ := hds
    have hqlt : ∀ b ∈ fq, b < w.heap.size := by
      intro b' hb'
      rw [hfq] at hb'
      obtain ⟨i, hi, hb'⟩ := List.mem_flatMap.1 hb'
      exact Ty.ow_lt (hd i (List.mem_range.1 hi)).2.2 b' hb'
    have hl : ((List.range y.length).flatMap dss).length = y.length * e.sz := fmr_len dss e.sz y.length (fun i hi => (hd i hi).1)
    have hcells : ∀ j u, ((List.range y.length).flatMap dss)[j]? = some u → w.cell? ((⟨b, o, none⟩ : Addr).add j) = some u := by
      intro j u hj
      have hjl : j < y.length * e.sz := by rw [← hl]; exact (List.getElem?_eq_some_iff.1 hj).1
      have hdiv : j / e.sz < y.length := (Nat.div_lt_iff_lt_mul hpos).2 hjl
      have hmod : j % e.sz < e.sz := Nat.mod_lt _ hpos
      have hjj : j / e.sz * e.sz + j % e.sz = j := by rw [Nat.mul_comm]; exact Nat.div_add_mod j e.sz
      have h5 := (hd _ hdiv).2.1 _ hmod
      have h6 := fmr_get dss e.sz y.length (fun i hi => (hd i hi).1) _ _ hdiv hmod
      rw [hjj, hj] at h6
      rw [Addr.add_lit, show o + j = o + j / e.sz * e.sz + j % e.sz from by omega, h5, ← h6]
    have hones : ∀ u ∈ (List.range y.length).flatMap dss, u.oneCell' = true := by
      intro u hu
      obtain ⟨k, hk, hu⟩ := List.mem_flatMap.1 hu
      exact Ty.ow_ones (hd k (List.mem_range.1 hk)).2.2 u hu
    obtain ⟨v', w', hr, g1, g2, _, g3⟩ := run_append_own_at (P := P) w base t ty te i z e.sz by_ ht hi hz hsz hby hz1 hpos v x.length _ h1 ⟨b, o, none⟩ y.length c ((List.range y.length).flatMap dss) hl hcells hones hlen hbytes hbase
    refine ⟨v', w', hr, ⟨glue x.length css dss, glue x.length fs fs', ?_, ?_, ?_, ?_⟩, g2, g3⟩
    · rw [List.length_append, fmr_glue]; exact g1
    · intro k hk
      by_cases hkx : k < x.length
      · rw [glue_lt hkx, glue_lt hkx, List.getElem_append_left hkx]
        refine ⟨(h2 k hkx).1, Ty.ow_keep (fun b' hb' => ?_) (h2 k hkx).2⟩
        have hm : b' ∈ fp := by rw [h3]; exact List.mem_flatMap.2 ⟨k, List.mem_range.2 hkx, hb'⟩
        exact g2.block b' (hmem b' hm) (fun e' => h4 b' e'.symm hm)
      · obtain ⟨m, rfl⟩ : ∃ m, k = x.length + m := ⟨k - x.length, by omega⟩
        have hm : m < y.length := by rw [List.length_append] at hk; omega
        rw [glue_ge, glue_ge, List.getElem_append_right (by omega)]
        simp only [Nat.add_sub_cancel_left]
        refine ⟨(hd m hm).1, Ty.ow_keep (fun b' hb' => ?_) (hd m hm).2.2⟩
        have hm' : b' ∈ fq := by rw [hfq]; exact List.mem_flatMap.2 ⟨m, List.mem_range.2 hm, hb'⟩
        exact g2.block b' (hqlt b' hm') (fun e' => hvy b' e'.symm hm')
    · rw [List.length_append, fmr_glue, h3, hfq]
    · intro g hg hmem'
      rcases g3 with g3 | g3
      · rw [g3] at hg
        rcases List.mem_append.1 hmem' with hm | hm
        · exact h4 g hg hm
        · exact hvy g hg hm
      · rw [g3] at hg
        have hg' : w.heap.size = g := by simpa using hg
        rcases List.mem_append.1 hmem' with hm | hm
        · have := hmem g hm; omega
        · have := hqlt g hm; omega
/-- 'append(out, y...)' for the walk. -/
theorem wpList_append_drowF {P : Program} {w : World} {ops : Array Oper} {rest : List Oper} {o : Oper} {a : Act} {Q : Exit → Act → World → Prop} (hgd : o.guard = none) (s xo : Operand) (t : TypeId)
    (ho : o.op = .call { callee := .builtin .append, args := #[s, xo], argTypes := #[t, t] }) {e : Ty} (base : Nat) (te : TypeId) {z : Value} {by_ : Nat}
    (hinfo : (P.info? te).map (fun i => (i.zero, i.size, i.bytes)) = some (some z, e.sz, by_)) (hz1 : z.cells.size = e.sz) (ht : P.underlying t = some (.slice te))
    (v u : Value) (x y : List e.D) (fp fq : List Nat) (hs : a.eval s = v) (hx : a.eval xo = u) (hown : DRowF e w base te v x fp) (hy : SrcF e w u y fq) (hvy : ∀ g, v.ownBlock = some g → g ∉ fq) (hbytes : (x.length + y.length) * by_ ≤ 140737488355328) (hlen : x.length + y.length ≤ maxLen) (hbase : base ≤ w.heap.size)
    (h : ∀ v' w', DRowF e w' base te v' (x ++ y) (fp ++ fq) → w.grownBy w' v.ownBlock → (v'.ownBlock = v.ownBlock ∨ v'.ownBlock = some w.heap.size) → wpList P ops Q rest (a.put o.dst v') w') : wpList P ops Q (o :: rest) a w := by
  obtain ⟨v', w', hr, h2, h3, h4⟩ := run_append_drowF (P := P) base t o.type te hinfo hz1 ht v u x y fp fq hown hy hvy hbytes hlen hbase
  refine wpList_plain hgd fun K hK => ?_
  unfold Oper.wp execOp
  simp only [ho, resolve, invoke, builtin, Sem.run_bind, Sem.run_pure, Result.andThen_ok, List.map_toArray, List.map_cons, List.map_nil, hs, hx, hr]
  exact hK _ _ (h v' w' h2 h3 h4)
end Go.Proofs.YtldgbnlcnlfmeaaGreat

/- Appends to a row behind draws. No program in sight. Printed by gen57.py. -/
namespace Go.Proofs.YtldgbnlcnlfmeaaGreat
open Go.RowKit
set_option linter.unusedVariables false
set_option linter.unusedSimpArgs false

theorem DRow.dr {e : Ty} {B : Nat} {w w' : World} {base : Nat} {te : TypeId} {v : Value} {x : List e.D} (h : DRow e w base te v x) (hd : Dr B w w') (hB : B < base) : DRow e w' base te v x := by
  obtain ⟨css, fs, h1, h2, h3, h4⟩ := h
  refine ⟨css, fs, ⟨h1.1, ?_⟩, fun i hi => ⟨(h2 i hi).1, Dr.ow hd (h2 i hi).2 (fun hm => ?_)⟩, h3.mono (Nat.le_refl _) hd.size, h4⟩
  · rcases h1.2 with hn | ⟨g, cap, cur, rfl, hbg, hgg, rest⟩
    · exact .inl hn
    · exact .inr ⟨g, cap, cur, rfl, hbg, (Dr.block hd (Blk.lt (t := te) (cs := cur) hgg) (by omega)).trans hgg, rest⟩
  · have hm2 : B ∈ (List.range x.length).flatMap fs := List.mem_flatMap.2 ⟨i, List.mem_range.2 hi, hm⟩
    have := (h3.2 B hm2).1; omega
theorem DRow.rdH {e : Ty} {B : Nat} {w : World} {base : Nat} {te : TypeId} {v : Value} {x : List e.D} (h : DRow e w base te v x) (hB : B < base) : (Ty.sl e).rd (hide B w) [v] x := by
  obtain ⟨A, c, fp, _, how, hfr⟩ := h.own
  exact Ty.ow_rd (ow_hideF how hfr hB)
theorem DRow.toFd {e : Ty} {w : World} {base : Nat} {te : TypeId} {v : Value} {x : List e.D} (h : DRow e w base te v x) : ∃ fp, DRowF e w base te v x fp ∧ FrI base w.heap.size fp := by
  obtain ⟨css, fs, h1, h2, h3, h4⟩ := h
  exact ⟨_, ⟨css, fs, h1, h2, rfl, h4⟩, h3⟩
theorem Src.toF {e : Ty} {w : World} {lo : Nat} {u : Value} {y : List e.D} (h : Src e w lo u y) : ∃ fq, SrcF e w u y fq ∧ FrI lo w.heap.size fq := by
  obtain ⟨A, c, fs, hu, hf, hc⟩ := h
  exact ⟨_, ⟨A, c, fs, hu, rfl, hc⟩, hf⟩
theorem DRow.setN {e : Ty} {w : World} {base : Nat} {te : TypeId} {v : Value} {x : List e.D} (h : DRow e w base te v x) {p : Addr} (hp : p.block < base) (u : Value) : DRow e (w.setCell p u) base te v x := by
  obtain ⟨css, fs, h1, h2, h3, h4⟩ := h
  refine ⟨css, fs, ⟨h1.1, ?_⟩, fun i hi => ⟨(h2 i hi).1, Ty.ow_keep (fun b hb => Below.heap_setCell _ _ _ _ ?_) (h2 i hi).2⟩, by rw [World.size_setCell]; exact h3, h4⟩
  · rcases h1.2 with hn | ⟨g, cap, cur, rfl, hbg, hgg, rest⟩
    · exact .inl hn
    · exact .inr ⟨g, cap, cur, rfl, hbg, (Below.heap_setCell _ _ _ _ (by omega)).trans hgg, rest⟩
  · have hm : b ∈ (List.range x.length).flatMap fs := List.mem_flatMap.2 ⟨i, List.mem_range.2 hi, hb⟩
    have := (h3.2 b hm).1; omega
/-- 'append' to a row that was stated ahead of some draws: what is taken in lies behind it. -/
theorem wpList_append_drowD {P : Program} {w : World} {ops : Array Oper} {rest : List Oper} {o : Oper} {a : Act} {Q : Exit → Act → World → Prop} (hgd : o.guard = none) (s xo : Operand) (t : TypeId)
    (ho : o.op = .call { callee := .builtin .append, args := #[s, xo], argTypes := #[t, t] }) {e : Ty} (w0 : World) (base : Nat) (te : TypeId) {z : Value} {by_ : Nat}
    (hinfo : (P.info? te).map (fun i => (i.zero, i.size, i.bytes)) = some (some z, e.sz, by_)) (hz1 : z.cells.size = e.sz) (ht : P.underlying t = some (.slice te))
    (v u : Value) (x y : List e.D) (hs : a.eval s = v) (hx : a.eval xo = u) (hown : DRow e w0 base te v x) (hsz : w0.heap.size ≤ w.heap.size) (hk : ∀ b, base ≤ b → b < w0.heap.size → w.heap[b]? = w0.heap[b]?) (hy : Src e w w0.heap.size u y) (hbytes : (x.length + y.length) * by_ ≤ 140737488355328) (hlen : x.length + y.length ≤ maxLen) (hbase : base ≤ w0.heap.size)
    (h : ∀ v' w', DRow e w' base te v' (x ++ y) → w.grownBy w' v.ownBlock → wpList P ops Q rest (a.put o.dst v') w') : wpList P ops Q (o :: rest) a w := by
  obtain ⟨fp, hF, hfp⟩ := hown.toFd
  obtain ⟨fq, hS, hfq⟩ := hy.toF
  have hF' : DRowF e w base te v x fp := hF.keep hsz (fun b hb => hk b (hfp.2 b hb).1 (hfp.2 b hb).2) (fun g hg => hk g (hown.block g hg).1 (hown.block g hg).2)
  refine wpList_append_drowF hgd s xo t ho base te hinfo hz1 ht v u x y fp fq hs hx hF' hS (fun g hg hm => ?_) hbytes hlen (Nat.le_trans hbase hsz) (fun v' w' hr hg _ => h v' w' (hr.drow ?_) hg)
  · have := (hown.block g hg).2; have := (hfq.2 g hm).1; omega
  · exact FrI.app hfp (hfq.mono (Nat.le_refl _) hg.size) (Nat.le_refl _) hbase (Nat.le_trans hsz hg.size)
theorem Cur.neq {tc : TypeId} {w : World} {B g : Nat} {t : TypeId} {cs : Array Value} (h : Cur tc w B) (hb : Blk w g t cs) (hs : cs.size ≠ 3) : g ≠ B := by
  intro e
  subst e
  obtain ⟨_, _, _, _, _, _, _, _, _, hk, _⟩ := h
  unfold Blk at hk hb
  rw [hk] at hb
  injection hb with hb
  injection hb with h1
  rw [← h1] at hs
  exact hs rfl
theorem owGrown {t : Ty} {w w' : World} {cs : List Value} {x : t.D} {fp : List Nat} {lo hi : Nat} {row : Option Nat} (h : t.ow w cs x fp) (hf : FrI lo hi fp) (hg : w.grownBy w' row) (hr : ∀ g, row = some g → hi ≤ g) : t.ow w' cs x fp :=
  Ty.ow_keep (fun b hb => hg.block b (Ty.ow_lt h b hb) (fun e => by have := hr b e.symm; have := (hf.2 b hb).2; omega)) h
end Go.Proofs.YtldgbnlcnlfmeaaGreat
