/- Texts of this claim, merged by a program: Byt Drw Cpy Ret Cur Cuw Nb Nmd. -/
import Derived.Test.YtidnahocnhcoiaaDoorQwP
import Derived.Test.YtidnahocnhcoiaaDoorQw1
import Derived.Lib.SliceRun
import Derived.Laws.Bits128
import Derived.Maps.AppendAt
import Derived.Test.YtidnahocnhcoiaaDoorQw0
import Derived.Laws.BitsLemmas
import Derived.BigQuiet
namespace Go.Proofs.YtidnahocnhcoiaaDoor
open Go.RowKit
set_option linter.unusedVariables false
set_option linter.unusedSimpArgs false
set_option maxHeartbeats 1000000 in
theorem C_slices_Clone_byte (w : World) (v : Value) (x : List UInt8) (h : (Ty.sl .byte).rd w [v] x) (hx : x.length ≤ 1099511627776) : Calls Tryd.prog 50 #[v] w (RetRow flatB w 5 x) := by
 obtain ⟨A, c, rfl, hc, hm, hn⟩ := Ty.rd_sl h
 cases A with
 | none =>
  obtain ⟨rfl, rfl⟩ := Ty.rd_nil h
  show Calls Tryd.prog 50 #[.slice none 0 0] w _
  clear h hx hc hm hn
  have q22 : ∀ (w : World) (a : Option Addr) (n c n' c' : Nat), (binOp .eql 22 (.slice a n c) (.slice none n' c')).run Tryd.prog w = .ok (.bool a.isNone) w := fun w a n c n' c' => Lib.run_eql_slice_nil w _ _ a n c n' c' Tryd.underlying22
  go_enter Tryd.func50, Tryd.ntmps50
  go_wp2
  go_ret
  exact ⟨_, rfl, Row.nil _ _ _ _, Below.refl _ _⟩
 | some a =>
  have q22 : ∀ (w : World) (a : Option Addr) (n c n' c' : Nat), (binOp .eql 22 (.slice a n c) (.slice none n' c')).run Tryd.prog w = .ok (.bool a.isNone) w := fun w a n c n' c' => Lib.run_eql_slice_nil w _ _ a n c n' c' Tryd.underlying22
  go_enter Tryd.func50, Tryd.ntmps50
  set_option maxRecDepth 100000 in go_wp2_with (at_builtin; go_loud (refine wpList_append_row rfl _ _ 22 rfl flatB w.heap.size 5 infoB rfl Tryd.underlying22 _ _ [] x rfl rfl (Row.lit0 flatB w 5 (Nat.le_refl _)) (Ty.rd_below b_3 h) ?_ ?_ ?_ ?_))
  case refine_1 => simp only [List.length_nil]; omega
  case refine_2 => simp only [List.length_nil]; unfold maxLen; omega
  case refine_3 => simp only [World.size_alloc]; omega
  case refine_4 =>
   intro v' w' hr' hg'
   have hb' : Below w.heap.size w w' := bel_grown b_3 b_12 hg' (fun g hg => by simp [Value.ownBlock] at hg; omega)
   have HR' := Lib.hid hr'
   clear hr'
   go_wp2
   go_ret
   exact ⟨_, rfl, HR'.out, hb'⟩
def hiByte (k : Nat) : UInt8 := UInt8.ofNat (k % 128 + 128)
theorem hiByte_nat (k : Nat) : ((hiByte k).toNat : Int) = ((k % 128 + 128 : Nat) : Int) := by unfold hiByte; rw [UInt8.toNat_ofNat']; omega
def varint (n : Nat) : List UInt8 := if h : n < 128 then [UInt8.ofNat n] else hiByte n :: varint (n / 128)
termination_by n
decreasing_by omega
theorem varint_len (n : Nat) : (varint n).length ≤ n + 1 := by
 induction n using Nat.strongRecOn with
 | _ n ih =>
  rw [varint]
  by_cases h : n < 128
  ·simp [h]
  ·simp only [h, dif_neg, not_false_eq_true, List.length_cons]
   have := ih (n / 128) b_18
   omega
def f_AppendVarint (b : List UInt8) (n : Int) : List UInt8 := if 0 ≤ n ∧ n ≤ 1000000000000 then b ++ varint n.toNat else b
theorem or128 (k : Nat) : bits BinOp.or IntKind.u8 ((k : Int) % 256) 128 = ((k % 128 + 128 : Nat) : Int) := by
 have h : ∀ r : Fin 256, bits BinOp.or IntKind.u8 ((r.val : Nat) : Int) 128 = ((r.val % 128 + 128 : Nat) : Int) := by decide +kernel
 have h2 := h ⟨k % 256, Nat.mod_lt _ b_17⟩
 simp only at h2
 rw [show (k : Int) % 256 = ((k % 256 : Nat) : Int) from rfl, h2]
 omega
theorem or128s (k : Nat) : bits BinOp.or IntKind.i64 (bits BinOp.and IntKind.i64 (k : Int) 127) 128 % 256 = ((k % 128 + 128 : Nat) : Int) := by
 have h : ∀ r : Fin 128, bits BinOp.or IntKind.i64 ((r.val : Nat) : Int) 128 % 256 = ((r.val + 128 : Nat) : Int) := by decide +kernel
 have h2 := h ⟨k % 128, Nat.mod_lt _ b_17⟩
 simp only at h2
 rw [i64_and127, show (k : Int) % 128 = ((k % 128 : Nat) : Int) from rfl, h2]
set_option maxHeartbeats 1000000 in
theorem C_impl_AppendVarint (w : World) (v : Value) (b : List UInt8) (n : Int) (h : (Ty.sl .byte).rd w [v] b) (hx : b.length ≤ 1099511627776) (hi : -9223372036854775808 ≤ n ∧ n ≤ 9223372036854775807) :
  Calls Tryd.prog 51 #[v, .int .i64 n] w (RetRow flatB w 5 (f_AppendVarint b n)) := by
 go_enter Tryd.func51, Tryd.ntmps51
 go_wp2_with fail
 refine (C_slices_Clone_byte _ _ _ h hx).mono ?_
 rintro e w1 ⟨v1, rfl, hr1, hb1⟩
 go_wp2_with fail
 refine (C_impl_InRange _ _ _ _).mono ?_
 rintro e w2 ⟨rfl, rfl⟩
 cases hq : inR n 0 1000000000000
 ·have HQ := Lib.hid hq
  have HR := Lib.hid hr1
  clear hq hr1
  go_wp2
  go_ret
  exact ⟨_, rfl, by unfold f_AppendVarint; rw [if_neg (by have := HQ.out; unfold inR at this; simp at this; omega)]; exact HR.out, hb1⟩
 ·obtain ⟨m, rfl, hm⟩ : ∃ m : Nat, n = m ∧ m ≤ 1000000000000 := ⟨n.toNat, by unfold inR at hq; simp at hq; omega, by unfold inR at hq; simp at hq; omega⟩
  have HR := Lib.hid hr1
  clear hr1
  go_wp2
  go_loopw [1, 5] (fun q l wr => ∃ (k : Nat) (d : List UInt8), k ≤ 1000000000000 ∧ q = .int .i64 k ∧ Row flatB wr w.heap.size 5 l (b ++ d) ∧ d ++ varint k = varint m ∧ Below w.heap.size w wr) (fun q _ _ => (intOf q).toNat)
  case atStart => exact ⟨m, [], hm, rfl, by rw [List.append_nil]; exact HR.out, rfl, hb1⟩
  case round =>
   obtain ⟨k, d, hk, rfl, hr, hd, hb⟩ := hrel
   have hdl := Lib.hid (congrArg List.length hd)
   have HD := Lib.hid hd
   clear hd
   have HR := Lib.hid hr
   clear hr
   by_cases hlt : k < 128
   ·have hkc : (k : Int) < 128 := by omega
    have hv : varint k = [UInt8.ofNat k] := by rw [varint, dif_pos hlt]
    have hu8 : ((UInt8.ofNat k).toNat : Int) = k := by rw [UInt8.toNat_ofNat']; omega
    have HV := Lib.hid hv
    clear hv
    have hlb : d.length + 1 ≤ m + 1 := by have h1 := hdl.out; rw [HV.out, List.length_append] at h1; have := varint_len m; simp at h1; omega
    have hb1 : Row flatB (wr.alloc (.cells #[.int .u8 (k : Int)] 5)) wr.heap.size 5 (.slice (some ⟨wr.heap.size, 0, none⟩) 1 1) [UInt8.ofNat k] := by
     have := Row.lit1 flatB wr 5 (UInt8.ofNat k) trivial (Nat.le_refl _)
     rwa [show flatB.enc (UInt8.ofNat k) = .int .u8 (k : Int) from congrArg (Value.int .u8) hu8] at this
    have HB := Lib.hid hb1
    clear hb1
    have hsz := hb.size
    clear hu8
    set_option maxRecDepth 100000 in go_wp2_with (at_builtin; go_loud (refine wpList_append_row rfl _ _ 22 rfl flatB w.heap.size 5 infoB rfl Tryd.underlying22 _ _ (b ++ d) [UInt8.ofNat k] rfl rfl (HR.out.below b_3) (HB.out.rd b_12) ?_ ?_ ?_ ?_))
    case refine_1 => simp only [List.length_append, List.length_cons, List.length_nil]; omega
    case refine_2 => simp only [List.length_append, List.length_cons, List.length_nil]; unfold maxLen; omega
    case refine_3 => simp only [World.size_alloc]; omega
    case refine_4 =>
     intro v' w' hr' hg'
     have hb' : Below w.heap.size w w' := bel_grown (bel_alloc hb _) b_12 hg' (fun g hg => (HR.out.block g hg).1)
     have HR' := Lib.hid hr'
     clear hr'
     go_wp2
     go_ret
     exact ⟨_, rfl, by unfold f_AppendVarint; rw [if_pos b_18, show ((m : Int)).toNat = m from rfl, ← HD.out, HV.out]; exact HR'.out, hb'⟩
   ·have hkc : (128 : Int) ≤ k := by omega
    have hv : varint k = hiByte k :: varint (k / 128) := by rw [varint, dif_neg hlt]
    have hu8 := hiByte_nat k
    have HV := Lib.hid hv
    clear hv
    have hlb : d.length + 1 ≤ m + 1 := by have h1 := hdl.out; rw [HV.out, List.length_append] at h1; have := varint_len m; simp at h1; omega
    have hb1 : Row flatB (wr.alloc (.cells #[.int .u8 (bits BinOp.or IntKind.u8 ((k : Int) % 256) 128)] 5)) wr.heap.size 5 (.slice (some ⟨wr.heap.size, 0, none⟩) 1 1) [hiByte k] := by
     have := Row.lit1 flatB wr 5 (hiByte k) trivial (Nat.le_refl _)
     rwa [show flatB.enc (hiByte k) = .int .u8 (bits BinOp.or IntKind.u8 ((k : Int) % 256) 128) from congrArg (Value.int .u8) (hu8.trans (or128 k).symm)] at this
    have HB := Lib.hid hb1
    clear hb1
    have hsz := hb.size
    clear hu8
    set_option maxRecDepth 100000 in go_wp2_with (at_builtin; go_loud (refine wpList_append_row rfl _ _ 22 rfl flatB w.heap.size 5 infoB rfl Tryd.underlying22 _ _ (b ++ d) [hiByte k] rfl rfl (HR.out.below b_3) (HB.out.rd b_12) ?_ ?_ ?_ ?_))
    case refine_1 => simp only [List.length_append, List.length_cons, List.length_nil]; omega
    case refine_2 => simp only [List.length_append, List.length_cons, List.length_nil]; unfold maxLen; omega
    case refine_3 => simp only [World.size_alloc]; omega
    case refine_4 =>
     intro v' w' hr' hg'
     have hb' : Below w.heap.size w w' := bel_grown (bel_alloc hb _) b_12 hg' (fun g hg => (HR.out.block g hg).1)
     have HR' := Lib.hid hr'
     clear hr'
     go_wp2
     exact ⟨⟨k / 128, d ++ [hiByte k], by omega, by first | rfl | go_num, by exact HR'.out, by rw [List.append_assoc, ← HD.out, HV.out]; rfl, hb'⟩, by simp [intOf]; omega⟩
set_option maxHeartbeats 1000000 in
theorem C_spec_AppendVarint (w : World) (v : Value) (b : List UInt8) (n : Int) (h : (Ty.sl .byte).rd w [v] b) (hx : b.length ≤ 1099511627776) (hi : -9223372036854775808 ≤ n ∧ n ≤ 9223372036854775807) :
  Calls Tryd.prog 53 #[v, .int .i64 n] w (RetRow flatB w 5 (f_AppendVarint b n)) := by
 go_enter Tryd.func53, Tryd.ntmps53
 set_option maxRecDepth 100000 in go_wp2_with (at_builtin; go_loud (refine wpList_append_row rfl _ _ 22 rfl flatB w.heap.size 5 infoB rfl Tryd.underlying22 _ _ [] b rfl rfl (Row.lit0 flatB w 5 (Nat.le_refl _)) (Ty.rd_below b_3 h) ?_ ?_ ?_ ?_))
 case refine_1 => simp only [List.length_nil]; omega
 case refine_2 => simp only [List.length_nil]; unfold maxLen; omega
 case refine_3 => simp only [World.size_alloc]; omega
 intro v1 w1 hr1 hg1
 have hb1 : Below w.heap.size w w1 := bel_grown b_3 b_12 hg1 (fun g hg => by simp [Value.ownBlock] at hg; omega)
 go_wp2_with fail
 refine (C_spec_l1In _ _ _ _).mono ?_
 rintro e w2 ⟨rfl, rfl⟩
 cases hq : inR n 0 1000000000000
 ·have HQ := Lib.hid hq
  have HR := Lib.hid hr1
  clear hq hr1
  go_wp2
  go_ret
  exact ⟨_, rfl, by unfold f_AppendVarint; rw [if_neg (by have := HQ.out; unfold inR at this; simp at this; omega)]; exact HR.out, hb1⟩
 ·obtain ⟨m, rfl, hm⟩ : ∃ m : Nat, n = m ∧ m ≤ 1000000000000 := ⟨n.toNat, by unfold inR at hq; simp at hq; omega, by unfold inR at hq; simp at hq; omega⟩
  have HR := Lib.hid hr1
  clear hr1
  go_wp2
  go_loopw [1, 5] (fun q l wr => ∃ (k : Nat) (d : List UInt8), k ≤ 1000000000000 ∧ q = .int .i64 k ∧ Row flatB wr w.heap.size 5 l (b ++ d) ∧ d ++ varint k = varint m ∧ Below w.heap.size w wr) (fun q _ _ => (intOf q).toNat)
  case atStart => exact ⟨m, [], hm, rfl, by rw [List.append_nil]; exact HR.out, rfl, hb1⟩
  case round =>
   obtain ⟨k, d, hk, rfl, hr, hd, hb⟩ := hrel
   have hdl := Lib.hid (congrArg List.length hd)
   have HD := Lib.hid hd
   clear hd
   have HR := Lib.hid hr
   clear hr
   by_cases hlt : k < 128
   ·have hkc : (k : Int) < 128 := by omega
    have hv : varint k = [UInt8.ofNat k] := by rw [varint, dif_pos hlt]
    have hu8 : ((UInt8.ofNat k).toNat : Int) = k := by rw [UInt8.toNat_ofNat']; omega
    have HV := Lib.hid hv
    clear hv
    have hlb : d.length + 1 ≤ m + 1 := by have h1 := hdl.out; rw [HV.out, List.length_append] at h1; have := varint_len m; simp at h1; omega
    have hb1 : Row flatB (wr.alloc (.cells #[.int .u8 (k : Int)] 5)) wr.heap.size 5 (.slice (some ⟨wr.heap.size, 0, none⟩) 1 1) [UInt8.ofNat k] := by
     have := Row.lit1 flatB wr 5 (UInt8.ofNat k) trivial (Nat.le_refl _)
     rwa [show flatB.enc (UInt8.ofNat k) = .int .u8 (k : Int) from congrArg (Value.int .u8) hu8] at this
    have HB := Lib.hid hb1
    clear hb1
    have hsz := hb.size
    clear hu8
    set_option maxRecDepth 100000 in go_wp2_with (at_builtin; go_loud (refine wpList_append_row rfl _ _ 22 rfl flatB w.heap.size 5 infoB rfl Tryd.underlying22 _ _ (b ++ d) [UInt8.ofNat k] rfl rfl (HR.out.below b_3) (HB.out.rd b_12) ?_ ?_ ?_ ?_))
    case refine_1 => simp only [List.length_append, List.length_cons, List.length_nil]; omega
    case refine_2 => simp only [List.length_append, List.length_cons, List.length_nil]; unfold maxLen; omega
    case refine_3 => simp only [World.size_alloc]; omega
    case refine_4 =>
     intro v' w' hr' hg'
     have hb' : Below w.heap.size w w' := bel_grown (bel_alloc hb _) b_12 hg' (fun g hg => (HR.out.block g hg).1)
     have HR' := Lib.hid hr'
     clear hr'
     go_wp2
     go_ret
     exact ⟨_, rfl, by unfold f_AppendVarint; rw [if_pos b_18, show ((m : Int)).toNat = m from rfl, ← HD.out, HV.out]; exact HR'.out, hb'⟩
   ·have hkc : (128 : Int) ≤ k := by omega
    have hv : varint k = hiByte k :: varint (k / 128) := by rw [varint, dif_neg hlt]
    have hu8 := hiByte_nat k
    have HV := Lib.hid hv
    clear hv
    have hlb : d.length + 1 ≤ m + 1 := by have h1 := hdl.out; rw [HV.out, List.length_append] at h1; have := varint_len m; simp at h1; omega
    have hb1 : Row flatB (wr.alloc (.cells #[.int .u8 (bits BinOp.or IntKind.i64 (bits BinOp.and IntKind.i64 (k : Int) 127) 128 % 256)] 5)) wr.heap.size 5 (.slice (some ⟨wr.heap.size, 0, none⟩) 1 1) [hiByte k] := by
     have := Row.lit1 flatB wr 5 (hiByte k) trivial (Nat.le_refl _)
     rwa [show flatB.enc (hiByte k) = .int .u8 (bits BinOp.or IntKind.i64 (bits BinOp.and IntKind.i64 (k : Int) 127) 128 % 256) from congrArg (Value.int .u8) (hu8.trans (or128s k).symm)] at this
    have HB := Lib.hid hb1
    clear hb1
    have hsz := hb.size
    clear hu8
    set_option maxRecDepth 100000 in go_wp2_with (at_builtin; go_loud (refine wpList_append_row rfl _ _ 22 rfl flatB w.heap.size 5 infoB rfl Tryd.underlying22 _ _ (b ++ d) [hiByte k] rfl rfl (HR.out.below b_3) (HB.out.rd b_12) ?_ ?_ ?_ ?_))
    case refine_1 => simp only [List.length_append, List.length_cons, List.length_nil]; omega
    case refine_2 => simp only [List.length_append, List.length_cons, List.length_nil]; unfold maxLen; omega
    case refine_3 => simp only [World.size_alloc]; omega
    case refine_4 =>
     intro v' w' hr' hg'
     have hb' : Below w.heap.size w w' := bel_grown (bel_alloc hb _) b_12 hg' (fun g hg => (HR.out.block g hg).1)
     have HR' := Lib.hid hr'
     clear hr'
     go_wp2
     exact ⟨⟨k / 128, d ++ [hiByte k], by omega, by first | rfl | go_num, by exact HR'.out, by rw [List.append_assoc, ← HD.out, HV.out]; rfl, hb'⟩, by simp [intOf]; omega⟩
def Ty.flat : Ty → Bool
 | .sl _ => false
 | .pr a b => a.flat && b.flat
 | _ => true
theorem Ty.rd_ow_flat {w : World} : ∀ {t : Ty} {cs : List Value} {x : t.D}, t.flat = true → t.rd w cs x → t.ow w cs x []
 | .int, _, _, _, h => ⟨h, rfl⟩
 | .byte, _, _, _, h => ⟨h, rfl⟩
 | .bool, _, _, _, h => ⟨h, rfl⟩
 | .str, _, _, _, h => ⟨h, rfl⟩
 | .sl _, _, _, hf, _ => by simp [Ty.flat] at hf
 | .pr a b, _, _, hf, ⟨c1, c2, h, h1, h2⟩ => by
  simp only [Ty.flat, Bool.and_eq_true] at hf
  exact ⟨c1, c2, [], [], h, rfl, Ty.rd_ow_flat hf.1 h1, Ty.rd_ow_flat hf.2 h2⟩
theorem fmr_congr {α : Type} {f g : Nat → List α} : ∀ {n : Nat}, (∀ i, i < n → f i = g i) → (List.range n).flatMap f = (List.range n).flatMap g
 | 0, _ => rfl
 | n + 1, h => by
  rw [List.range_succ, List.flatMap_append, List.flatMap_append, fmr_congr (n := n) (fun i hi => h i b_18)]
  simp [h n b_18]
theorem fmr_len {α : Type} (css : Nat → List α) (sz : Nat) : ∀ n, (∀ i, i < n → (css i).length = sz) → ((List.range n).flatMap css).length = n * sz
 | 0, _ => by simp
 | n + 1, h => by
  rw [List.range_succ, List.flatMap_append, List.length_append, fmr_len css sz n (fun i hi => h i b_18), Nat.succ_mul]
  simp [h n b_18]
theorem fmr_get {α : Type} (css : Nat → List α) (sz : Nat) : ∀ n, (∀ i, i < n → (css i).length = sz) → ∀ i j, i < n → j < sz → ((List.range n).flatMap css)[i * sz + j]? = (css i)[j]?
 | 0, _, _, _, h, _ => by omega
 | n + 1, h, i, j, hi, hj => by
  have hl := fmr_len css sz n (fun i hi => h i b_18)
  rw [List.range_succ, List.flatMap_append]
  by_cases hin : i < n
  ·have h2 : (i + 1) * sz ≤ n * sz := Nat.mul_le_mul_right _ b_18
   rw [Nat.succ_mul] at h2
   rw [List.getElem?_append_left (by rw [hl]; omega)]
   exact fmr_get css sz n (fun i hi => h i b_18) i j hin hj
  ·obtain rfl : i = n := by omega
   rw [List.getElem?_append_right (by rw [hl]; omega), hl, Nat.add_sub_cancel_left]
   simp
def glue {α : Type} (n : Nat) (f g : Nat → α) : Nat → α := fun i => if i < n then f i else g (i - n)
theorem glue_lt {α : Type} {n : Nat} {f g : Nat → α} {i : Nat} (h : i < n) : glue n f g i = f i := if_pos h
theorem glue_ge {α : Type} {n : Nat} {f g : Nat → α} (i : Nat) : glue n f g (n + i) = g i := by
 unfold glue; rw [if_neg b_18, Nat.add_sub_cancel_left]
theorem fmr_glue {α : Type} (n : Nat) (f g : Nat → List α) : ∀ m, (List.range (n + m)).flatMap (glue n f g) = (List.range n).flatMap f ++ (List.range m).flatMap g
 | 0 => by
  rw [Nat.add_zero, fmr_congr (fun i hi => glue_lt hi)]; simp
 | m + 1 => by
  rw [← Nat.add_assoc, List.range_succ, List.flatMap_append, fmr_glue n f g m, List.range_succ (n := m), List.flatMap_append, List.append_assoc]
  simp [glue_ge]
def Src (e : Ty) (w : World) (lo : Nat) (u : Value) (y : List e.D) : Prop :=
 ∃ A c fs, u = .slice A y.length c ∧ FrI lo w.heap.size ((List.range y.length).flatMap fs) ∧
  (0 < y.length → ∃ b o, A = some ⟨b, o, none⟩ ∧ ∀ i (h : i < y.length), ∃ ds : List Value, ds.length = e.sz ∧ (∀ j, j < e.sz → w.cell? ⟨b, o + i * e.sz + j, none⟩ = ds[j]?) ∧ e.ow w ds y[i] (fs i))
theorem Src.flat {e : Ty} {w : World} {u : Value} {y : List e.D} (hf : e.flat = true) (h : (Ty.sl e).rd w [u] y) (lo : Nat) : Src e w lo u y := by
 obtain ⟨A, c, hu, _, _, _, hc⟩ := h
 injection hu with hu _
 refine ⟨A, c, fun _ => [], hu, ?_, fun h0 => ?_⟩
 ·rw [List.flatMap_eq_nil_iff.2 (fun _ _ => rfl)]; exact FrI.nil _ _
 ·obtain ⟨b, o, hA, hel⟩ := hc h0
  exact ⟨b, o, hA, fun i hi => by obtain ⟨ds, h1, h2, h3⟩ := hel i hi; exact ⟨ds, h1, h2, Ty.rd_ow_flat hf h3⟩⟩
theorem Src.one {e : Ty} {w : World} {lo b o c : Nat} {ds : List Value} {d : e.D} {f : List Nat} (hc : ∀ j, j < e.sz → w.cell? ⟨b, o + j, none⟩ = ds[j]?) (how : e.ow w ds d f) (hf : FrI lo w.heap.size f) :
  Src e w lo (.slice (some ⟨b, o, none⟩) 1 c) [d] := by
 refine ⟨_, c, fun _ => f, rfl, ?_, fun _ => ⟨b, o, rfl, fun i hi => ?_⟩⟩
 ·simpa using hf
 ·have h0 : i = 0 := by simpa using hi
  subst h0
  exact ⟨ds, Ty.ow_len how, fun j hj => by rw [Nat.zero_mul, Nat.add_zero]; exact hc j hj, how⟩
theorem Src.lit {e : Ty} {w : World} {lo c : Nat} (te : TypeId) {ds : List Value} {d : e.D} {f : List Nat} (how : e.ow w ds d f) (hf : FrI lo w.heap.size f) :
  Src e (w.alloc (.cells ds.toArray te)) lo (.slice (some ⟨w.heap.size, 0, none⟩) 1 c) [d] :=
 Src.one (fun j hj => by rw [Nat.zero_add]; exact (cell_new w te ds.toArray j rfl).trans b_19) (Ty.ow_bel ((Below.refl _ _).alloc (Nat.le_refl _) _) how) (hf.mono (Nat.le_refl _) (by rw [World.size_alloc]; omega))
theorem Src.drew {e : Ty} {w : World} {lo : Nat} {u : Value} {y : List e.D} (h : Src e w lo u y) : Src e w.drew lo u y := by
 obtain ⟨A, c, fs, h1, h2, h3⟩ := h
 refine ⟨A, c, fs, h1, h2, fun h0 => ?_⟩
 obtain ⟨b, o, h4, h5⟩ := h3 h0
 exact ⟨b, o, h4, fun i hi => by obtain ⟨ds, g1, g2, g3⟩ := h5 i hi; exact ⟨ds, g1, g2, Ty.ow_bel (bel_drew (Below.refl _ _)) g3⟩⟩
def DRow (e : Ty) (w : World) (base : Nat) (te : TypeId) (v : Value) (x : List e.D) : Prop :=
 ∃ (css : Nat → List Value) (fs : Nat → List Nat), w.ownsRow base te e.sz v x.length ((List.range x.length).flatMap css) ∧
  (∀ i (h : i < x.length), (css i).length = e.sz ∧ e.ow w (css i) x[i] (fs i)) ∧
  FrI base w.heap.size ((List.range x.length).flatMap fs) ∧ (∀ g, v.ownBlock = some g → g ∉ (List.range x.length).flatMap fs)
theorem DRow.nil (e : Ty) (w : World) (base : Nat) (te : TypeId) : DRow e w base te (.slice none 0 0) [] :=
 ⟨fun _ => [], fun _ => [], World.ownsRow_nil w base te e.sz, fun i h => absurd h b_19, FrI.nil _ _, fun g h => by cases h⟩
theorem DRow.lit0 (e : Ty) (w : World) (te : TypeId) {base : Nat} (hb : base ≤ w.heap.size) : DRow e (w.alloc (.cells #[] te)) base te (.slice (some ⟨w.heap.size, 0, none⟩) 0 0) [] :=
 ⟨fun _ => [], fun _ => [], World.ownsRow_lit w #[] 0 hb (by unfold maxLen; omega) b_19, fun i h => absurd h b_19, FrI.nil _ _, fun g h => by simp⟩
section
variable {e : Ty} {w w' : World} {base : Nat} {te : TypeId} {v : Value} {x : List e.D}
theorem DRow.block (h : DRow e w base te v x) : ∀ g, v.ownBlock = some g → base ≤ g ∧ g < w.heap.size := by
 obtain ⟨css, fs, h, _⟩ := h
 exact h.lt
theorem DRow.below (h : DRow e w base te v x) (hb : Below w.heap.size w w') : DRow e w' base te v x := by
 obtain ⟨css, fs, h1, h2, h3, h4⟩ := h
 refine ⟨css, fs, ⟨h1.1, ?_⟩, fun i hi => ⟨(h2 i hi).1, Ty.ow_bel hb (h2 i hi).2⟩, h3.mono (Nat.le_refl _) hb.size, h4⟩
 rcases h1.2 with hn | ⟨g, cap, cur, rfl, hbg, hgg, rest⟩
 ·exact .inl hn
 ·exact .inr ⟨g, cap, cur, rfl, hbg, (hb.block g (Blk.lt (t := te) (cs := cur) hgg)).trans hgg, rest⟩
theorem DRow.mono {base' : Nat} (h : DRow e w base te v x) (hb : base' ≤ base) : DRow e w base' te v x := by
 obtain ⟨css, fs, h1, h2, h3, h4⟩ := h
 refine ⟨css, fs, ⟨h1.1, ?_⟩, h2, h3.mono hb (Nat.le_refl _), h4⟩
 rcases h1.2 with hn | ⟨g, cap, cur, rfl, hbg, hgg, rest⟩
 ·exact .inl hn
 ·exact .inr ⟨g, cap, cur, rfl, Nat.le_trans hb hbg, hgg, rest⟩
theorem DRow.le (h : DRow e w base te v x) : x.length ≤ maxLen := by
 obtain ⟨css, fs, h, _⟩ := h
 rcases h.2 with ⟨_, hn⟩ | ⟨g, cap, cur, _, _, _, h1, h2, _⟩
 ·rw [hn]; exact Nat.zero_le _
 ·exact Nat.le_trans h1 h2
theorem DRow.own (h : DRow e w base te v x) : ∃ A c fp, v = .slice A x.length c ∧ (Ty.sl e).ow w [v] x fp ∧ FrI base w.heap.size fp := by
 have hl := h.le
 unfold maxLen at hl
 obtain ⟨css, fs, h1, h2, h3, h4⟩ := h
 rcases h1.2 with ⟨rfl, hn⟩ | ⟨g, cap, cur, rfl, hbg, hg, hnc, hcm, hcs, htake⟩
 ·have hx : x = [] := List.eq_nil_of_length_eq_zero hn
  subst hx
  exact ⟨none, 0, [], rfl, ⟨none, 0, rfl, by simp, ⟨by unfold maxLen; omega, fun _ => rfl⟩, by simp, .inl ⟨rfl, rfl⟩⟩, FrI.nil _ _⟩
 ·have hlt : g < w.heap.size := Blk.lt (t := te) (cs := cur) hg
  by_cases h0 : x.length = 0
  ·exact ⟨_, _, [], rfl, ⟨_, _, rfl, hnc, ⟨hcm, fun h => by cases h⟩, by omega, .inl ⟨h0, rfl⟩⟩, FrI.nil _ _⟩
  ·have hg4 := h4 g rfl
   refine ⟨_, _, g :: (List.range x.length).flatMap fs, rfl, ⟨_, _, rfl, hnc, ⟨hcm, fun h => by cases h⟩, by omega, .inr ⟨by show 0 < x.length; omega, g, 0, fs, rfl, rfl, fun i hi => ?_⟩⟩, ?_⟩
   ·refine ⟨css i, (h2 i hi).1, fun j hj => ⟨?_, ?_⟩, (h2 i hi).2⟩
    ·have h5 : (i + 1) * e.sz ≤ x.length * e.sz := Nat.mul_le_mul_right _ hi
     rw [Nat.succ_mul] at h5
     rw [Nat.zero_add, h1.cellAt (i * e.sz + j) b_18]
     exact fmr_get css e.sz x.length (fun i hi => (h2 i hi).1) i j hi hj
    ·exact Blk.frozen (t := te) (cs := cur) hg _
   ·refine ⟨List.nodup_cons.2 ⟨hg4, h3.1⟩, fun b hb' => ?_⟩
    rcases List.mem_cons.1 hb' with rfl | hb'
    ·exact ⟨hbg, hlt⟩
    ·exact h3.2 b hb'
theorem DRow.rd (h : DRow e w base te v x) : (Ty.sl e).rd w [v] x := by
 obtain ⟨A, c, fp, _, how, _⟩ := h.own
 exact Ty.ow_rd how
theorem DRow.form (h : DRow e w base te v x) : ∃ A c, v = .slice A x.length c := by
 obtain ⟨A, c, fp, hv, _⟩ := h.own
 exact ⟨A, c, hv⟩
end
def RetDRow (e : Ty) (w : World) (te : TypeId) (x : List e.D) (r : Ending) (w' : World) : Prop :=
 ∃ v, r = .returned v ∧ DRow e w' w.heap.size te v x ∧ Below w.heap.size w w'
theorem RetDRow.sl {e : Ty} {w : World} {te : TypeId} {x : List e.D} {r : Ending} {w' : World} (h : RetDRow e w te x r w') : RetSl w e x r w' := by
 obtain ⟨v, rfl, hr, hb⟩ := h
 obtain ⟨A, c, fp, rfl, how, hfr⟩ := hr.own
 exact ⟨A, c, fp, rfl, how, hfr, hb⟩
theorem C_slices_Clone_str (w : World) (v : Value) (x : List (List UInt8)) (h : (Ty.sl .str).rd w [v] x) (hx : x.length ≤ 1099511627776) : Calls Tryd.prog 77 #[v] w (RetRow flatS w 9 x) := by
 obtain ⟨A, c, rfl, hc, hm, hn⟩ := Ty.rd_sl h
 cases A with
 | none =>
  obtain ⟨rfl, rfl⟩ := Ty.rd_nil h
  show Calls Tryd.prog 77 #[.slice none 0 0] w _
  clear h hx hc hm hn
  have q22 : ∀ (w : World) (a : Option Addr) (n c n' c' : Nat), (binOp .eql 24 (.slice a n c) (.slice none n' c')).run Tryd.prog w = .ok (.bool a.isNone) w := fun w a n c n' c' => Lib.run_eql_slice_nil w _ _ a n c n' c' Tryd.underlying24
  go_enter Tryd.func77, Tryd.ntmps77
  go_wp2
  go_ret
  exact ⟨_, rfl, Row.nil _ _ _ _, Below.refl _ _⟩
 | some a =>
  have q22 : ∀ (w : World) (a : Option Addr) (n c n' c' : Nat), (binOp .eql 24 (.slice a n c) (.slice none n' c')).run Tryd.prog w = .ok (.bool a.isNone) w := fun w a n c n' c' => Lib.run_eql_slice_nil w _ _ a n c n' c' Tryd.underlying24
  go_enter Tryd.func77, Tryd.ntmps77
  set_option maxRecDepth 100000 in go_wp2_with (at_builtin; go_loud (refine wpList_append_row rfl _ _ 24 rfl flatS w.heap.size 9 info_str rfl Tryd.underlying24 _ _ [] x rfl rfl (Row.lit0 flatS w 9 (Nat.le_refl _)) (Ty.rd_below b_3 h) ?_ ?_ ?_ ?_))
  case refine_1 => simp only [List.length_nil]; omega
  case refine_2 => simp only [List.length_nil]; unfold maxLen; omega
  case refine_3 => simp only [World.size_alloc]; omega
  case refine_4 =>
   intro v' w' hr' hg'
   have hb' : Below w.heap.size w w' := bel_grown b_3 b_12 hg' (fun g hg => by simp [Value.ownBlock] at hg; omega)
   have HR' := Lib.hid hr'
   clear hr'
   go_wp2
   go_ret
   exact ⟨_, rfl, HR'.out, hb'⟩
set_option maxHeartbeats 1000000 in
theorem C_impl_copyName (w : World) (cs : List Value) (x : List (List UInt8)) (h : (Ty.sl .str).rd w cs x) (hx : x.length ≤ 1000000000000) :
  Calls Tryd.prog 71 #[.agg cs.toArray] w (RetAgg w (.sl .str) x) := by
 obtain ⟨A0, c0, rfl⟩ := Ty.rd_slv h
 go_enter Tryd.func71, Tryd.ntmps71
 go_wp2_with fail
 refine (C_slices_Clone_str _ _ x (Ty.rd_below b_3 h) b_18).mono ?_
 rintro e w1 ⟨v1, rfl, hr1, hb1⟩
 obtain ⟨A1, c1, fp1, rfl, how1, hfr1⟩ := hr1.own hb1.size
 have hw1 : Below w.heap.size w w1 := bel_trans b_3 hb1
 obtain ⟨hc1, hf1⟩ := bcell hb1
 have hz1 := hb1.size
 simp only [World.size_alloc] at hz1 hfr1
 have z0 : w.heap.size < w1.heap.size := by omega
 have z1 : w.heap.size + 1 < w1.heap.size := by omega
 clear hr1
 go_wp2
 refine bodyPost_ret (v := .agg #[.slice A1 (List.length x) c1]) (by simp [results, Tryd.results71, go_sem, hc1, hf1, z0, z1]) rfl ?_
 exact ⟨_, fp1, rfl, Ty.ow_keep (by intro b hb'; have hb'' := (hfr1).2 b hb'; (try simp only [szz] at hb''); repeat (first | (with_reducible rfl) | (rw [Below.heap_setCell _ _ _ _ (by (try dsimp only); omega)]) | (rw [Below.heap_alloc _ _ _ (by simp only [World.size_alloc, World.size_setCell]; omega)]))) how1, (hfr1.mono b_12 b_12), b_3⟩
set_option maxHeartbeats 1000000 in
theorem C_spec_l4Copy (w : World) (cs : List Value) (x : List (List UInt8)) (h : (Ty.sl .str).rd w cs x) (hx : x.length ≤ 1000000000000) :
  Calls Tryd.prog 70 #[.agg cs.toArray] w (RetAgg w (.sl .str) x) := by
 obtain ⟨A0, c0, rfl⟩ := Ty.rd_slv h
 have hl0 : Row flatS (((w.alloc (.cells #[.slice A0 x.length c0] 26)).alloc (.cells #[.slice none 0 0] 26)).alloc (.cells #[] 9)) (w.heap.size + 1 + 1) 9 (.slice (some ⟨w.heap.size + 1 + 1, 0, none⟩) 0 0) [] := by
  have := Row.lit0 flatS ((w.alloc (.cells #[.slice A0 x.length c0] 26)).alloc (.cells #[.slice none 0 0] 26)) 9 (base := w.heap.size + 1 + 1) b_11
  simp only [World.size_alloc] at this
  exact this
 have HL0 := Lib.hid hl0
 clear hl0
 go_enter Tryd.func70, Tryd.ntmps70
 set_option maxRecDepth 100000 in go_wp2_with (at_builtin; go_loud (refine wpList_append_row rfl _ _ 24 rfl flatS (w.heap.size + 1 + 1) 9 info_str rfl Tryd.underlying24 _ _ [] x rfl rfl HL0.out (Ty.rd_below b_3 h) ?_ ?_ ?_ ?_))
 case refine_1 => simp only [List.length_nil]; omega
 case refine_2 => simp only [List.length_nil]; unfold maxLen; omega
 case refine_3 => simp only [World.size_alloc]; omega
 intro v1 w1 hr1 hg1
 have hb1 : Below ((w.alloc (.cells #[.slice A0 x.length c0] 26)).alloc (.cells #[.slice none 0 0] 26)).heap.size ((w.alloc (.cells #[.slice A0 x.length c0] 26)).alloc (.cells #[.slice none 0 0] 26)) w1 := bel_grown (bel_alloc (Below.refl _ _) _) b_11 hg1 (fun g hg => by simp [Value.ownBlock] at hg; simp only [World.size_alloc]; omega)
 have hz1 := hb1.size
 simp only [World.size_alloc] at hz1
 obtain ⟨A1, c1, fp1, rfl, how1, hfr1⟩ := hr1.own b_18
 have hw1 : Below w.heap.size w w1 := bel_trans b_3 hb1
 obtain ⟨hc1, hf1⟩ := bcell hb1
 have z0 : w.heap.size < w1.heap.size := by omega
 have z1 : w.heap.size + 1 < w1.heap.size := by omega
 clear hr1
 go_wp2
 refine bodyPost_ret (v := .agg #[.slice A1 (List.length x) c1]) (by simp [results, Tryd.results70, go_sem, hc1, hf1, z0, z1]) rfl ?_
 exact ⟨_, fp1, rfl, Ty.ow_keep (by intro b hb'; have hb'' := (hfr1).2 b hb'; (try simp only [szz] at hb''); repeat (first | (with_reducible rfl) | (rw [Below.heap_setCell _ _ _ _ (by (try dsimp only); omega)]) | (rw [Below.heap_alloc _ _ _ (by simp only [World.size_alloc, World.size_setCell]; omega)]))) how1, (hfr1.mono b_12 b_12), b_3⟩
def RetSl3 (w : World) (t : Ty) (x : List t.D) (u u2 : Value) (e : Ending) (w' : World) : Prop :=
 ∃ A c fp, e = .returned (.tuple #[.slice A x.length c, u, u2]) ∧ (Ty.sl t).ow w' [.slice A x.length c] x fp ∧ Fr w w' fp ∧ Below w.heap.size w w'
def RetAgg2 (w : World) (t : Ty) (x : t.D) (u : Value) (e : Ending) (w' : World) : Prop :=
 ∃ cs fp, e = .returned (.tuple #[.agg cs.toArray, u]) ∧ t.ow w' cs x fp ∧ Fr w w' fp ∧ Below w.heap.size w w'
def RetAgg3 (w : World) (t : Ty) (x : t.D) (u u2 : Value) (e : Ending) (w' : World) : Prop :=
 ∃ cs fp, e = .returned (.tuple #[.agg cs.toArray, u, u2]) ∧ t.ow w' cs x fp ∧ Fr w w' fp ∧ Below w.heap.size w w'
theorem rd_ow_nil (w : World) (e : Ty) : (Ty.sl e).ow w [.slice none 0 0] [] [] := ⟨none, 0, rfl, Nat.le_refl _, ⟨Nat.zero_le _, fun _ => rfl⟩, by simp, .inl ⟨rfl, rfl⟩⟩
def RetStr (w : World) (s : List UInt8) (e : Ending) (w' : World) : Prop := e = .returned (vS s) ∧ Below w.heap.size w w'
def dead : Obj := .cells #[] 0 (0, 0)
def hide (B : Nat) (w : World) : World := { w with heap := w.heap.setIfInBounds B dead }
theorem hide_size (B : Nat) (w : World) : (hide B w).heap.size = w.heap.size := by show (w.heap.setIfInBounds B dead).size = _; simp
theorem hide_other {B g : Nat} (h : g ≠ B) (w : World) : (hide B w).heap[g]? = w.heap[g]? := by
 show (w.heap.setIfInBounds B dead)[g]? = _
 rw [Array.getElem?_setIfInBounds_ne (Ne.symm h)]
theorem hide_same {B : Nat} {w : World} (h : B < w.heap.size) : (hide B w).heap[B]? = some dead := by
 show (w.heap.setIfInBounds B dead)[B]? = _
 rw [Array.getElem?_setIfInBounds_self_of_lt h]
theorem hide_cell {B : Nat} {w : World} {p : Addr} {v : Value} (h : (hide B w).cell? p = some v) : w.cell? p = some v ∧ p.block ≠ B := by
 have hne : p.block ≠ B := by
  intro e
  have hlt : p.block < (hide B w).heap.size := World.block_lt_of_cell? _ _ h
  rw [hide_size] at hlt
  have h2 : (hide B w).heap[p.block]? = some dead := by rw [e]; exact hide_same b_18
  unfold World.cell? at h
  rw [h2] at h
  simp [dead] at h
 refine ⟨?_, hne⟩
 have : (hide B w).cell? p = w.cell? p := World.cell?_of_block (w := w) (a := p) (hide_other hne w)
 rw [← this]; exact h
theorem rd_hide {B : Nat} {w : World} : ∀ {t : Ty} {cs : List Value} {x : t.D}, t.rd (hide B w) cs x → t.rd w cs x
 | .int, _, _, h => h
 | .byte, _, _, h => h
 | .bool, _, _, h => h
 | .str, _, _, h => h
 | .sl e, _, _, ⟨A, c, h1, h2, h3, h4, h5⟩ => ⟨A, c, h1, h2, h3, h4, fun hn => by
   obtain ⟨b, o, hA, hc⟩ := h5 hn
   refine ⟨b, o, hA, fun i hi => ?_⟩
   obtain ⟨ds, hl, hcell, hr⟩ := hc i hi
   refine ⟨ds, hl, fun j hj => ?_, rd_hide hr⟩
   have hv : (hide B w).cell? ⟨b, o + i * e.sz + j, none⟩ = some (ds[j]'(by omega)) := by rw [hcell j hj]; exact List.getElem?_eq_getElem b_18
   rw [(hide_cell hv).1]
   exact (List.getElem?_eq_getElem b_18).symm⟩
 | .pr _ _, _, _, ⟨c1, c2, h, h1, h2⟩ => ⟨c1, c2, h, rd_hide h1, rd_hide h2⟩
abbrev Dr (B : Nat) (w w' : World) : Prop := Below w.heap.size (hide B w) (hide B w')
theorem Dr.refl (B : Nat) (w : World) : Dr B w w := Below.refl _ _
theorem Dr.size {B : Nat} {w w' : World} (h : Dr B w w') : w.heap.size ≤ w'.heap.size := by
 have := Below.size h; rw [hide_size, hide_size] at this; exact this
theorem Dr.of {w w' : World} (h : Below w.heap.size w w') (B : Nat) : Dr B w w' := by
 refine ⟨h.os, h.tape, h.output, by rw [hide_size, hide_size]; exact h.size, fun k hk => ?_⟩
 by_cases e : k = B
 ·subst e
  rw [hide_same hk, hide_same (Nat.lt_of_lt_of_le hk h.size)]
 ·rw [hide_other e, hide_other e]; exact h.block k hk
theorem Dr.trans {B : Nat} {w w1 w2 : World} (h : Dr B w w1) (k : Dr B w1 w2) : Dr B w w2 :=
 ⟨k.os.trans h.os, k.tape.trans h.tape, k.output.trans h.output, Nat.le_trans (Below.size h) (Below.size k), fun g hg => (k.block g (Nat.lt_of_lt_of_le hg h.size)).trans (h.block g hg)⟩
theorem Dr.then_ {B : Nat} {w w1 w2 : World} (h : Dr B w w1) (k : Below w1.heap.size w1 w2) : Dr B w w2 := h.trans (Dr.of k B)
theorem Dr.alloc {B : Nat} {w w1 : World} (h : Dr B w w1) (o : Obj) : Dr B w (w1.alloc o) := h.then_ (bel_alloc (Below.refl _ _) o)
theorem Dr.drewN {B : Nat} {w w1 : World} (h : Dr B w w1) (n : Nat) : Dr B w (w1.drewN n) := h.then_ (bel_drewN (Below.refl _ _) n)
theorem Dr.drew {B : Nat} {w w1 : World} (h : Dr B w w1) : Dr B w w1.drew := h.then_ (bel_drew (Below.refl _ _))
theorem ez {B : Nat} (u : World) {v w : World} (h : Dr B v w) (k : Dr B v w → Dr B u w := by first | exact id | exact fun h => (Dr.drew (Dr.refl _ _)).trans h) : Dr B u w ∧ u.heap.size ≤ w.heap.size := ⟨k h, (k h).size⟩
theorem drz {B : Nat} {w w' V : World} (X : Dr B w w') (h : Dr B w w' → Dr B w V := by first | exact id | exact Dr.drew) : Dr B w V := h X
theorem Dr.set {B : Nat} {w w1 : World} (h : Dr B w w1) {p : Addr} (hp : p.block = B ∨ w.heap.size ≤ p.block) (u : Value) : Dr B w (w1.setCell p u) := by
 refine ⟨h.os, h.tape, h.output, by have := Below.size h; rw [hide_size] at this ⊢; rw [hide_size, World.size_setCell]; rw [hide_size] at this; exact this, fun g hg => ?_⟩
 by_cases e : g = B
 ·subst e
  rw [hide_same (by rw [World.size_setCell]; exact Nat.lt_of_lt_of_le hg h.size), hide_same hg]
 ·rw [hide_other e, hide_other e, Below.heap_setCell w1 p u g (by rcases hp with hp | hp <;> omega)]
  have := h.block g hg
  rw [hide_other e, hide_other e] at this
  exact this
theorem Dr.block {B g : Nat} {w w' : World} (h : Dr B w w') (hg : g < w.heap.size) (hne : g ≠ B) : w'.heap[g]? = w.heap[g]? := by
 have := Below.block h g hg
 rw [hide_other hne, hide_other hne] at this
 exact this
theorem Dr.below {B n : Nat} {w w' : World} (h : Dr B w w') (hn : n ≤ B) (hs : n ≤ w.heap.size) : Below n w w' :=
 ⟨h.os, h.tape, h.output, h.size, fun k hk => h.block b_18 b_18⟩
theorem Dr.blk {B g : Nat} {w w' : World} {t : TypeId} {cs : Array Value} (h : Dr B w w') (hb : Blk w g t cs) (hne : g ≠ B) : Blk w' g t cs := (h.block hb.lt hne).trans hb
theorem Dr.rd {B : Nat} {w w' : World} (h : Dr B w w') {t : Ty} {cs : List Value} {x : t.D} (hr : t.rd (hide B w) cs x) : t.rd (hide B w') cs x :=
 Ty.rd_below (by rw [hide_size]; exact h) hr
theorem Dr.ow {B : Nat} {w w' : World} (h : Dr B w w') {t : Ty} {cs : List Value} {x : t.D} {fp : List Nat} (hr : t.ow w cs x fp) (hf : B ∉ fp) : t.ow w' cs x fp :=
 Ty.ow_keep (fun b hb => Dr.block h (Ty.ow_lt hr b hb) (fun e => by subst e; exact hf hb)) hr
theorem ow_hide {B : Nat} {w : World} {t : Ty} {cs : List Value} {x : t.D} {fp : List Nat} (hr : t.ow w cs x fp) (hf : B ∉ fp) : t.ow (hide B w) cs x fp :=
 Ty.ow_keep (fun b hb => hide_other (fun e => by subst e; exact hf hb) w) hr
theorem ow_hideF {B lo hi : Nat} {w : World} {t : Ty} {cs : List Value} {x : t.D} {fp : List Nat} (hr : t.ow w cs x fp) (hf : FrI lo hi fp) (hB : B < lo) : t.ow (hide B w) cs x fp :=
 ow_hide hr (fun e => by have := (hf.2 _ e).1; omega)
def Cur (tc : TypeId) (w : World) (B : Nat) : Prop :=
 ∃ w0 A c i h, ∃ b : List UInt8, w0.heap.size ≤ B ∧ Below w0.heap.size w0 w ∧ (Ty.sl .byte).rd w0 [.slice A b.length c] b ∧
  Blk w B tc #[.slice A b.length c, .int .i64 i, .int .i64 h] ∧ (0 ≤ i ∧ i ≤ b.length)
section
variable {tc : TypeId} {w w' : World} {B : Nat}
theorem Cur.lt (h : Cur tc w B) : B < w.heap.size := by
 obtain ⟨w0, A, c, i, h, b, _, _, _, hb, _⟩ := h
 exact hb.lt
theorem Cur.keep (h : Cur tc w B) (hb : w'.heap[B]? = w.heap[B]?) (hd : Below B w w') : Cur tc w' B := by
 obtain ⟨w0, A, c, i, h, b, h0, h1, h2, hk, h3⟩ := h
 exact ⟨w0, A, c, i, h, b, h0, h1.trans (hd.mono h0), h2, hb.trans hk, h3⟩
theorem Cur.below (h : Cur tc w B) (hb : Below w.heap.size w w') : Cur tc w' B := h.keep (hb.block B h.lt) (hb.mono (Nat.le_of_lt h.lt))
theorem Cur.alloc (h : Cur tc w B) (o : Obj) : Cur tc (w.alloc o) B := h.below (bel_alloc (Below.refl _ _) o)
theorem Cur.drew (h : Cur tc w B) : Cur tc w.drew B := h.below (bel_drew (Below.refl _ _))
theorem cuz {t : TypeId} {b : Nat} {u V : World} (X : Cur t u b) (h : Cur t u b → Cur t V b := by first | exact id | exact Cur.drew) : Cur t V b := h X
theorem Cur.drewN (h : Cur tc w B) (n : Nat) : Cur tc (w.drewN n) B := h.below (bel_drewN (Below.refl _ _) n)
theorem Cur.far (h : Cur tc w B) {p : Addr} (hp : B < p.block) (u : Value) : Cur tc (w.setCell p u) B :=
 h.keep (Below.heap_setCell w p u B b_18) ((Below.refl B w).setCell b_18 u)
theorem Cur.grown {row : Option Nat} (h : Cur tc w B) (hg : w.grownBy w' row) (hr : ∀ g, row = some g → B < g) : Cur tc w' B :=
 h.keep (hg.block B h.lt (fun e => by have := hr B e.symm; omega)) (bel_grown (Below.refl _ _) (Nat.le_of_lt h.lt) hg (fun g e => Nat.le_of_lt (hr g e)))
end
def RetDr (tc : TypeId) (B : Nat) (w : World) (Q : Ending → World → Prop) (e : Ending) (w' : World) : Prop := Dr B w w' ∧ Cur tc w' B ∧ Q e w'
def DrI (lo hi : Int) (e : Ending) (w' : World) : Prop := ∃ x : Int, e = .returned (.int .i64 x) ∧ lo ≤ x ∧ x ≤ hi
theorem i64_and255 (n : Int) : bits .and .i64 n 255 = n % 256 := by
 have h127 : (BitVec.ofInt 64 255).toNat = 2 ^ 8 - 1 := by decide
 have key : (BitVec.ofInt 64 n &&& BitVec.ofInt 64 255).toNat = (n % ((2 ^ 64 : Nat) : Int)).toNat % 2 ^ 8 := by
  rw [BitVec.toNat_and, BitVec.toNat_ofInt, h127, Nat.and_two_pow_sub_one_eq_mod]
 show IntKind.i64.wrap ((BitVec.ofInt 64 n &&& BitVec.ofInt 64 255).toNat : Nat) = n % 256
 rw [key, IntKind.wrap_i64]
 omega
abbrev CurT (w : World) (B : Nat) : Prop := Cur 75 w B
abbrev RetDT (B : Nat) (w : World) (Q : Ending → World → Prop) (e : Ending) (w' : World) : Prop := RetDr 75 B w Q e w'
abbrev pB (B : Nat) : Value := .pointer (some ⟨B, 0, none⟩)
set_option maxHeartbeats 1000000 in
theorem C_spec_l1New (w : World) (v : Value) (b : List UInt8) (h : (Ty.sl .byte).rd w [v] b) :
  Calls Tryd.prog 29 #[v] w (fun e w' => e = .returned (pB w.heap.size) ∧ Below w.heap.size w w' ∧ CurT w' w.heap.size) := by
 obtain ⟨A, c, rfl, hc, hm, hn⟩ := Ty.rd_sl h
 go_enter Tryd.func29, Tryd.ntmps29
 go_wp2
 go_loopw [3, 4] (fun hh i wr => ∃ (k : Nat) (x : Int), k ≤ b.length ∧ i = .int .i64 k ∧ hh = .int .i64 x ∧ wr = w) (fun _ i _ => b.length - (intOf i).toNat)
 case atStart => exact ⟨0, _, by omega, by first | rfl | simp, rfl, rfl⟩
 case round =>
  obtain ⟨k, x, hk, rfl, rfl, hw⟩ := hrel
  obtain rfl : w = wr := hw.symm
  by_cases hlt : k < b.length
  ·obtain ⟨bb, o, ds, rfl, hl, hcell, hrd⟩ := Ty.rd_at h hlt
   have hrd : ds = [.int .u8 (b[k].toNat : Int)] := hrd
   subst hrd
   have e0 : w.cell? ⟨bb, o + k, none⟩ = some (.int .u8 (b[k].toNat : Int)) := by simpa [Ty.sz] using hcell 0 b_17
   clear hcell hl
   by_cases h4 : (k : Int) < 4000
   ·go_wp2
    go_roundw
    case rel => exact ⟨k + 1, _, by omega, by go_num, rfl, by first | rfl | trivial⟩
    case measure => simp [intOf]; omega
   ·go_wp2
    go_ret
    exact ⟨rfl, b_3, w, _, _, _, _, b, Nat.le_refl _, b_3, h, Blk.new w _ _, ⟨by omega, by omega⟩⟩
  ·go_wp2
   go_ret
   exact ⟨rfl, b_3, w, _, _, _, _, b, Nat.le_refl _, b_3, h, Blk.new w _ _, ⟨by omega, by omega⟩⟩
set_option maxHeartbeats 2000000 in
theorem C_spec_l1Byte (w : World) (B : Nat) (hc : CurT w B) :
  Calls Tryd.prog 64 #[pB B] w (RetDT B w (DrI 0 255)) := by
 have hB := hc.lt
 obtain ⟨w0, A, c, i, hh, b, hb0, hb1, hrd, hk, hi0, hi1⟩ := hc
 obtain ⟨_, _, _, _, _, hbn⟩ := Ty.rd_sl hrd
 obtain ⟨k, rfl⟩ : ∃ k : Nat, i = k := ⟨i.toNat, by omega⟩
 have k0 : w.cell? ⟨B, 0, none⟩ = some (.slice A b.length c) := hk.cell 0
 have k1 : w.cell? ⟨B, 1, none⟩ = some (.int .i64 k) := hk.cell 1
 have k2 : w.cell? ⟨B, 2, none⟩ = some (.int .i64 hh) := hk.cell 2
 have f0 : w.frozen? ⟨B, 0, none⟩ = false := hk.frozen 0
 have f1 : w.frozen? ⟨B, 1, none⟩ = false := hk.frozen 1
 have f2 : w.frozen? ⟨B, 2, none⟩ = false := hk.frozen 2
 by_cases hlt : k < b.length
 ·obtain ⟨bb, o, ds, rfl, hl, hcell, hrd1⟩ := Ty.rd_at hrd hlt
  have hrd1 : ds = [.int .u8 (b[k].toNat : Int)] := hrd1
  subst hrd1
  have e0 : w0.cell? ⟨bb, o + k, none⟩ = some (.int .u8 (b[k].toNat : Int)) := by simpa [Ty.sz] using hcell 0 b_17
  have hbb : bb < w0.heap.size := World.block_lt_of_cell? _ _ e0
  have e1 : w.cell? ⟨bb, o + k, none⟩ = some (.int .u8 (b[k].toNat : Int)) := (hb1.cell (p := ⟨bb, o + k, none⟩) hbb).trans e0
  have hne : bb ≠ B := by omega
  clear hcell hl
  go_enter Tryd.func64, Tryd.ntmps64
  go_wp2
  go_quiet (fail)
  go_wp2
  go_quiet (fail)
  go_wp2
  go_quiet (fail)
  go_wp2
  go_ret
  refine ⟨b_1, ?_, _, rfl, by rw [i64_and255]; omega, by rw [i64_and255]; omega⟩
  refine ⟨w0, some ⟨bb, o, none⟩, c, ((k + 1 : Nat) : Int), wrap64 (wrap64 (hh * 6364136223846793005) + 1442695040888963407), b, hb0, (by repeat' (first | (with_reducible assumption) | (with_reducible refine Below.setCell ?_ b_14 _) | (with_reducible refine bel_drewN ?_ _) | (with_reducible refine bel_drew ?_))), hrd, ?_, ⟨by omega, by omega⟩⟩
  exact (hk.set_ 2 (.int .i64 (wrap64 (wrap64 (hh * 6364136223846793005) + 1442695040888963407)))).set_ 1 (.int .i64 ((k + 1 : Nat) : Int))
 ·go_enter Tryd.func64, Tryd.ntmps64
  go_wp2
  go_quiet (fail)
  go_wp2
  go_quiet (fail)
  go_wp2
  go_ret
  refine ⟨b_1, ?_, _, rfl, by rw [i64_and255]; omega, by rw [i64_and255]; omega⟩
  refine ⟨w0, A, c, (k : Int), wrap64 (wrap64 (hh * 6364136223846793005) + 1442695040888963407), b, hb0, (by repeat' (first | (with_reducible assumption) | (with_reducible refine Below.setCell ?_ b_14 _) | (with_reducible refine bel_drewN ?_ _) | (with_reducible refine bel_drew ?_))), hrd, ?_, ⟨by omega, by omega⟩⟩
  exact hk.set_ 2 (.int .i64 (wrap64 (wrap64 (hh * 6364136223846793005) + 1442695040888963407)))
theorem rem_bd (x n : Int) (h : 1 ≤ n) (hx : 0 ≤ x) : 0 ≤ x % n ∧ x % n ≤ n - 1 := by
 exact ⟨Int.emod_nonneg _ b_18, by have := Int.emod_lt_of_pos x (show (0 : Int) < n by omega); omega⟩
set_option maxHeartbeats 1000000 in
theorem C_spec_l1Below (w : World) (B : Nat) (n : Int) (hc : CurT w B) (h1 : 1 ≤ n) (h2 : n ≤ 1000000000) :
  Calls Tryd.prog 37 #[pB B, .int .i64 n] w (RetDT B w (DrI 0 (n - 1))) := by
 have q0 : decide (n ≤ 0) = false := by simp; omega
 have qn : (n == 0) = false := by rw [beq_eq_false_iff_ne]; omega
 by_cases hle : n ≤ 256
 ·go_enter Tryd.func37, Tryd.ntmps37
  go_wp2_with fail
  refine (C_spec_l1Byte _ B hc).mono ?_
  rintro e w1 ⟨hd1, hc1, x, rfl, hx0, hx1⟩
  have hr := rem_bd x n h1 hx0
  go_wp2
  go_ret
  exact ⟨hd1, hc1, _, rfl, hr.1, hr.2⟩
 ·go_enter Tryd.func37, Tryd.ntmps37
  go_wp2_with fail
  refine (C_spec_l1Byte _ B hc).mono ?_
  rintro e w1 ⟨hd1, hc1, x, rfl, hx0, hx1⟩
  go_wp2_with fail
  refine (C_spec_l1Byte _ B hc1).mono ?_
  rintro e w2 ⟨hd2, hc2, y, rfl, hy0, hy1⟩
  go_wp2_with fail
  refine (C_spec_l1Byte _ B hc2).mono ?_
  rintro e w3 ⟨hd3, hc3, z, rfl, hz0, hz1⟩
  have hr := rem_bd (x * 65536 + y * 256 + z) n h1 b_18
  go_wp2
  go_ret
  exact ⟨(hd1.trans hd2).trans hd3, hc3, _, rfl, hr.1, hr.2⟩
set_option maxHeartbeats 1000000 in
theorem C_spec_l1Once (w : World) (B : Nat) (n : Int) (hc : CurT w B) (h1 : 1 ≤ n) (h2 : n ≤ 1000000000) :
  Calls Tryd.prog 46 #[pB B, .int .i64 n] w (RetDT B w (fun e _ => ∃ b : Bool, e = .returned (.bool b))) := by
 go_enter Tryd.func46, Tryd.ntmps46
 go_wp2_with fail
 refine (C_spec_l1Below _ B n hc h1 h2).mono ?_
 rintro e w1 ⟨hd1, hc1, x, rfl, hx0, hx1⟩
 go_wp2
 go_ret
 exact ⟨hd1, hc1, _, rfl⟩
set_option maxHeartbeats 1000000 in
theorem C_spec_l1Str (w : World) (B : Nat) (v : Value) (l : List (List UInt8)) (hc : CurT w B) (h : (Ty.sl .str).rd (hide B w) [v] l) (h1 : 1 ≤ l.length) (h2 : l.length ≤ 256) :
  Calls Tryd.prog 65 #[pB B, v] w (RetDT B w (fun e _ => ∃ s ∈ l, e = .returned (vS s))) := by
 obtain ⟨A, c, rfl, hcl, hcm, hn⟩ := Ty.rd_sl h
 go_enter Tryd.func65, Tryd.ntmps65
 go_wp2_with fail
 refine (C_spec_l1Below _ B l.length hc b_18 b_18).mono ?_
 rintro e w1 ⟨hd1, hc1, x, rfl, hx0, hx1⟩
 obtain ⟨k, rfl⟩ : ∃ k : Nat, x = k := ⟨x.toNat, by omega⟩
 have hk : k < l.length := by omega
 obtain ⟨b, o, ds, rfl, hl, hcell, hrd⟩ := Ty.rd_at (rd_hide (Dr.rd hd1 h)) hk
 obtain ⟨rfl, hsl⟩ := hrd
 have e0 : w1.cell? ⟨b, o + k, none⟩ = some (vS l[k]) := by simpa [Ty.sz] using hcell 0 b_17
 clear hcell hl
 go_wp2
 go_ret
 exact ⟨hd1, hc1, _, List.getElem_mem hk, rfl⟩
set_option maxHeartbeats 1000000 in
theorem C_spec_l1Int (w : World) (B : Nat) (v : Value) (l : List Int) (hc : CurT w B) (h : (Ty.sl .int).rd (hide B w) [v] l) (h1 : 1 ≤ l.length) (h2 : l.length ≤ 256) :
  Calls Tryd.prog 39 #[pB B, v] w (RetDT B w (fun e _ => ∃ s ∈ l, e = .returned (.int .i64 s))) := by
 obtain ⟨A, c, rfl, hcl, hcm, hn⟩ := Ty.rd_sl h
 go_enter Tryd.func39, Tryd.ntmps39
 go_wp2_with fail
 refine (C_spec_l1Below _ B l.length hc b_18 b_18).mono ?_
 rintro e w1 ⟨hd1, hc1, x, rfl, hx0, hx1⟩
 obtain ⟨k, rfl⟩ : ∃ k : Nat, x = k := ⟨x.toNat, by omega⟩
 have hk : k < l.length := by omega
 obtain ⟨b, o, ds, rfl, hl, hcell, hrd⟩ := Ty.rd_at (rd_hide (Dr.rd hd1 h)) hk
 obtain ⟨rfl, hsl⟩ := hrd
 have e0 : w1.cell? ⟨b, o + k, none⟩ = some (.int .i64 l[k]) := by simpa [Ty.sz] using hcell 0 b_17
 clear hcell hl
 go_wp2
 go_ret
 exact ⟨hd1, hc1, _, List.getElem_mem hk, rfl⟩
theorem bulk_app {e : Ty} (x y : List e.D) : Ty.bulk (.sl e) (x ++ y) = Ty.bulk (.sl e) x + Ty.bulk (.sl e) y := by
 show (x ++ y).length + ((x ++ y).map (fun d => e.bulk d)).sum = (x.length + (x.map (fun d => e.bulk d)).sum) + (y.length + (y.map (fun d => e.bulk d)).sum)
 rw [List.length_append, List.map_append, List.sum_append]; omega
theorem bulk_one {e : Ty} (d : e.D) : Ty.bulk (.sl e) [d] = e.bulk d + 1 := by
 show 1 + ([d].map (fun d => e.bulk d)).sum = _
 simp; omega
theorem Row.dr {e : Ty} {F : Flat e} {B : Nat} {w w' : World} {base : Nat} {te : TypeId} {v : Value} {x : List e.D} (h : Row F w base te v x) (hd : Dr B w w') (hB : B < base) : Row F w' base te v x := by
 refine ⟨⟨h.1.1, ?_⟩, h.2⟩
 rcases h.1.2 with hn | ⟨g, cap, cur, rfl, hbg, hgg, rest⟩
 ·exact .inl hn
 ·exact .inr ⟨g, cap, cur, rfl, hbg, (Dr.block hd (Blk.lt (t := te) (cs := cur) hgg) b_18).trans hgg, rest⟩
theorem row_setN {e : Ty} {F : Flat e} {w : World} {base : Nat} {te : TypeId} {v : Value} {x : List e.D} (h : Row F w base te v x) {p : Addr} (hp : p.block < base) (u : Value) : Row F (w.setCell p u) base te v x := by
 refine ⟨⟨h.1.1, ?_⟩, h.2⟩
 rcases h.1.2 with hn | ⟨g, cap, cur, rfl, hbg, hgg, rest⟩
 ·exact .inl hn
 ·exact .inr ⟨g, cap, cur, rfl, hbg, (Below.heap_setCell _ _ _ _ b_18).trans hgg, rest⟩
theorem Row.rdH {e : Ty} {F : Flat e} {B : Nat} {w : World} {base : Nat} {te : TypeId} {v : Value} {x : List e.D} (h : Row F w base te v x) (hb : base ≤ w.heap.size) (hB : B < base) : (Ty.sl e).rd (hide B w) [v] x := by
 obtain ⟨A, c, fp, _, how, hfr⟩ := h.own hb
 exact Ty.ow_rd (ow_hideF how hfr hB)
theorem rd_lits (B : Nat) (w : World) (te : TypeId) (l : List (List UInt8)) (hl : ∀ s ∈ l, s.length ≤ 9223372036854775807) (hn : l.length ≤ 256) (hB : B < w.heap.size) :
  (Ty.sl .str).rd (hide B (w.alloc (.cells (l.map flatS.enc).toArray te))) [.slice (some ⟨w.heap.size, 0, none⟩) l.length l.length] l :=
 Row.rdH (F := flatS) (base := w.heap.size) ⟨World.ownsRow_lit w (l.map flatS.enc).toArray l.length (Nat.le_refl _) (by unfold maxLen; omega) b_19, hl⟩ (by rw [World.size_alloc]; omega) hB
theorem rd_liti (B : Nat) (w : World) (te : TypeId) (l : List Int) (hl : ∀ s ∈ l, -9223372036854775808 ≤ s ∧ s ≤ 9223372036854775807) (hn : l.length ≤ 256) (hB : B < w.heap.size) :
  (Ty.sl .int).rd (hide B (w.alloc (.cells (l.map flatI.enc).toArray te))) [.slice (some ⟨w.heap.size, 0, none⟩) l.length l.length] l :=
 Row.rdH (F := flatI) (base := w.heap.size) ⟨World.ownsRow_lit w (l.map flatI.enc).toArray l.length (Nat.le_refl _) (by unfold maxLen; omega) b_19, hl⟩ (by rw [World.size_alloc]; omega) hB
theorem rd_drewH {B : Nat} {w : World} {t : Ty} {cs : List Value} {x : t.D} (h : t.rd (hide B w) cs x) : t.rd (hide B w.drew) cs x := Dr.rd (Dr.drew (Dr.refl B w)) h
def RetRA (te : TypeId) (w : World) (x : List (List UInt8)) (e : Ending) (w' : World) : Prop := ∃ v, e = .returned (.agg #[v]) ∧ Row flatS w' w.heap.size te v x ∧ Below w.heap.size w w'
def RetRA2 (te : TypeId) (w : World) (x : List (List UInt8)) (u : Value) (e : Ending) (w' : World) : Prop := ∃ v, e = .returned (.tuple #[.agg #[v], u]) ∧ Row flatS w' w.heap.size te v x ∧ Below w.heap.size w w'
def apS (n : List (List UInt8)) (s : List UInt8) : List (List UInt8) × Bool := if validName (n ++ [s]) then (n ++ [s], true) else (n, false)
set_option maxHeartbeats 1000000 in
theorem C_spec_l4CopyR (w : World) (cs : List Value) (x : List (List UInt8)) (h : (Ty.sl .str).rd w cs x) (hx : x.length ≤ 1000000000000) :
  Calls Tryd.prog 70 #[.agg cs.toArray] w (RetRA 9 w x) := by
 obtain ⟨A0, c0, rfl⟩ := Ty.rd_slv h
 have hl0 : Row flatS (((w.alloc (.cells #[.slice A0 x.length c0] 26)).alloc (.cells #[.slice none 0 0] 26)).alloc (.cells #[] 9)) (w.heap.size + 1 + 1) 9 (.slice (some ⟨w.heap.size + 1 + 1, 0, none⟩) 0 0) [] := by
  have := Row.lit0 flatS ((w.alloc (.cells #[.slice A0 x.length c0] 26)).alloc (.cells #[.slice none 0 0] 26)) 9 (base := w.heap.size + 1 + 1) b_11
  simp only [World.size_alloc] at this
  exact this
 have HL0 := Lib.hid hl0
 clear hl0
 go_enter Tryd.func70, Tryd.ntmps70
 set_option maxRecDepth 100000 in go_wp2_with (at_builtin; go_loud (refine wpList_append_row rfl _ _ 24 rfl flatS (w.heap.size + 1 + 1) 9 info_str rfl Tryd.underlying24 _ _ [] x rfl rfl HL0.out (Ty.rd_below b_3 h) ?_ ?_ ?_ ?_))
 case refine_1 => simp only [List.length_nil]; omega
 case refine_2 => simp only [List.length_nil]; unfold maxLen; omega
 case refine_3 => simp only [World.size_alloc]; omega
 intro v1 w1 hr1 hg1
 have hb1 : Below ((w.alloc (.cells #[.slice A0 x.length c0] 26)).alloc (.cells #[.slice none 0 0] 26)).heap.size ((w.alloc (.cells #[.slice A0 x.length c0] 26)).alloc (.cells #[.slice none 0 0] 26)) w1 := bel_grown (bel_alloc (Below.refl _ _) _) b_11 hg1 (fun g hg => by simp [Value.ownBlock] at hg; simp only [World.size_alloc]; omega)
 have hz1 := hb1.size
 simp only [World.size_alloc] at hz1
 obtain ⟨A1, c1, fp1, rfl, how1, hfr1⟩ := hr1.own b_18
 have hw1 : Below w.heap.size w w1 := bel_trans b_3 hb1
 obtain ⟨hc1, hf1⟩ := bcell hb1
 have z0 : w.heap.size < w1.heap.size := by omega
 have z1 : w.heap.size + 1 < w1.heap.size := by omega
 have HR1 := Lib.hid hr1
 clear hr1
 obtain ⟨A2, c2, hv2⟩ := HR1.out.form
 go_wp2
 refine bodyPost_ret (v := .agg #[.slice A1 (List.length x) c1]) (by simp [results, Tryd.results70, go_sem, hc1, hf1, z0, z1]) rfl ?_
 exact ⟨_, rfl, (row_setN HR1.out b_14 _).mono b_18, b_3⟩
set_option maxHeartbeats 2000000 in
theorem C_spec_AppendPart (w : World) (v : Value) (n : List (List UInt8)) (s : List UInt8) (h : (Ty.sl .str).rd w [v] n) (hn : n.length ≤ 1000000) (hs : s.length ≤ 1000000) :
  Calls Tryd.prog 75 #[.agg #[v], vS s] w (RetRA2 9 w (apS n s).1 (.bool (apS n s).2)) := by
 obtain ⟨A0, c0, rfl, _, _, _⟩ := Ty.rd_sl h
 have hl0 : Row flatS (((w.alloc (.cells #[.slice A0 n.length c0] 26)).alloc (.cells #[.slice none 0 0] 26)).alloc (.cells #[] 9)) (w.heap.size + 1 + 1) 9 (.slice (some ⟨w.heap.size + 1 + 1, 0, none⟩) 0 0) [] := by
  have := Row.lit0 flatS ((w.alloc (.cells #[.slice A0 n.length c0] 26)).alloc (.cells #[.slice none 0 0] 26)) 9 (base := w.heap.size + 1 + 1) b_11
  simp only [World.size_alloc] at this
  exact this
 have HL0 := Lib.hid hl0
 clear hl0
 go_enter Tryd.func75, Tryd.ntmps75
 set_option maxRecDepth 100000 in go_wp2_with (at_builtin; go_loud (refine wpList_append_row rfl _ _ 24 rfl flatS (w.heap.size + 1 + 1) 9 info_str rfl Tryd.underlying24 _ _ [] n rfl rfl HL0.out (Ty.rd_below b_3 h) ?_ ?_ ?_ ?_))
 case refine_1 => simp only [List.length_nil]; omega
 case refine_2 => simp only [List.length_nil]; unfold maxLen; omega
 case refine_3 => simp only [World.size_alloc]; omega
 intro v1 w1 hr1 hg1
 have hb1 : Below ((w.alloc (.cells #[.slice A0 n.length c0] 26)).alloc (.cells #[.slice none 0 0] 26)).heap.size ((w.alloc (.cells #[.slice A0 n.length c0] 26)).alloc (.cells #[.slice none 0 0] 26)) w1 := bel_grown (bel_alloc (Below.refl _ _) _) b_11 hg1 (fun g hg => by simp [Value.ownBlock] at hg; simp only [World.size_alloc]; omega)
 have hz1 := hb1.size
 simp only [World.size_alloc] at hz1
 have hw1 : Below w.heap.size w w1 := bel_trans b_3 hb1
 have HR1 := Lib.hid (show Row flatS w1 (w.heap.size + 1 + 1) 9 v1 n from hr1)
 have hA1 : Blk w1 w.heap.size 26 #[.slice A0 n.length c0] := ((Blk.new w _ _).alloc _).below hb1 b_11
 have hO1 : Blk w1 (w.heap.size + 1) 26 #[.slice none 0 0] := by
  have := (Blk.new (w.alloc (.cells #[.slice A0 n.length c0] 26)) 26 #[.slice none 0 0]).below hb1 b_11
  rwa [World.size_alloc] at this
 clear hr1
 have HL1 := Lib.hid (Row.lit1 flatS w1 9 s (by show s.length ≤ _; omega) (Nat.le_refl _))
 set_option maxRecDepth 100000 in go_wp2_with (at_builtin; go_loud (refine wpList_append_row rfl _ _ 24 rfl flatS (w.heap.size + 1 + 1) 9 info_str rfl Tryd.underlying24 _ _ n [s] rfl rfl (HR1.out.below b_3) (HL1.out.rd b_12) ?_ ?_ ?_ ?_))
 case refine_1 => simp only [List.length_singleton]; omega
 case refine_2 => simp only [List.length_singleton]; unfold maxLen; omega
 case refine_3 => simp only [World.size_alloc]; omega
 intro v2 w2 hr2 hg2
 have hne : ∀ g, g < w.heap.size + 1 + 1 → some g ≠ v1.ownBlock := fun g hg e => by have := (HR1.out.block _ e.symm).1; omega
 have hA2 : Blk w2 w.heap.size 26 #[.slice A0 n.length c0] := (hA1.alloc _).grown hg2 (hne _ b_18)
 have hO2 : Blk w2 (w.heap.size + 1) 26 #[.slice none 0 0] := (hO1.alloc _).grown hg2 (hne _ b_18)
 have hw2 : Below w.heap.size w w2 := bel_grown (bel_alloc hw1 _) b_11 hg2 (fun g hg => by have := (HR1.out.block g hg).1; omega)
 have hz2 := hg2.size
 simp only [World.size_alloc] at hz2
 obtain ⟨A2, c2, rfl⟩ := hr2.form
 have HR2 := Lib.hid hr2
 have hm2 := HR2.out
 have how2 := hm2.own b_18
 obtain ⟨A2', c2', fp2, hv2, how2, hfr2⟩ := how2
 have hval := C_spec_ValidName (w2.alloc (.cells #[.slice A2 (n ++ [s]).length c2] 26)) [.slice A2 (n ++ [s]).length c2] (n ++ [s]) (Ty.rd_below b_3 (Ty.ow_rd how2))
 have HNO := Lib.hid (fun h : validName (n ++ [s]) = false => show apS n s = (n, false) from by unfold apS; rw [h]; rfl)
 have HYES := Lib.hid (fun h : validName (n ++ [s]) = true => show apS n s = (n ++ [s], true) from by unfold apS; rw [if_pos h])
 generalize validName (n ++ [s]) = vv at hval HNO HYES
 have hk2 : w2.cell? ⟨w.heap.size, 0, none⟩ = some (.slice A0 n.length c0) := hA2.cell 0
 clear hr2 hm2 hg2 hne
 generalize hnn : (n ++ [s]).length = nn at *
 go_wp2_with fail
 refine hval.mono ?_
 rintro e w3 ⟨rfl, hb3⟩
 have hs3 := hb3.size
 simp only [World.size_alloc] at hs3
 have hx3 : Below w2.heap.size w2 w3 := bel_trans (bel_alloc (Below.refl _ _) _) hb3
 have hw3 : Below w.heap.size w w3 := bel_trans hw2 hx3
 have hA3 := hA2.below hx3 b_18
 have hO3 := hO2.below hx3 b_18
 have hP3 : Blk w3 w2.heap.size 26 #[.slice A2 nn c2] := (Blk.new w2 _ _).below hb3 (by rw [World.size_alloc]; omega)
 have kA3 : w3.cell? ⟨w.heap.size, 0, none⟩ = some (.slice A0 n.length c0) := hA3.cell 0
 have kO3 : w3.cell? ⟨w.heap.size + 1, 0, none⟩ = some (.slice none 0 0) := hO3.cell 0
 have fO3 : w3.frozen? ⟨w.heap.size + 1, 0, none⟩ = false := hO3.frozen 0
 have kP3 : w3.cell? ⟨w2.heap.size, 0, none⟩ = some (.slice A2 nn c2) := hP3.cell 0
 have z3 : w.heap.size + 1 < w3.heap.size := by omega
 have y3 : w2.heap.size < w3.heap.size := by omega
 clear hk2 hval
 cases vv with
 | true =>
  have HY := Lib.hid (HYES.out rfl)
  go_wp2
  refine bodyPost_ret (v := .tuple #[.agg #[.slice A2 nn c2], .bool true]) (by simp [results, Tryd.results75, go_sem, kO3, fO3, z3]) rfl ?_
  rw [HY.out]
  exact ⟨_, rfl, (row_setN (HR2.out.below hx3) b_14 _).mono b_18, b_3⟩
 | false =>
  have HN := Lib.hid (HNO.out rfl)
  go_wp2_with fail
  refine (C_spec_l4CopyR _ _ n (Ty.rd_below hw3 h) b_18).mono ?_
  rintro e w4 ⟨v4, rfl, hr4, hb4⟩
  have hO4 := hO3.below hb4 z3
  have kO4 : w4.cell? ⟨w.heap.size + 1, 0, none⟩ = some (.slice none 0 0) := hO4.cell 0
  have fO4 : w4.frozen? ⟨w.heap.size + 1, 0, none⟩ = false := hO4.frozen 0
  have z4 : w.heap.size + 1 < w4.heap.size := hO4.lt
  have hs4 := hb4.size
  have HR4 := Lib.hid hr4
  obtain ⟨A4, c4, rfl⟩ := hr4.form
  clear hr4 kO3 fO3
  go_wp2
  refine bodyPost_ret (v := .tuple #[.agg #[.slice A4 n.length c4], .bool false]) (by simp [results, Tryd.results75, go_sem, kO4, fO4, z4]) rfl ?_
  rw [HN.out]
  exact ⟨_, rfl, (row_setN HR4.out b_14 _).mono b_18, bel_set (bel_trans hw3 hb4) b_14 _⟩
end Go.Proofs.YtidnahocnhcoiaaDoor
