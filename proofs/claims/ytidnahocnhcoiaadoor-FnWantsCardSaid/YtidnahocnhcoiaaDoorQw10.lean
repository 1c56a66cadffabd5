/- Texts of this claim, merged by a program: Fmt Fin Fti Lat. -/
import Derived.Test.YtidnahocnhcoiaaDoorQwP
import Derived.Test.YtidnahocnhcoiaaDoorQw9
import Derived.Test.YtidnahocnhcoiaaDoorQw1
import Derived.Test.YtidnahocnhcoiaaDoorQw2
import Derived.Lib.Join
import Derived.Laws.Concat
import Derived.Deep.RegionHeld3
import Derived.Lib.ItoaLen
import Derived.Test.YtidnahocnhcoiaaDoorQw0
import Derived.BigQuiet
namespace Go.Proofs.YtidnahocnhcoiaaDoor
open Go.RowKit
set_option linter.unusedVariables false
set_option linter.unusedSimpArgs false
def fmtK (p : List (List UInt8)) (k : Nat) : List UInt8 := ((p.take k).map (fun s => 47 :: s)).flatten
def fmtM (p : List (List UInt8)) (k : Nat) : List UInt8 := fmtK p k ++ [47]
def fmtP (p : List (List UInt8)) : List UInt8 := if p = [] then [47] else fmtK p p.length
theorem fmtK_succ {p : List (List UInt8)} {k : Nat} (h : k < p.length) : fmtM p k ++ p[k] = fmtK p (k + 1) := by
 unfold fmtM fmtK
 rw [List.take_succ_eq_append_getElem h, List.map_append, List.flatten_append]; simp
theorem fmtK_len (p : List (List UInt8)) (k : Nat) : (fmtK p k).length ≤ Ty.bulk (.sl .str) p := by
 have h1 : ∀ l : List (List UInt8), ((l.map (fun s => (47 : UInt8) :: s)).flatten).length = l.length + (l.map List.length).sum := by
  intro l
  induction l with
  | nil => rfl
  | cons a l ih => rw [List.map_cons, List.flatten_cons, List.length_append, ih, List.map_cons, List.sum_cons, List.length_cons, List.length_cons]; omega
 have h2 : (p.take k).length ≤ p.length := by rw [List.length_take]; omega
 have h3 : ((p.take k).map List.length).sum ≤ (p.map List.length).sum := by
  have := congrArg (fun l => (List.map List.length l).sum) (List.take_append_drop k p)
  simp only [List.map_append, List.sum_append] at this; omega
 have h4 : Ty.bulk (.sl .str) p = p.length + (p.map List.length).sum := rfl
 unfold fmtK
 rw [h1, h4]; omega
theorem fmtP_len (p : List (List UInt8)) : (fmtP p).length ≤ Ty.bulk (.sl .str) p + 1 := by
 unfold fmtP
 split
 ·simp
 ·have := fmtK_len p p.length; omega
theorem fmtP_join {p : List (List UInt8)} (h : p ≠ []) : [47] ++ Lib.join p [47] = fmtP p := by
 unfold fmtP
 rw [if_neg h]
 unfold fmtK
 rw [List.take_length]
 cases p with
 | nil => exact absurd rfl h
 | cons x r =>
  rw [Lib.join_cons]
  unfold Lib.joinTail
  rw [List.map_cons, List.flatten_cons]; rfl
theorem join_len (p : List (List UInt8)) (c : UInt8) : (Lib.join p [c]).length ≤ Ty.bulk (.sl .str) p := by
 cases p with
 | nil => show 0 ≤ _; exact Nat.zero_le _
 | cons x r =>
  rw [Lib.join_cons]
  unfold Lib.joinTail
  have h4 : Ty.bulk (.sl .str) (x :: r) = (r.length + 1) + (x.length + (r.map List.length).sum) := rfl
  have h1 : ∀ l : List (List UInt8), ((l.map (fun s => [c] ++ s)).flatten).length = l.length + (l.map List.length).sum := by
   intro l
   induction l with
   | nil => rfl
   | cons a l ih => rw [List.map_cons, List.flatten_cons, List.length_append, ih, List.map_cons, List.sum_cons, List.length_cons, List.length_append, List.length_singleton]; omega
  rw [List.length_append, h1, h4]; omega
theorem cat_eq {P : Program} (x y z : List UInt8) (h : x ++ y = z) (hl : z.length ≤ 9223372036854775807) : ∀ W : World, (Op.stringOp .add (⟨x.toArray⟩ : ByteArray) ⟨y.toArray⟩).run P W = .ok (vS z) W := by
 intro W
 subst h
 rw [run_string_add_sum W _ _ (by simp [ByteArray.size]; simpa using hl), ByteArray.mk_append_mk]
set_option maxHeartbeats 1000000 in
theorem C_spec_FormatName (w : World) (cs : List Value) (p : List (List UInt8)) (h : (Ty.sl .str).rd w cs p) (s0 : Ty.bulk (.sl .str) p ≤ 1000000000) :
  Calls Tryd.prog 59 #[.agg cs.toArray] w (RetStr w (fmtP p)) := by
 obtain ⟨A, c, rfl⟩ := Ty.rd_slv h
 obtain ⟨_, _, _, _, _, n0⟩ := Ty.rd_sl h
 go_enter Tryd.func59, Tryd.ntmps59
 go_wp2
 go_loopw [3, 4] (fun s i wr => ∃ k : Nat, k ≤ p.length ∧ i = .int .i64 k ∧ s = vS (fmtK p k) ∧ Below (w.alloc (.cells #[.slice A p.length c] 26)).heap.size (w.alloc (.cells #[.slice A p.length c] 26)) wr) (fun _ i _ => p.length - (intOf i).toNat)
 case atStart => exact ⟨0, by omega, rfl, rfl, Below.refl _ _⟩
 case round =>
  obtain ⟨k, hk, rfl, rfl, hb⟩ := hrel
  have hw : Below w.heap.size w wr := bel_trans b_3 hb
  obtain ⟨hc, hf⟩ := bcell hb
  by_cases hlt : k < p.length
  ·obtain ⟨b, o, rfl, e0, n1⟩ := Ty.rd_str_at (Ty.rd_below hw h) hlt
   have hl1 := fmtK_len p k
   have hl2 := fmtK_len p (k + 1)
   have hc1 := cat_eq (P := Tryd.prog) (fmtK p k) [47] (fmtM p k) rfl (by unfold fmtM; rw [List.length_append, List.length_singleton]; omega)
   have hc2 := cat_eq (P := Tryd.prog) (fmtM p k) p[k] (fmtK p (k + 1)) (fmtK_succ hlt) b_18
   go_wp2
   go_roundw
   case rel => exact ⟨k + 1, by omega, by go_num, rfl, hb⟩
   case measure => simp [intOf]; omega
  ·have hkp : k = p.length := by omega
   by_cases h0 : p.length = 0
   ·have hp : p = [] := List.eq_nil_of_length_eq_zero h0
    have HP : Hid (fmtP p = [47]) := by unfold Hid fmtP; rw [if_pos hp]
    have q0 : ((p.length : Int) == 0) = true := by simp [h0]
    clear hp h0 hkp
    go_wp2
    go_ret
    exact ⟨by rw [HP.out]; rfl, hw⟩
   ·have HP : Hid (fmtP p = fmtK p k) := by
     unfold Hid fmtP
     rw [if_neg (fun hp => h0 (by rw [hp]; rfl)), hkp]
    have q0 : ((p.length : Int) == 0) = false := by rw [beq_eq_false_iff_ne]; omega
    clear h0 hkp
    go_wp2
    go_ret
    exact ⟨by rw [HP.out]; rfl, hw⟩
theorem C_Join (w : World) (v : Value) (p : List (List UInt8)) (c : UInt8) (h : (Ty.sl .str).rd w [v] p) (s0 : Ty.bulk (.sl .str) p ≤ 1000000000) :
  Calls Tryd.prog 78 #[v, .string ⟨#[c]⟩] w (RetStr w (Lib.join p [c])) := by
 obtain ⟨A, cc, rfl, hc, hm, hn⟩ := Ty.rd_sl h
 cases p with
 | nil =>
  refine (strings_Join_none A cc ⟨#[c]⟩ w).mono ?_
  rintro e w' ⟨rfl, rfl⟩
  exact ⟨rfl, Below.refl _ _⟩
 | cons x r =>
  obtain ⟨b, o, rfl, e0, _⟩ := Ty.rd_str_at (k := 0) h b_19
  have hlb : b < w.heap.size := World.block_lt_of_cell? w _ e0
  have hxl := Ty.bulk_len s0
  have hmm : ((x :: r).map (fun s => (⟨s.toArray⟩ : ByteArray))).map (·.data.toList) = x :: r := by
   rw [List.map_map]
   exact (List.map_congr_left (g := id) (fun a _ => by simp)).trans (List.map_id _)
  have hj := strings_Join b o cc ((x :: r).map (fun s => (⟨s.toArray⟩ : ByteArray))) ⟨#[c]⟩ w (fun j y hy => by
   rw [List.getElem?_map] at hy
   obtain ⟨s, hs, rfl⟩ := Option.map_eq_some_iff.1 hy
   obtain ⟨hj, rfl⟩ := List.getElem?_eq_some_iff.1 hs
   obtain ⟨b', o', he, e1, _⟩ := Ty.rd_str_at (k := j) h hj
   injection he with he
   injection he with he1 he2
   subst he1; subst he2
   exact e1) hlb (by rw [List.length_map]; omega) (by rw [List.length_map]; omega) (by rw [hmm]; have := join_len (x :: r) c; exact Nat.le_trans this b_18)
  rw [List.length_map] at hj
  refine hj.mono ?_
  rintro e w' ⟨rfl, hb⟩
  exact ⟨by rw [hmm], hb⟩
set_option maxHeartbeats 1000000 in
theorem C_impl_slashed (w : World) (v : Value) (p : List (List UInt8)) (h : (Ty.sl .str).rd w [v] p) (s0 : Ty.bulk (.sl .str) p ≤ 1000000000) :
  Calls Tryd.prog 73 #[v] w (RetStr w (fmtP p)) := by
 obtain ⟨A, c, rfl, hc, hm, hn⟩ := Ty.rd_sl h
 by_cases h0 : p.length = 0
 ·have hp : p = [] := List.eq_nil_of_length_eq_zero h0
  have HP : Hid (fmtP p = [47]) := by unfold Hid fmtP; rw [if_pos hp]
  have q0 : ((p.length : Int) == 0) = true := by simp [h0]
  clear hp h0
  go_enter Tryd.func73, Tryd.ntmps73
  go_wp2
  go_ret
  exact ⟨by rw [HP.out]; rfl, Below.refl _ _⟩
 ·have hp : p ≠ [] := fun hp => h0 (by rw [hp]; rfl)
  have q0 : ((p.length : Int) == 0) = false := by rw [beq_eq_false_iff_ne]; omega
  have hl := fmtP_len p
  have hc1 := cat_eq (P := Tryd.prog) [47] (Lib.join p [47]) (fmtP p) (fmtP_join hp) b_18
  clear h0 hp
  go_enter Tryd.func73, Tryd.ntmps73
  go_wp2_with fail
  refine (C_Join _ _ p 47 h s0).mono ?_
  rintro e w1 ⟨rfl, hb1⟩
  go_wp2
  go_ret
  exact ⟨rfl, hb1⟩
set_option maxHeartbeats 1000000 in
theorem C_impl_FormatName (w : World) (cs : List Value) (p : List (List UInt8)) (h : (Ty.sl .str).rd w cs p) (s0 : Ty.bulk (.sl .str) p ≤ 1000000000) :
  Calls Tryd.prog 57 #[.agg cs.toArray] w (RetStr w (fmtP p)) := by
 obtain ⟨A, c, rfl⟩ := Ty.rd_slv h
 go_enter Tryd.func57, Tryd.ntmps57
 go_wp2_with fail
 refine (C_impl_slashed _ _ p (Ty.rd_below b_3 h) s0).mono ?_
 rintro e w1 ⟨rfl, hb1⟩
 go_wp2
 go_ret
 exact ⟨rfl, b_0⟩
theorem itoa_nat {n : Int} (h : 0 ≤ n) : Lib.itoa n = Lib.decDigits n.natAbs := by unfold Lib.itoa; rw [if_neg b_18]; congr 1; omega
theorem itoa_neg' {n : Int} (h : n < 0) : Lib.itoa n = 45 :: Lib.decDigits n.natAbs := by unfold Lib.itoa; rw [if_pos h]
theorem tmod_abs (x : Int) : (x.tmod 10).natAbs = x.natAbs % 10 := Int.natAbs_tmod x 10
theorem tdiv_abs (x : Int) : (x.tdiv 10).natAbs = x.natAbs / 10 := Int.natAbs_tdiv x 10
theorem tmod_bd10 (x : Int) : -10 < x.tmod 10 ∧ x.tmod 10 < 10 := by have := tmod_abs x; omega
theorem tdiv_bd10 {x : Int} (h : -9223372036854775808 ≤ x ∧ x ≤ 9223372036854775807) : -9223372036854775808 ≤ x.tdiv 10 ∧ x.tdiv 10 ≤ 9223372036854775807 := by have := tdiv_abs x; omega
def digInv (x : Int) (s R : List UInt8) : Prop := (x = 0 ∧ s = R) ∨ (x ≠ 0 ∧ Lib.decDigits x.natAbs ++ s = R)
theorem digInv_step {x : Int} {s R : List UInt8} (h : digInv x s R) (h0 : x ≠ 0) : digInv (x.tdiv 10) (UInt8.ofNat (48 + x.natAbs % 10) :: s) R := by
 rcases h with ⟨h1, _⟩ | ⟨_, h2⟩
 ·exact absurd h1 h0
 have ha := tdiv_abs x
 by_cases h3 : x.natAbs < 10
 ·left
  refine ⟨by omega, ?_⟩
  rw [Lib.decDigits_one h3] at h2
  rw [Nat.mod_eq_of_lt h3]; exact h2
 ·right
  refine ⟨by omega, ?_⟩
  rw [Lib.decDigits, dif_neg h3] at h2
  rw [ha, ← h2]; simp
theorem digInv_len {x : Int} {s R : List UInt8} (h : digInv x s R) : s.length ≤ R.length := by
 rcases h with ⟨_, rfl⟩ | ⟨_, rfl⟩
 ·exact Nat.le_refl _
 ·rw [List.length_append]; omega
theorem dig_conv (W : World) (d : Int) (u : Nat) (h : d = (u : Int)) (hu : u < 256) : (convert 22 9 (.slice (some ⟨W.heap.size, 0, none⟩) 1 1)).run Tryd.prog (W.alloc (.cells #[.int .u8 d] 5)) = .ok (vS [UInt8.ofNat u]) (W.alloc (.cells #[.int .u8 d] 5)) :=
 run_convert_bytes_back (P := Tryd.prog) (W.alloc (.cells #[.int .u8 d] 5)) 22 9 5 ⟨W.heap.size, 0, none⟩ 1 [UInt8.ofNat u] Tryd.underlying22 Tryd.underlying5 Tryd.underlying9 (fun j hj => by
  obtain rfl : j = 0 := by simpa using hj
  subst h
  simp [Addr.add, cell_one_new]
  omega)
set_option maxRecDepth 100000 in
set_option maxHeartbeats 1000000 in
theorem C_spec_FormatInt (w : World) (n : Int) (hn : -9223372036854775808 ≤ n ∧ n ≤ 9223372036854775807) :
  Calls Tryd.prog 60 #[.int .i64 n] w (RetStr w (Lib.itoa n)) := by
 have hl := Lib.itoa_length_le n hn.1 hn.2
 go_enter Tryd.func60, Tryd.ntmps60
 by_cases h0 : n = 0
 ·subst h0
  have HZ : Hid (Lib.itoa 0 = [48]) := by unfold Hid; rw [itoa_nat b_17]; exact Lib.decDigits_one b_17
  go_wp2
  go_ret
  exact ⟨by rw [HZ.out]; rfl, Below.refl _ _⟩
 obtain ⟨R, hR⟩ : ∃ R, R = Lib.decDigits n.natAbs := ⟨_, rfl⟩
 have HR := Lib.hid hR
 have hRl : R.length ≤ 21 := by
  rw [hR]
  by_cases h1 : n < 0
  ·rw [itoa_neg' h1, List.length_cons] at hl; omega
  ·rw [itoa_nat b_18] at hl; exact hl
 clear hR
 have q0 : (n == 0) = false := by simp [h0]
 go_wp2
 go_loopw [3, 4] (fun s x wr => ∃ (y : Int) (l : List UInt8), x = .int .i64 y ∧ s = vS l ∧ (-9223372036854775808 ≤ y ∧ y ≤ 9223372036854775807) ∧ Hid (digInv y l R) ∧ Below w.heap.size w wr) (fun _ x _ => (intOf x).natAbs)
 case atStart => exact ⟨n, [], rfl, rfl, hn, .inr ⟨h0, by rw [List.append_nil]; exact HR.out.symm⟩, Below.refl _ _⟩
 case round =>
  obtain ⟨y, l, rfl, rfl, hy, HI, hw⟩ := hrel
  by_cases hy0 : y = 0
  ·subst hy0
   have hlR : l = R := by
    rcases HI.out with ⟨_, h⟩ | ⟨h, _⟩
    ·exact h
    ·exact absurd rfl h
   subst hlR
   clear HI
   by_cases h1 : n < 0
   ·have q1 : decide (n < 0) = true := decide_eq_true h1
    have HF := Lib.hid (itoa_neg' h1)
    have hc1 := cat_eq (P := Tryd.prog) [45] l (45 :: l) rfl (by rw [List.length_cons]; omega)
    go_wp2
    go_ret
    exact ⟨by rw [HF.out, ← HR.out]; rfl, b_3⟩
   ·have q1 : decide (n < 0) = false := decide_eq_false h1
    have HF := Lib.hid (itoa_nat (n := n) b_18)
    go_wp2
    go_ret
    exact ⟨by rw [HF.out, ← HR.out]; rfl, b_3⟩
  ·have q1 : (y != 0) = true := by simp [hy0]
   have htb := tmod_bd10 y
   have hdb := tdiv_bd10 hy
   have HTA := Lib.hid (tmod_abs y)
   have HDA := Lib.hid (tdiv_abs y)
   have HS := Lib.hid (digInv_step HI.out hy0)
   have hll := digInv_len HI.out
   have HMS := Lib.hid (show (y.tdiv 10).natAbs < y.natAbs from by have := tdiv_abs y; omega)
   obtain ⟨ub, hub⟩ : ∃ ub, ub = UInt8.ofNat (48 + y.natAbs % 10) := ⟨_, rfl⟩
   rw [← hub] at HS
   have HUB := Lib.hid hub
   clear hub
   by_cases hs : y.tmod 10 < 0
   ·have q2 : decide (y.tmod 10 < 0) = true := decide_eq_true hs
    have hcv := dig_conv wr (48 + -y.tmod 10) (48 + y.natAbs % 10) (by have := HTA.out; omega) b_18
    rw [← HUB.out] at hcv
    have hc1 := cat_eq (P := Tryd.prog) [ub] l (ub :: l) rfl (by rw [List.length_cons]; omega)
    go_wp2
    go_roundw
    case rel => exact ⟨y.tdiv 10, ub :: l, rfl, rfl, hdb, HS, b_3⟩
    case measure => exact HMS.out
   ·have q2 : decide (y.tmod 10 < 0) = false := decide_eq_false hs
    have hcv := dig_conv wr (48 + y.tmod 10) (48 + y.natAbs % 10) (by have := HTA.out; omega) b_18
    rw [← HUB.out] at hcv
    have hc1 := cat_eq (P := Tryd.prog) [ub] l (ub :: l) rfl (by rw [List.length_cons]; omega)
    go_wp2
    go_roundw
    case rel => exact ⟨y.tdiv 10, ub :: l, rfl, rfl, hdb, HS, b_3⟩
    case measure => exact HMS.out
theorem tabIs_bel {P : Program} {w w' : World} {name : String} {k : IntKind} {zs : List Int} (h : Lib.TabIs P w name k zs) (hb : Below w.heap.size w w') : Lib.TabIs P w' name k zs := by
 unfold Lib.TabIs World.var? at *
 cases hg : P.globalNamed name with
 | none => simp [hg] at h
 | some g =>
  simp only [hg, Option.bind_some] at h ⊢
  have hlt : g < w.heap.size := by
   rcases Nat.lt_or_ge g w.heap.size with h' | h'
   ·exact h'
   ·rw [Array.getElem?_eq_none h'] at h; simp at h
  rw [hb.block g hlt]
  exact h
theorem bel_growN (w : World) (k : Nat) (os : Array Obj) : Below w.heap.size w (Sort.grow (w.drewN k) os) := by
 have h1 : Below w.heap.size w (w.drewN k) := bel_drewN (Below.refl _ _) k
 refine ⟨h1.os, h1.tape, h1.output, ?_, fun g hg => ?_⟩
 ·rw [Sort.size_grow]; have := h1.size; omega
 ·rw [Sort.heap_grow_old _ _ (by have := h1.size; omega)]; exact h1.block g hg
abbrev TabI (w : World) : Prop := Lib.TabIs Tryd.prog w "internal/strconv.uint64pow10" .u64 Lib.pow10Tab
def fmtQ (x : Ty.D tInterest) : List UInt8 := fmtP x.1 ++ [63]
def f_FormatInterest (x : Ty.D tInterest) : List UInt8 := fmtQ x ++ Lib.itoa x.2.1
theorem int_parts {x : Ty.D tInterest} {n : Nat} (s : Ty.bulk tInterest x ≤ n) : Ty.bulk (.sl .str) x.1 ≤ n := by
 have h1 : Ty.bulk tInterest x = Ty.bulk (.sl .str) x.1 + 0 := rfl
 omega
theorem fmtQ_len {x : Ty.D tInterest} (s : Ty.bulk tInterest x ≤ 1048576) : (fmtQ x).length ≤ 2000000 := by
 have := fmtP_len x.1
 have := int_parts s
 unfold fmtQ
 rw [List.length_append, List.length_singleton]; omega
theorem formatInterest_len {x : Ty.D tInterest} (s : Ty.bulk tInterest x ≤ 1048576) (hn : -9223372036854775808 ≤ x.2.1 ∧ x.2.1 ≤ 9223372036854775807) : (f_FormatInterest x).length ≤ 3000000 := by
 have := fmtQ_len s
 have := Lib.itoa_length_le x.2.1 hn.1 hn.2
 unfold f_FormatInterest
 rw [List.length_append]; omega
theorem C_impl_FormatInt (w : World) (n : Int) (hn : -9223372036854775808 ≤ n ∧ n ≤ 9223372036854775807) (ht : TabI w) :
  Calls Tryd.prog 58 #[.int .i64 n] w (RetStr w (Lib.itoa n)) := by
 go_enter Tryd.func58, Tryd.ntmps58
 go_wp2_with fail
 refine (strconv_Itoa n hn.1 hn.2 _ ht).mono ?_
 rintro e w1 ⟨rfl, k, os, hw1⟩
 have hb1 : Below w.heap.size w w1 := by rw [hw1]; exact bel_growN w k os
 clear hw1
 go_wp2
 go_ret
 exact ⟨rfl, hb1⟩
set_option maxHeartbeats 4000000 in
theorem C_spec_FormatInterest (w : World) (cs : List Value) (x : Ty.D tInterest) (h : Ty.rd w tInterest cs x) (s0 : Ty.bulk tInterest x ≤ 1048576) :
  Calls Tryd.prog 26 #[.agg cs.toArray] w (RetStr w (f_FormatInterest x)) := by
 obtain ⟨Ax0, cx0, rfl, xg0, xg1, xg2, xg3⟩ := rd_Interest h
 have b1 := int_parts s0
 have hc1 := cat_eq (P := Tryd.prog) (fmtP x.1) [63] (fmtQ x) rfl (Nat.le_trans (fmtQ_len s0) b_17)
 have hc2 := cat_eq (P := Tryd.prog) (fmtQ x) (Lib.itoa x.2.1) (f_FormatInterest x) rfl (Nat.le_trans (formatInterest_len s0 xg1) b_17)
 have kb0_0 : (w.alloc (.cells #[.slice Ax0 (List.length x.1) cx0, .int .i64 x.2.1, .int .i64 x.2.2.1, .int .i64 x.2.2.2] 28)).cell? ⟨w.heap.size, 0, none⟩ = some (.slice Ax0 (List.length x.1) cx0) := (cell_new w _ _ 0 (by first | rfl | simp only [World.size_alloc]))
 have kb0_1 : (w.alloc (.cells #[.slice Ax0 (List.length x.1) cx0, .int .i64 x.2.1, .int .i64 x.2.2.1, .int .i64 x.2.2.2] 28)).cell? ⟨w.heap.size, 1, none⟩ = some (.int .i64 x.2.1) := (cell_new w _ _ 1 (by first | rfl | simp only [World.size_alloc]))
 have kb0_2 : (w.alloc (.cells #[.slice Ax0 (List.length x.1) cx0, .int .i64 x.2.1, .int .i64 x.2.2.1, .int .i64 x.2.2.2] 28)).cell? ⟨w.heap.size, 2, none⟩ = some (.int .i64 x.2.2.1) := (cell_new w _ _ 2 (by first | rfl | simp only [World.size_alloc]))
 have kb0_3 : (w.alloc (.cells #[.slice Ax0 (List.length x.1) cx0, .int .i64 x.2.1, .int .i64 x.2.2.1, .int .i64 x.2.2.2] 28)).cell? ⟨w.heap.size, 3, none⟩ = some (.int .i64 x.2.2.2) := (cell_new w _ _ 3 (by first | rfl | simp only [World.size_alloc]))
 have hvb : Below w.heap.size w (w.alloc (.cells #[.slice Ax0 (List.length x.1) cx0, .int .i64 x.2.1, .int .i64 x.2.2.1, .int .i64 x.2.2.2] 28)) := b_3
 have zb0 := Lib.hid (show (w.alloc (.cells #[.slice Ax0 (List.length x.1) cx0, .int .i64 x.2.1, .int .i64 x.2.2.1, .int .i64 x.2.2.2] 28)).heap.size = w.heap.size + 1 from by simp only [World.size_alloc])
 have zb : w.heap.size < (w.alloc (.cells #[.slice Ax0 (List.length x.1) cx0, .int .i64 x.2.1, .int .i64 x.2.2.1, .int .i64 x.2.2.2] 28)).heap.size := by simp only [World.size_alloc]; omega
 go_enter Tryd.func26, Tryd.ntmps26
 go_wp2_with fail
 generalize (w.alloc (.cells #[.slice Ax0 (List.length x.1) cx0, .int .i64 x.2.1, .int .i64 x.2.2.1, .int .i64 x.2.2.2] 28)) = WX at kb0_0 kb0_1 kb0_2 kb0_3 hvb zb zb0 ⊢
 have HC : Hid (∀ V, Below WX.heap.size WX V → V.cell? ⟨w.heap.size, 0, none⟩ = some (.slice Ax0 (List.length x.1) cx0) ∧ V.cell? ⟨w.heap.size, 1, none⟩ = some (.int .i64 x.2.1) ∧ V.cell? ⟨w.heap.size, 2, none⟩ = some (.int .i64 x.2.2.1) ∧ V.cell? ⟨w.heap.size, 3, none⟩ = some (.int .i64 x.2.2.2)) := fun V hW => ⟨(hW.cell (p := ⟨w.heap.size, 0, none⟩) b_14).trans kb0_0, (hW.cell (p := ⟨w.heap.size, 1, none⟩) b_14).trans kb0_1, (hW.cell (p := ⟨w.heap.size, 2, none⟩) b_14).trans kb0_2, (hW.cell (p := ⟨w.heap.size, 3, none⟩) b_14).trans kb0_3⟩
 clear kb0_0 kb0_1 kb0_2 kb0_3
 have HS : Hid (∀ W, Below WX.heap.size WX W → Below w.heap.size w W ∧ W.cell? ⟨w.heap.size, 0, none⟩ = some (.slice Ax0 (List.length x.1) cx0) ∧ W.cell? ⟨w.heap.size, 1, none⟩ = some (.int .i64 x.2.1) ∧ W.cell? ⟨w.heap.size, 2, none⟩ = some (.int .i64 x.2.2.1) ∧ W.cell? ⟨w.heap.size, 3, none⟩ = some (.int .i64 x.2.2.2)) := fun W hW => ⟨bel_trans hvb hW, HC.out W hW⟩
 have hv0 : Below WX.heap.size WX WX := Below.refl _ _
 set_option maxRecDepth 100000 in go_region_held3 (fun W => Below w.heap.size w W ∧ W.cell? ⟨w.heap.size, 0, none⟩ = some (.slice Ax0 (List.length x.1) cx0) ∧ W.cell? ⟨w.heap.size, 1, none⟩ = some (.int .i64 x.2.1) ∧ W.cell? ⟨w.heap.size, 2, none⟩ = some (.int .i64 x.2.2.1) ∧ W.cell? ⟨w.heap.size, 3, none⟩ = some (.int .i64 x.2.2.2)) (exact HS.out _ b_0)
  (first
   | (go_at_call 59; (with_reducible refine (C_spec_FormatName _ _ x.1 (Ty.rd_below b_0 (Ty.rd_below hvb xg0)) (Nat.le_trans b1 b_17)).mono ?_); rintro e w1 ⟨rfl, hb1⟩)
   | (go_at_call 60; (with_reducible refine (C_spec_FormatInt _ x.2.1 xg1).mono ?_); rintro e w2 ⟨rfl, hb2⟩)
   | fail)
 all_goals
  go_wp2
  go_ret
  exact ⟨rfl, b_0⟩
set_option maxHeartbeats 4000000 in
theorem C_impl_FormatInterest (w : World) (cs : List Value) (x : Ty.D tInterest) (h : Ty.rd w tInterest cs x) (s0 : Ty.bulk tInterest x ≤ 1048576) (ht : TabI w) :
  Calls Tryd.prog 25 #[.agg cs.toArray] w (RetStr w (f_FormatInterest x)) := by
 obtain ⟨Ax0, cx0, rfl, xg0, xg1, xg2, xg3⟩ := rd_Interest h
 have b1 := int_parts s0
 have hc1 := cat_eq (P := Tryd.prog) (fmtP x.1) [63] (fmtQ x) rfl (Nat.le_trans (fmtQ_len s0) b_17)
 have hc2 := cat_eq (P := Tryd.prog) (fmtQ x) (Lib.itoa x.2.1) (f_FormatInterest x) rfl (Nat.le_trans (formatInterest_len s0 xg1) b_17)
 have kb0_0 : (w.alloc (.cells #[.slice Ax0 (List.length x.1) cx0, .int .i64 x.2.1, .int .i64 x.2.2.1, .int .i64 x.2.2.2] 28)).cell? ⟨w.heap.size, 0, none⟩ = some (.slice Ax0 (List.length x.1) cx0) := (cell_new w _ _ 0 (by first | rfl | simp only [World.size_alloc]))
 have kb0_1 : (w.alloc (.cells #[.slice Ax0 (List.length x.1) cx0, .int .i64 x.2.1, .int .i64 x.2.2.1, .int .i64 x.2.2.2] 28)).cell? ⟨w.heap.size, 1, none⟩ = some (.int .i64 x.2.1) := (cell_new w _ _ 1 (by first | rfl | simp only [World.size_alloc]))
 have kb0_2 : (w.alloc (.cells #[.slice Ax0 (List.length x.1) cx0, .int .i64 x.2.1, .int .i64 x.2.2.1, .int .i64 x.2.2.2] 28)).cell? ⟨w.heap.size, 2, none⟩ = some (.int .i64 x.2.2.1) := (cell_new w _ _ 2 (by first | rfl | simp only [World.size_alloc]))
 have kb0_3 : (w.alloc (.cells #[.slice Ax0 (List.length x.1) cx0, .int .i64 x.2.1, .int .i64 x.2.2.1, .int .i64 x.2.2.2] 28)).cell? ⟨w.heap.size, 3, none⟩ = some (.int .i64 x.2.2.2) := (cell_new w _ _ 3 (by first | rfl | simp only [World.size_alloc]))
 have hvb : Below w.heap.size w (w.alloc (.cells #[.slice Ax0 (List.length x.1) cx0, .int .i64 x.2.1, .int .i64 x.2.2.1, .int .i64 x.2.2.2] 28)) := b_3
 have zb0 := Lib.hid (show (w.alloc (.cells #[.slice Ax0 (List.length x.1) cx0, .int .i64 x.2.1, .int .i64 x.2.2.1, .int .i64 x.2.2.2] 28)).heap.size = w.heap.size + 1 from by simp only [World.size_alloc])
 have zb : w.heap.size < (w.alloc (.cells #[.slice Ax0 (List.length x.1) cx0, .int .i64 x.2.1, .int .i64 x.2.2.1, .int .i64 x.2.2.2] 28)).heap.size := by simp only [World.size_alloc]; omega
 go_enter Tryd.func25, Tryd.ntmps25
 go_wp2_with fail
 generalize (w.alloc (.cells #[.slice Ax0 (List.length x.1) cx0, .int .i64 x.2.1, .int .i64 x.2.2.1, .int .i64 x.2.2.2] 28)) = WX at kb0_0 kb0_1 kb0_2 kb0_3 hvb zb zb0 ⊢
 have HC : Hid (∀ V, Below WX.heap.size WX V → V.cell? ⟨w.heap.size, 0, none⟩ = some (.slice Ax0 (List.length x.1) cx0) ∧ V.cell? ⟨w.heap.size, 1, none⟩ = some (.int .i64 x.2.1) ∧ V.cell? ⟨w.heap.size, 2, none⟩ = some (.int .i64 x.2.2.1) ∧ V.cell? ⟨w.heap.size, 3, none⟩ = some (.int .i64 x.2.2.2)) := fun V hW => ⟨(hW.cell (p := ⟨w.heap.size, 0, none⟩) b_14).trans kb0_0, (hW.cell (p := ⟨w.heap.size, 1, none⟩) b_14).trans kb0_1, (hW.cell (p := ⟨w.heap.size, 2, none⟩) b_14).trans kb0_2, (hW.cell (p := ⟨w.heap.size, 3, none⟩) b_14).trans kb0_3⟩
 clear kb0_0 kb0_1 kb0_2 kb0_3
 have HS : Hid (∀ W, Below WX.heap.size WX W → Below w.heap.size w W ∧ W.cell? ⟨w.heap.size, 0, none⟩ = some (.slice Ax0 (List.length x.1) cx0) ∧ W.cell? ⟨w.heap.size, 1, none⟩ = some (.int .i64 x.2.1) ∧ W.cell? ⟨w.heap.size, 2, none⟩ = some (.int .i64 x.2.2.1) ∧ W.cell? ⟨w.heap.size, 3, none⟩ = some (.int .i64 x.2.2.2)) := fun W hW => ⟨bel_trans hvb hW, HC.out W hW⟩
 have hv0 : Below WX.heap.size WX WX := Below.refl _ _
 have HT := Lib.hid (tabIs_bel ht hvb)
 set_option maxRecDepth 100000 in go_region_held3 (fun W => Below w.heap.size w W ∧ W.cell? ⟨w.heap.size, 0, none⟩ = some (.slice Ax0 (List.length x.1) cx0) ∧ W.cell? ⟨w.heap.size, 1, none⟩ = some (.int .i64 x.2.1) ∧ W.cell? ⟨w.heap.size, 2, none⟩ = some (.int .i64 x.2.2.1) ∧ W.cell? ⟨w.heap.size, 3, none⟩ = some (.int .i64 x.2.2.2)) (exact HS.out _ b_0)
  (first
   | (go_at_call 57; (with_reducible refine (C_impl_FormatName _ _ x.1 (Ty.rd_below b_0 (Ty.rd_below hvb xg0)) (Nat.le_trans b1 b_17)).mono ?_); rintro e w1 ⟨rfl, hb1⟩)
   | (go_at_call 58; (with_reducible refine (C_impl_FormatInt _ x.2.1 xg1 (tabIs_bel HT.out b_0)).mono ?_); rintro e w2 ⟨rfl, hb2⟩)
   | fail)
 all_goals
  go_wp2
  go_ret
  exact ⟨rfl, b_0⟩
end Go.Proofs.YtidnahocnhcoiaaDoor
namespace Go.Proofs.YtidnahocnhcoiaaDoor
open Go.RowKit
set_option linter.unusedVariables false
set_option linter.unusedSimpArgs false
set_option maxHeartbeats 1000000 in
theorem C_laws_bigG (w : World) (A : Option Addr) (n c : Nat) : Calls Tryd.prog 4 #[.slice A n c] w (RetBP w (decide ((n : Int) > 1048576))) := by
 go_enter Tryd.func4, Tryd.ntmps4
 go_wp2
 go_ret
 first | exact ⟨rfl, rfl⟩ | exact ⟨rfl, Below.refl _ _⟩ | trace_state
end Go.Proofs.YtidnahocnhcoiaaDoor
