/- Texts of this claim, merged by a program: Cuw Pure Hlp Nb Sp0 Psp Nam Val Ret. -/
import Derived.Test.YtldgbnlcnlfmeaaGreatQtP
import Derived.Test.YtldgbnlcnlfmeaaGreatQt1
import Derived.Laws.BitsLemmas
import Derived.BigQuiet
import Derived.Test.YtldgbnlcnlfmeaaGreatQt0
import Derived.StillTailTactics
import Derived.WalkSpells
import Derived.WalkLawsBesides
import Derived.Deep.RegionHeld3
import Derived.Shelf.Abstract
namespace Go.Proofs.YtldgbnlcnlfmeaaGreat
open Go.RowKit
set_option linter.unusedVariables false
set_option linter.unusedSimpArgs false
theorem i64_and255 (n : Int) : bits .and .i64 n 255 = n % 256 := by
 have h127 : (BitVec.ofInt 64 255).toNat = 2 ^ 8 - 1 := by decide
 have key : (BitVec.ofInt 64 n &&& BitVec.ofInt 64 255).toNat = (n % ((2 ^ 64 : Nat) : Int)).toNat % 2 ^ 8 := by
  rw [BitVec.toNat_and, BitVec.toNat_ofInt, h127, Nat.and_two_pow_sub_one_eq_mod]
 show IntKind.i64.wrap ((BitVec.ofInt 64 n &&& BitVec.ofInt 64 255).toNat : Nat) = n % 256
 rw [key, IntKind.wrap_i64]
 omega
abbrev CurT (w : World) (B : Nat) : Prop := Cur 117 w B
abbrev RetDT (B : Nat) (w : World) (Q : Ending → World → Prop) (e : Ending) (w' : World) : Prop := RetDr 117 B w Q e w'
abbrev pB (B : Nat) : Value := .pointer (some ⟨B, 0, none⟩)
set_option maxHeartbeats 1000000 in
theorem C_spec_l1New (w : World) (v : Value) (b : List UInt8) (h : (Ty.sl .byte).rd w [v] b) :
  Calls Tryz.prog 59 #[v] w (fun e w' => e = .returned (pB w.heap.size) ∧ Below w.heap.size w w' ∧ CurT w' w.heap.size) := by
 obtain ⟨A, c, rfl, hc, hm, hn⟩ := Ty.rd_sl h
 go_enter Tryz.func59, Tryz.ntmps59
 go_wp2
 go_loopw [3, 4] (fun hh i wr => ∃ (k : Nat) (x : Int), k ≤ b.length ∧ i = .int .i64 k ∧ hh = .int .i64 x ∧ wr = w) (fun _ i _ => b.length - (intOf i).toNat)
 case atStart => exact ⟨0, _, by omega, by first | rfl | simp, rfl, rfl⟩
 case round =>
  obtain ⟨k, x, hk, rfl, rfl, hw⟩ := hrel
  obtain rfl : w = wr := hw.symm
  by_cases hlt : k < b.length
  ·obtain ⟨bb, o, ds, rfl, hl, hcell, hrd⟩ := Ty.rd_at h hlt
   have hrd : ds = [.int .u8 (b[k].toNat : Int)] := hrd
   subst hrd
   have e0 : w.cell? ⟨bb, o + k, none⟩ = some (.int .u8 (b[k].toNat : Int)) := by simpa [Ty.sz] using hcell 0 b_36
   clear hcell hl
   by_cases h4 : (k : Int) < 4000
   ·go_wp2
    go_roundw
    case rel => exact ⟨k + 1, _, by omega, by go_num, rfl, by first | rfl | trivial⟩
    case measure => simp [intOf]; omega
   ·go_wp2
    go_ret
    exact ⟨rfl, b_10, w, _, _, _, _, b, Nat.le_refl _, b_10, h, Blk.new w _ _, ⟨by omega, by omega⟩⟩
  ·go_wp2
   go_ret
   exact ⟨rfl, b_10, w, _, _, _, _, b, Nat.le_refl _, b_10, h, Blk.new w _ _, ⟨by omega, by omega⟩⟩
set_option maxHeartbeats 2000000 in
theorem C_spec_l1Byte (w : World) (B : Nat) (hc : CurT w B) :
  Calls Tryz.prog 138 #[pB B] w (RetDT B w (DrI 0 255)) := by
 have hB := hc.lt
 obtain ⟨w0, A, c, i, hh, b, hb0, hb1, hrd, hk, hi0, hi1⟩ := hc
 obtain ⟨_, _, _, _, _, hbn⟩ := Ty.rd_sl hrd
 obtain ⟨k, rfl⟩ : ∃ k : Nat, i = k := ⟨i.toNat, by omega⟩
 have k0 : w.cell? ⟨B, 0, none⟩ = some (.slice A b.length c) := hk.cell 0
 have k1 : w.cell? ⟨B, 1, none⟩ = some (.int .i64 k) := hk.cell 1
 have k2 : w.cell? ⟨B, 2, none⟩ = some (.int .i64 hh) := hk.cell 2
 have f0 : w.frozen? ⟨B, 0, none⟩ = false := hk.frozen 0
 have f1 : w.frozen? ⟨B, 1, none⟩ = false := hk.frozen 1
 have f2 : w.frozen? ⟨B, 2, none⟩ = false := hk.frozen 2
 by_cases hlt : k < b.length
 ·obtain ⟨bb, o, ds, rfl, hl, hcell, hrd1⟩ := Ty.rd_at hrd hlt
  have hrd1 : ds = [.int .u8 (b[k].toNat : Int)] := hrd1
  subst hrd1
  have e0 : w0.cell? ⟨bb, o + k, none⟩ = some (.int .u8 (b[k].toNat : Int)) := by simpa [Ty.sz] using hcell 0 b_36
  have hbb : bb < w0.heap.size := World.block_lt_of_cell? _ _ e0
  have e1 : w.cell? ⟨bb, o + k, none⟩ = some (.int .u8 (b[k].toNat : Int)) := (hb1.cell (p := ⟨bb, o + k, none⟩) hbb).trans e0
  have hne : bb ≠ B := by omega
  clear hcell hl
  go_enter Tryz.func138, Tryz.ntmps138
  go_wp2
  go_quiet (fail)
  go_wp2
  go_quiet (fail)
  go_wp2
  go_quiet (fail)
  go_wp2
  go_ret
  refine ⟨b_5, ?_, _, rfl, by rw [i64_and255]; omega, by rw [i64_and255]; omega⟩
  refine ⟨w0, some ⟨bb, o, none⟩, c, ((k + 1 : Nat) : Int), wrap64 (wrap64 (hh * 6364136223846793005) + 1442695040888963407), b, hb0, (by repeat' (first | (with_reducible assumption) | (with_reducible refine Below.setCell ?_ b_34 _) | (with_reducible refine bel_drewN ?_ _) | (with_reducible refine bel_drew ?_))), hrd, ?_, ⟨by omega, by omega⟩⟩
  exact (hk.set_ 2 (.int .i64 (wrap64 (wrap64 (hh * 6364136223846793005) + 1442695040888963407)))).set_ 1 (.int .i64 ((k + 1 : Nat) : Int))
 ·go_enter Tryz.func138, Tryz.ntmps138
  go_wp2
  go_quiet (fail)
  go_wp2
  go_quiet (fail)
  go_wp2
  go_ret
  refine ⟨b_5, ?_, _, rfl, by rw [i64_and255]; omega, by rw [i64_and255]; omega⟩
  refine ⟨w0, A, c, (k : Int), wrap64 (wrap64 (hh * 6364136223846793005) + 1442695040888963407), b, hb0, (by repeat' (first | (with_reducible assumption) | (with_reducible refine Below.setCell ?_ b_34 _) | (with_reducible refine bel_drewN ?_ _) | (with_reducible refine bel_drew ?_))), hrd, ?_, ⟨by omega, by omega⟩⟩
  exact hk.set_ 2 (.int .i64 (wrap64 (wrap64 (hh * 6364136223846793005) + 1442695040888963407)))
theorem rem_bd (x n : Int) (h : 1 ≤ n) (hx : 0 ≤ x) : 0 ≤ x % n ∧ x % n ≤ n - 1 := by
 exact ⟨Int.emod_nonneg _ b_37, by have := Int.emod_lt_of_pos x (show (0 : Int) < n by omega); omega⟩
set_option maxHeartbeats 1000000 in
theorem C_spec_l1Below (w : World) (B : Nat) (n : Int) (hc : CurT w B) (h1 : 1 ≤ n) (h2 : n ≤ 1000000000) :
  Calls Tryz.prog 95 #[pB B, .int .i64 n] w (RetDT B w (DrI 0 (n - 1))) := by
 have q0 : decide (n ≤ 0) = false := by simp; omega
 have qn : (n == 0) = false := by rw [beq_eq_false_iff_ne]; omega
 by_cases hle : n ≤ 256
 ·go_enter Tryz.func95, Tryz.ntmps95
  go_wp2_with fail
  refine (C_spec_l1Byte _ B hc).mono ?_
  rintro e w1 ⟨hd1, hc1, x, rfl, hx0, hx1⟩
  have hr := rem_bd x n h1 hx0
  go_wp2
  go_ret
  exact ⟨hd1, hc1, _, rfl, hr.1, hr.2⟩
 ·go_enter Tryz.func95, Tryz.ntmps95
  go_wp2_with fail
  refine (C_spec_l1Byte _ B hc).mono ?_
  rintro e w1 ⟨hd1, hc1, x, rfl, hx0, hx1⟩
  go_wp2_with fail
  refine (C_spec_l1Byte _ B hc1).mono ?_
  rintro e w2 ⟨hd2, hc2, y, rfl, hy0, hy1⟩
  go_wp2_with fail
  refine (C_spec_l1Byte _ B hc2).mono ?_
  rintro e w3 ⟨hd3, hc3, z, rfl, hz0, hz1⟩
  have hr := rem_bd (x * 65536 + y * 256 + z) n h1 b_37
  go_wp2
  go_ret
  exact ⟨(hd1.trans hd2).trans hd3, hc3, _, rfl, hr.1, hr.2⟩
set_option maxHeartbeats 1000000 in
theorem C_spec_l1Once (w : World) (B : Nat) (n : Int) (hc : CurT w B) (h1 : 1 ≤ n) (h2 : n ≤ 1000000000) :
  Calls Tryz.prog 134 #[pB B, .int .i64 n] w (RetDT B w (fun e _ => ∃ b : Bool, e = .returned (.bool b))) := by
 go_enter Tryz.func134, Tryz.ntmps134
 go_wp2_with fail
 refine (C_spec_l1Below _ B n hc h1 h2).mono ?_
 rintro e w1 ⟨hd1, hc1, x, rfl, hx0, hx1⟩
 go_wp2
 go_ret
 exact ⟨hd1, hc1, _, rfl⟩
set_option maxHeartbeats 1000000 in
theorem C_spec_l1Str (w : World) (B : Nat) (v : Value) (l : List (List UInt8)) (hc : CurT w B) (h : (Ty.sl .str).rd (hide B w) [v] l) (h1 : 1 ≤ l.length) (h2 : l.length ≤ 256) :
  Calls Tryz.prog 63 #[pB B, v] w (RetDT B w (fun e _ => ∃ s ∈ l, e = .returned (vS s))) := by
 obtain ⟨A, c, rfl, hcl, hcm, hn⟩ := Ty.rd_sl h
 go_enter Tryz.func63, Tryz.ntmps63
 go_wp2_with fail
 refine (C_spec_l1Below _ B l.length hc b_37 b_37).mono ?_
 rintro e w1 ⟨hd1, hc1, x, rfl, hx0, hx1⟩
 obtain ⟨k, rfl⟩ : ∃ k : Nat, x = k := ⟨x.toNat, by omega⟩
 have hk : k < l.length := by omega
 obtain ⟨b, o, ds, rfl, hl, hcell, hrd⟩ := Ty.rd_at (rd_hide (Dr.rd hd1 h)) hk
 obtain ⟨rfl, hsl⟩ := hrd
 have e0 : w1.cell? ⟨b, o + k, none⟩ = some (vS l[k]) := by simpa [Ty.sz] using hcell 0 b_36
 clear hcell hl
 go_wp2
 go_ret
 exact ⟨hd1, hc1, _, List.getElem_mem hk, rfl⟩
set_option maxHeartbeats 1000000 in
theorem C_spec_l1Int (w : World) (B : Nat) (v : Value) (l : List Int) (hc : CurT w B) (h : (Ty.sl .int).rd (hide B w) [v] l) (h1 : 1 ≤ l.length) (h2 : l.length ≤ 256) :
  Calls Tryz.prog 64 #[pB B, v] w (RetDT B w (fun e _ => ∃ s ∈ l, e = .returned (.int .i64 s))) := by
 obtain ⟨A, c, rfl, hcl, hcm, hn⟩ := Ty.rd_sl h
 go_enter Tryz.func64, Tryz.ntmps64
 go_wp2_with fail
 refine (C_spec_l1Below _ B l.length hc b_37 b_37).mono ?_
 rintro e w1 ⟨hd1, hc1, x, rfl, hx0, hx1⟩
 obtain ⟨k, rfl⟩ : ∃ k : Nat, x = k := ⟨x.toNat, by omega⟩
 have hk : k < l.length := by omega
 obtain ⟨b, o, ds, rfl, hl, hcell, hrd⟩ := Ty.rd_at (rd_hide (Dr.rd hd1 h)) hk
 obtain ⟨rfl, hsl⟩ := hrd
 have e0 : w1.cell? ⟨b, o + k, none⟩ = some (.int .i64 l[k]) := by simpa [Ty.sz] using hcell 0 b_36
 clear hcell hl
 go_wp2
 go_ret
 exact ⟨hd1, hc1, _, List.getElem_mem hk, rfl⟩
def okByte (c : UInt8) : Bool := (decide (97 ≤ c.toNat) && decide (c.toNat ≤ 122)) || (decide (48 ≤ c.toNat) && decide (c.toNat ≤ 57)) || decide (c.toNat = 45)
def validPart (s : List UInt8) : Bool := s.all okByte && (decide (1 ≤ s.length) && decide (s.length ≤ 8))
def isVar : List UInt8 → Bool
 | [a, c] => decide (a = 63) && (decide (97 ≤ c.toNat) && decide (c.toNat ≤ 122))
 | _ => false
def validName (n : List (List UInt8)) : Bool := n.all validPart && decide (n.length ≤ 6)
def patPart (n i : Nat) (s : List UInt8) : Bool := validPart s || decide (s = [42]) || isVar s || (decide (s = [42, 42]) && decide (i + 1 = n))
def validPat (p : List (List UInt8)) : Bool := (List.range p.length).all (fun i => patPart p.length i (p.getD i [])) && decide (p.length ≤ 6)
def validRule (r : List (List UInt8) × List (List UInt8)) : Bool := validPat r.1 && validPat r.2 && r.2.all (fun s => !isVar s || r.1.contains s)
def validRules (l : List (List (List UInt8) × List (List UInt8))) : Bool := l.all validRule && decide (l.length ≤ 8)
theorem all_take_succ {α : Type} (p : α → Bool) (l : List α) {k : Nat} (h : k < l.length) : (l.take (k + 1)).all p = ((l.take k).all p && p l[k]) := by
 rw [List.take_succ_eq_append_getElem h, List.all_append]; simp
theorem all_false_of {α : Type} (p : α → Bool) (l : List α) {k : Nat} (h : k < l.length) (hp : p l[k] = false) : l.all p = false := by
 rw [List.all_eq_false]; exact ⟨l[k], List.getElem_mem h, by simp [hp]⟩
theorem any_take_succ {α : Type} (p : α → Bool) (l : List α) {k : Nat} (h : k < l.length) : (l.take (k + 1)).any p = ((l.take k).any p || p l[k]) := by
 rw [List.take_succ_eq_append_getElem h, List.any_append]; simp
theorem any_true_of {α : Type} (p : α → Bool) (l : List α) {k : Nat} (h : k < l.length) (hp : p l[k] = true) : l.any p = true := by
 rw [List.any_eq_true]; exact ⟨l[k], List.getElem_mem h, hp⟩
theorem rangeAll_not {n k : Nat} {p : Nat → Bool} (hk : k < n) (h : p k = false) : (List.range n).all p = false := by
 rw [List.all_eq_false]; exact ⟨k, List.mem_range.2 hk, by simp [h]⟩
theorem info_Name : (Tryz.prog.info? 32).map (fun i => (i.zero, i.size, i.bytes)) = some (some (.agg #[.slice none 0 0]), 1, 24) := by kernel_rfl
abbrev tData : Ty := (.pr (.sl .str) (.pr (.sl .byte) (.pr (.sl .str) (.pr .int .int))))
theorem rd_Data {w : World} {cs : List Value} {x : tData.D} (h : tData.rd w cs x) : ∃ (A0 : Option Addr) (c0 : Nat) (A1 : Option Addr) (c1 : Nat) (A2 : Option Addr) (c2 : Nat), cs = [.slice A0 (List.length x.1) c0, .slice A1 (List.length x.2.1) c1, .slice A2 (List.length x.2.2.1) c2, .int .i64 x.2.2.2.1, .int .i64 x.2.2.2.2] ∧ (Ty.rd w (.sl .str) [.slice A0 (List.length x.1) c0] x.1) ∧ (Ty.rd w (.sl .byte) [.slice A1 (List.length x.2.1) c1] x.2.1) ∧ (Ty.rd w (.sl .str) [.slice A2 (List.length x.2.2.1) c2] x.2.2.1) ∧ (-9223372036854775808 ≤ x.2.2.2.1 ∧ x.2.2.2.1 ≤ 9223372036854775807) ∧ (-9223372036854775808 ≤ x.2.2.2.2 ∧ x.2.2.2.2 ≤ 9223372036854775807) := by
 obtain ⟨c0, r0, rfl, g0, q0⟩ := h
 obtain ⟨c1, r1, rfl, g1, q1⟩ := q0
 obtain ⟨c2, r2, rfl, g2, q2⟩ := q1
 obtain ⟨c3, r3, rfl, g3, q3⟩ := q2
 have g4 := q3
 obtain ⟨A0, c0, rfl⟩ := Ty.rd_slv g0
 obtain ⟨A1, c1, rfl⟩ := Ty.rd_slv g1
 obtain ⟨A2, c2, rfl⟩ := Ty.rd_slv g2
 obtain ⟨rfl, b3⟩ := g3
 obtain ⟨rfl, b4⟩ := g4
 exact ⟨A0, c0, A1, c1, A2, c2, rfl, g0, g1, g2, b3, b4⟩
theorem ow_Data {w : World} {cs : List Value} {x : tData.D} {fp : List Nat} (h : tData.ow w cs x fp) : ∃ (A0 : Option Addr) (c0 : Nat) (A1 : Option Addr) (c1 : Nat) (A2 : Option Addr) (c2 : Nat), cs = [.slice A0 (List.length x.1) c0, .slice A1 (List.length x.2.1) c1, .slice A2 (List.length x.2.2.1) c2, .int .i64 x.2.2.2.1, .int .i64 x.2.2.2.2] := by
 obtain ⟨c0, r0, f0, t0, rfl, _, g0, q0⟩ := h
 obtain ⟨c1, r1, f1, t1, rfl, _, g1, q1⟩ := q0
 obtain ⟨c2, r2, f2, t2, rfl, _, g2, q2⟩ := q1
 obtain ⟨c3, r3, f3, t3, rfl, _, g3, q3⟩ := q2
 have g4 := q3
 obtain ⟨A0, c0, rfl⟩ := Ty.ow_slv g0
 obtain ⟨A1, c1, rfl⟩ := Ty.ow_slv g1
 obtain ⟨A2, c2, rfl⟩ := Ty.ow_slv g2
 obtain ⟨⟨rfl, b3⟩, _⟩ := g3
 obtain ⟨⟨rfl, b4⟩, _⟩ := g4
 exact ⟨A0, c0, A1, c1, A2, c2, rfl⟩
theorem info_Data : (Tryz.prog.info? 34).map (fun i => (i.zero, i.size, i.bytes)) = some (some (.agg #[.slice none 0 0, .slice none 0 0, .slice none 0 0, .int .i64 0, .int .i64 0]), 5, 88) := by kernel_rfl
abbrev tKey : Ty := (.pr (.sl .str) .int)
theorem rd_Key {w : World} {cs : List Value} {x : tKey.D} (h : tKey.rd w cs x) : ∃ (A0 : Option Addr) (c0 : Nat), cs = [.slice A0 (List.length x.1) c0, .int .i64 x.2] ∧ (Ty.rd w (.sl .str) [.slice A0 (List.length x.1) c0] x.1) ∧ (-9223372036854775808 ≤ x.2 ∧ x.2 ≤ 9223372036854775807) := by
 obtain ⟨c0, r0, rfl, g0, q0⟩ := h
 have g1 := q0
 obtain ⟨A0, c0, rfl⟩ := Ty.rd_slv g0
 obtain ⟨rfl, b1⟩ := g1
 exact ⟨A0, c0, rfl, g0, b1⟩
theorem info_Key : (Tryz.prog.info? 68).map (fun i => (i.zero, i.size, i.bytes)) = some (some (.agg #[.slice none 0 0, .int .i64 0]), 2, 32) := by kernel_rfl
abbrev tRule : Ty := (.pr (.sl .str) (.sl .str))
theorem rd_Rule {w : World} {cs : List Value} {x : tRule.D} (h : tRule.rd w cs x) : ∃ (A0 : Option Addr) (c0 : Nat) (A1 : Option Addr) (c1 : Nat), cs = [.slice A0 (List.length x.1) c0, .slice A1 (List.length x.2) c1] ∧ (Ty.rd w (.sl .str) [.slice A0 (List.length x.1) c0] x.1) ∧ (Ty.rd w (.sl .str) [.slice A1 (List.length x.2) c1] x.2) := by
 obtain ⟨c0, r0, rfl, g0, q0⟩ := h
 have g1 := q0
 obtain ⟨A0, c0, rfl⟩ := Ty.rd_slv g0
 obtain ⟨A1, c1, rfl⟩ := Ty.rd_slv g1
 exact ⟨A0, c0, A1, c1, rfl, g0, g1⟩
theorem ow_Rule {w : World} {cs : List Value} {x : tRule.D} {fp : List Nat} (h : tRule.ow w cs x fp) : ∃ (A0 : Option Addr) (c0 : Nat) (A1 : Option Addr) (c1 : Nat), cs = [.slice A0 (List.length x.1) c0, .slice A1 (List.length x.2) c1] := by
 obtain ⟨c0, r0, f0, t0, rfl, _, g0, q0⟩ := h
 have g1 := q0
 obtain ⟨A0, c0, rfl⟩ := Ty.ow_slv g0
 obtain ⟨A1, c1, rfl⟩ := Ty.ow_slv g1
 exact ⟨A0, c0, A1, c1, rfl⟩
theorem info_Rule : (Tryz.prog.info? 128).map (fun i => (i.zero, i.size, i.bytes)) = some (some (.agg #[.slice none 0 0, .slice none 0 0]), 2, 48) := by kernel_rfl
abbrev tTrustPolicy : Ty := (.pr (.sl tKey) (.pr (.sl tRule) (.pr (.sl (.sl .str)) (.sl tData))))
theorem rd_TrustPolicy {w : World} {cs : List Value} {x : tTrustPolicy.D} (h : tTrustPolicy.rd w cs x) : ∃ (A0 : Option Addr) (c0 : Nat) (A1 : Option Addr) (c1 : Nat) (A2 : Option Addr) (c2 : Nat) (A3 : Option Addr) (c3 : Nat), cs = [.slice A0 (List.length x.1) c0, .slice A1 (List.length x.2.1) c1, .slice A2 (List.length x.2.2.1) c2, .slice A3 (List.length x.2.2.2) c3] ∧ (Ty.rd w (.sl tKey) [.slice A0 (List.length x.1) c0] x.1) ∧ (Ty.rd w (.sl tRule) [.slice A1 (List.length x.2.1) c1] x.2.1) ∧ (Ty.rd w (.sl (.sl .str)) [.slice A2 (List.length x.2.2.1) c2] x.2.2.1) ∧ (Ty.rd w (.sl tData) [.slice A3 (List.length x.2.2.2) c3] x.2.2.2) := by
 obtain ⟨c0, r0, rfl, g0, q0⟩ := h
 obtain ⟨c1, r1, rfl, g1, q1⟩ := q0
 obtain ⟨c2, r2, rfl, g2, q2⟩ := q1
 have g3 := q2
 obtain ⟨A0, c0, rfl⟩ := Ty.rd_slv g0
 obtain ⟨A1, c1, rfl⟩ := Ty.rd_slv g1
 obtain ⟨A2, c2, rfl⟩ := Ty.rd_slv g2
 obtain ⟨A3, c3, rfl⟩ := Ty.rd_slv g3
 exact ⟨A0, c0, A1, c1, A2, c2, A3, c3, rfl, g0, g1, g2, g3⟩
theorem bulk_app {e : Ty} (x y : List e.D) : Ty.bulk (.sl e) (x ++ y) = Ty.bulk (.sl e) x + Ty.bulk (.sl e) y := by
 show (x ++ y).length + ((x ++ y).map (fun d => e.bulk d)).sum = (x.length + (x.map (fun d => e.bulk d)).sum) + (y.length + (y.map (fun d => e.bulk d)).sum)
 rw [List.length_append, List.map_append, List.sum_append]; omega
theorem bulk_one {e : Ty} (d : e.D) : Ty.bulk (.sl e) [d] = e.bulk d + 1 := by
 show 1 + ([d].map (fun d => e.bulk d)).sum = _
 simp; omega
def spl (c : UInt8) : List UInt8 → List (List UInt8)
 | [] => [[]]
 | b :: l => if b = c then [] :: spl c l else match spl c l with
  | h :: t => (b :: h) :: t
  | [] => [[b]]
theorem spl_ne (c : UInt8) (l : List UInt8) : spl c l ≠ [] := by
  cases l with
  | nil => simp [spl]
  | cons b l => unfold spl; split; · simp
                split <;> simp
theorem spl_pos (c : UInt8) (s : List UInt8) : 0 < (spl c s).length := List.length_pos_iff.2 (spl_ne c s)
theorem spl_notin {c : UInt8} : ∀ {a : List UInt8}, c ∉ a → spl c a = [a]
 | [], _ => rfl
 | b :: a, h => by
  have h1 : b ≠ c := fun e => h (by simp [e])
  have h2 : c ∉ a := fun e => h (by simp [e])
  unfold spl; rw [if_neg h1, spl_notin h2]
theorem spl_app {c : UInt8} (r : List UInt8) : ∀ {a : List UInt8}, c ∉ a → spl c (a ++ c :: r) = a :: spl c r
 | [], _ => by show spl c (c :: r) = _; rw [spl]; simp
 | b :: a, h => by
  have h1 : b ≠ c := fun e => h (by simp [e])
  have h2 : c ∉ a := fun e => h (by simp [e])
  show spl c (b :: (a ++ c :: r)) = _
  rw [spl, if_neg h1, spl_app r h2]
theorem validPat_part {p : List (List UInt8)} (h : validPat p = true) : p.length ≤ 6 ∧ ∀ s ∈ p, s.length ≤ 8 ∧ (32 : UInt8) ∉ s := by
 unfold validPat at h
 simp only [Bool.and_eq_true, List.all_eq_true, List.mem_range, decide_eq_true_eq] at h
 refine ⟨h.2, fun s hs => ?_⟩
 obtain ⟨k, hk, rfl⟩ := List.getElem_of_mem hs
 have h2 := h.1 k hk
 rw [show p.getD k [] = p[k] by simp [List.getD, hk]] at h2
 generalize p[k] = s at h2
 unfold patPart at h2
 simp only [Bool.or_eq_true, Bool.and_eq_true, decide_eq_true_eq] at h2
 rcases h2 with ((h2 | h2) | h2) | h2
 ·unfold validPart at h2
  simp only [Bool.and_eq_true, decide_eq_true_eq, List.all_eq_true] at h2
  exact ⟨h2.2.2, fun hm => absurd (h2.1 32 hm) b_36⟩
 ·subst h2; decide
 ·unfold isVar at h2
  split at h2
  ·rename_i a c
   simp only [Bool.and_eq_true, decide_eq_true_eq] at h2
   refine ⟨by simp, fun hm => ?_⟩
   simp only [List.mem_cons, List.not_mem_nil, or_false] at hm
   rcases hm with e | e
   ·rw [h2.1] at e; exact absurd e b_36
   ·subst e; exact absurd h2.2.1 b_36
  ·cases h2
 ·rw [h2.1]; decide
theorem validPat_bulk {p : List (List UInt8)} (h : validPat p = true) : Ty.bulk (.sl .str) p ≤ 60 := by
 obtain ⟨h1, h2⟩ := validPat_part h
 have : ∀ q : List (List UInt8), (∀ s ∈ q, s.length ≤ 8 ∧ (32 : UInt8) ∉ s) → Ty.bulk (.sl .str) q ≤ 9 * q.length := by
  intro q
  induction q with
  | nil => intro _; exact Nat.le_refl _
  | cons a q ih =>
   intro hq
   have e : Ty.bulk (.sl .str) (a :: q) = Ty.bulk (.sl .str) [a] + Ty.bulk (.sl .str) q := bulk_app (e := .str) [a] q
   have e2 : Ty.bulk (.sl .str) [a] = Ty.bulk .str a + 1 := bulk_one (e := .str) a
   have e3 : Ty.bulk .str a = a.length := rfl
   have := (hq a b_38).1
   have := ih (fun s hs => hq s (by simp [hs]))
   rw [e, e2, e3, List.length_cons]; omega
 have := this p h2
 omega
def ppS (s : List UInt8) : List (List UInt8) × Bool :=
 if s = [47] then ([], true) else if decide (2 ≤ (spl 47 s).length) && decide ((spl 47 s).head? = some []) && validPat (spl 47 s).tail then ((spl 47 s).tail, true) else ([], false)
theorem ppS_ok {s : List UInt8} : validPat (ppS s).1 = true := by
 unfold ppS
 split
 ·rfl
 ·split
  ·rename_i h
   simp only [Bool.and_eq_true] at h
   exact h.2
  ·rfl
theorem ppS_bulk (s : List UInt8) : Ty.bulk (.sl .str) (ppS s).1 ≤ 60 := validPat_bulk ppS_ok
def ruleOf (a b : List (List UInt8) × Bool) : tRule.D := (a.1, b.1)
def prS (s : List UInt8) : tRule.D × Bool :=
 if (spl 32 s).length = 3 ∧ (spl 32 s)[1]? = some [60] then
  (if (ppS ((spl 32 s).getD 0 [])).2 && (ppS ((spl 32 s).getD 2 [])).2 && validRule (ruleOf (ppS ((spl 32 s).getD 0 [])) (ppS ((spl 32 s).getD 2 []))) then (ruleOf (ppS ((spl 32 s).getD 0 [])) (ppS ((spl 32 s).getD 2 [])), true) else (([], []), false))
 else (([], []), false)
def pnS (s : List UInt8) : List (List UInt8) × Bool :=
 if s = [47] then ([], true) else if decide (2 ≤ (spl 47 s).length) && decide ((spl 47 s).head? = some []) && validName (spl 47 s).tail then ((spl 47 s).tail, true) else ([], false)
theorem pnS_one {s : List UInt8} (h : s = [47]) : pnS s = ([], true) := by unfold pnS; rw [if_pos h]
theorem pnS_no {s : List UInt8} (h : ¬ s = [47]) (h2 : (decide (2 ≤ (spl 47 s).length) && decide ((spl 47 s).head? = some []) && validName (spl 47 s).tail) = false) : pnS s = ([], false) := by unfold pnS; rw [if_neg h, h2]; rfl
theorem pnS_yes {s : List UInt8} (h : ¬ s = [47]) (h2 : (decide (2 ≤ (spl 47 s).length) && decide ((spl 47 s).head? = some []) && validName (spl 47 s).tail) = true) : pnS s = ((spl 47 s).tail, true) := by unfold pnS; rw [if_neg h, if_pos h2]
def splAt (c : UInt8) (s : List UInt8) (k f : Nat) (acc : List (List UInt8)) : Prop :=
 (k ≤ s.length ∧ f ≤ k ∧ acc.length ≤ k ∧ acc ++ spl c (s.drop f) = spl c s ∧ c ∉ (s.drop f).take (k - f)) ∨ (k = s.length + 1 ∧ f ≤ k ∧ acc.length ≤ k ∧ acc = spl c s)
theorem splAt_start (c : UInt8) (s : List UInt8) : splAt c s 0 0 [] := .inl ⟨by omega, by omega, by simp, by simp, by simp⟩
theorem splAt_no {c : UInt8} {s : List UInt8} {k f : Nat} {acc : List (List UInt8)} (h : splAt c s k f acc) (hk : k < s.length) (hc : ¬ s[k] = c) : splAt c s (k + 1) f acc := by
 rcases h with ⟨h1, h2, h3, h4, h5⟩ | ⟨h1, _⟩
 ·refine .inl ⟨by omega, by omega, by omega, h4, ?_⟩
  have hd : k - f < (s.drop f).length := by rw [List.length_drop]; omega
  rw [show k + 1 - f = (k - f) + 1 from by omega, List.take_succ_eq_append_getElem hd]
  intro hm
  rcases List.mem_append.1 hm with hm | hm
  ·exact h5 hm
  ·have : (s.drop f)[k - f] = s[k] := by rw [List.getElem_drop]; congr 1; omega
   rw [this] at hm
   exact hc (by simpa using (List.mem_singleton.1 hm).symm)
 ·omega
theorem splAt_yes {c : UInt8} {s : List UInt8} {k f : Nat} {acc : List (List UInt8)} (h : splAt c s k f acc) (hk : k < s.length) (hc : s[k] = c) : splAt c s (k + 1) (k + 1) (acc ++ [(s.drop f).take (k - f)]) := by
 rcases h with ⟨h1, h2, h3, h4, h5⟩ | ⟨h1, _⟩
 ·refine .inl ⟨by omega, by omega, by simp; omega, ?_, by simp⟩
  have hd : k - f < (s.drop f).length := by rw [List.length_drop]; omega
  have e : s.drop f = (s.drop f).take (k - f) ++ c :: s.drop (k + 1) := by
   conv => lhs; rw [← List.take_append_drop (k - f) (s.drop f)]
   congr 1
   rw [List.drop_eq_getElem_cons hd, List.drop_drop, List.getElem_drop]
   congr 1
   ·rw [← hc]; congr 1; omega
   ·congr 1; omega
  rw [e, spl_app _ h5] at h4
  rw [← h4, List.append_assoc]; rfl
 ·omega
theorem splAt_end {c : UInt8} {s : List UInt8} {f : Nat} {acc : List (List UInt8)} (h : splAt c s s.length f acc) : splAt c s (s.length + 1) (s.length + 1) (acc ++ [(s.drop f).take (s.length - f)]) := by
 rcases h with ⟨h1, h2, h3, h4, h5⟩ | ⟨h1, _⟩
 ·refine .inr ⟨rfl, by omega, by simp; omega, ?_⟩
  rw [List.take_of_length_le (by rw [List.length_drop]; omega)] at h5 ⊢
  rw [← h4, spl_notin h5]
 ·omega
theorem splAt_bd {c : UInt8} {s : List UInt8} {k f : Nat} {acc : List (List UInt8)} (h : splAt c s k f acc) : k ≤ s.length + 1 ∧ f ≤ k ∧ acc.length ≤ k := by
 rcases h with ⟨h1, h2, h3, _⟩ | ⟨h1, h2, h3, _⟩
 ·exact ⟨by omega, h2, h3⟩
 ·exact ⟨by omega, h2, h3⟩
theorem splAt_done {c : UInt8} {s : List UInt8} {k f : Nat} {acc : List (List UInt8)} (h : splAt c s k f acc) (hk : ¬ k ≤ s.length) : acc = spl c s := by
 rcases h with ⟨h1, _⟩ | ⟨_, _, _, h1⟩
 ·omega
 ·exact h1
theorem run_sub (P : Program) (t : TypeId) (ht : P.underlying t = some .string) (s : List UInt8) (a b : Nat) (h : a ≤ b) (hb : b ≤ s.length) (W : World) :
  (Instr.slice t (.string ⟨s.toArray⟩) (some (.int .i64 a)) (some (.int .i64 b)) none).run P W = .ok (vS ((s.drop a).take (b - a))) W := by
 have := run_slice_string (P := P) W t ⟨s.toArray⟩ .i64 .i64 a b ht b_37 b_37 (by show (b : Int) ≤ (s.toArray.size : Int); simp; omega)
 rw [this]
 show Result.ok (Value.string ((ByteArray.mk s.toArray).extract a b)) W = _
 rw [ByteArray.extract_mk]
set_option maxHeartbeats 4000000 in
theorem C_spec_l4Split (w : World) (s : List UInt8) (c : UInt8) (hs : s.length ≤ 1000000000) :
  Calls Tryz.prog 153 #[vS s, .int .u8 (c.toNat : Int)] w (RetRow flatS w 9 (spl c s)) := by
 go_enter Tryz.func153, Tryz.ntmps153
 go_wp2
 go_loopw [5, 6, 7] (fun vv fr i wr => ∃ (k f : Nat) (acc : List (List UInt8)), i = .int .i64 k ∧ fr = .int .i64 f ∧ Row flatS wr w.heap.size 9 vv acc ∧ Hid (splAt c s k f acc) ∧ Below w.heap.size w wr) (fun _ _ i _ => s.length + 1 - (intOf i).toNat)
 case atStart => exact ⟨0, 0, [], by first | rfl | simp, by first | rfl | simp, Row.lit0 flatS w _ (Nat.le_refl _), Lib.hid (splAt_start c s), b_10⟩
 case round =>
  obtain ⟨k, f, acc, rfl, rfl, hr, hA, hb⟩ := hrel
  have HRow := Lib.hid hr
  obtain ⟨h1, h2, h3⟩ := splAt_bd hA.out
  clear hr
  by_cases hle : k ≤ s.length
  ·have hap : ∀ (W : World), (Instr.slice 9 (.string ⟨s.toArray⟩) (some (.int .i64 f)) (some (.int .i64 k)) none).run Tryz.prog W = .ok (vS ((s.drop f).take (k - f))) W := fun W => run_sub _ _ Tryz.underlying9 s f k h2 hle W
   have HX : Hid (((s.drop f).take (k - f)).length ≤ 9223372036854775807) := by unfold Hid; rw [List.length_take, List.length_drop]; omega
   generalize hxx : (s.drop f).take (k - f) = x at hap HX
   have HLX := Lib.hid (Row.lit1 flatS wr 9 x HX.out (Nat.le_refl _))
   by_cases hlt : k < s.length
   ·have HY := Lib.hid (fun hc : s[k] = c => splAt_yes hA.out hlt hc)
    rw [hxx] at HY
    have HN := Lib.hid (fun hc : ¬ s[k] = c => splAt_no hA.out hlt hc)
    have HC : Hid (∀ b : Bool, ((({ data := s.toArray } : ByteArray)[k]'(by show k < s.toArray.size; simpa using hlt)).toNat == (c.toNat : Int)) = b → (b = true → s[k] = c) ∧ (b = false → ¬ s[k] = c)) := by
     intro b hb
     have hb' : ((s[k].toNat : Int) == (c.toNat : Int)) = b := hb
     refine ⟨fun e => ?_, fun e => ?_⟩
     ·subst e; exact UInt8.toNat_inj.1 (by have := beq_iff_eq.1 hb'; omega)
     ·subst e; intro e2; rw [e2] at hb'; simp at hb'
    have hL : (k : Int) ≠ s.length := by omega
    clear hxx
    set_option maxRecDepth 100000 in go_wp2_with (at_builtin; go_loud (refine wpList_append_row rfl _ _ 30 rfl flatS w.heap.size 9 info_str rfl Tryz.underlying30 _ _ acc [x] rfl rfl (HRow.out.below b_10) (HLX.out.rd b_32) ?_ ?_ ?_ ?_))
    case refine_1 => rw [List.length_singleton]; omega
    case refine_2 => rw [List.length_singleton]; unfold maxLen; omega
    case refine_3 => simp only [World.size_alloc]; have := hb.size; omega
    ·rename_i hh _ hK
     have HY2 := Lib.hid (HY.out ((HC.out _ (hh.resolve_left (by simp; omega))).1 rfl))
     intro v' w' hr' hg'
     have hb' : Below w.heap.size w w' := bel_grown (bel_alloc hb _) (by simp only [World.size_alloc]; have := hb.size; omega) hg' (fun g hg => (HRow.out.block g hg).1)
     have HR' := Lib.hid hr'
     clear hr'
     go_wp2
     go_roundw
     case rel => exact ⟨k + 1, k + 1, acc ++ [x], by go_num, by first | rfl | go_num, HR'.out, Lib.hid HY2.out, hb'⟩
     case measure => simp [intOf] <;> omega
    ·rename_i hh
     have HN2 := Lib.hid (HN.out ((HC.out _ hh.2).2 rfl))
     refine ⟨⟨k + 1, f, acc, by go_num, rfl, HRow.out, Lib.hid HN2.out, hb⟩, ?_⟩
     simp [intOf] <;> omega
   ·obtain rfl : k = s.length := by omega
    have HN := Lib.hid (splAt_end hA.out)
    rw [hxx] at HN
    clear hxx
    set_option maxRecDepth 100000 in go_wp2_with (at_builtin; go_loud (refine wpList_append_row rfl _ _ 30 rfl flatS w.heap.size 9 info_str rfl Tryz.underlying30 _ _ acc [x] rfl rfl (HRow.out.below b_10) (HLX.out.rd b_32) ?_ ?_ ?_ ?_))
    case refine_1 => rw [List.length_singleton]; omega
    case refine_2 => rw [List.length_singleton]; unfold maxLen; omega
    case refine_3 => simp only [World.size_alloc]; have := hb.size; omega
    intro v' w' hr' hg'
    have hb' : Below w.heap.size w w' := bel_grown (bel_alloc hb _) (by simp only [World.size_alloc]; have := hb.size; omega) hg' (fun g hg => (HRow.out.block g hg).1)
    have HR' := Lib.hid hr'
    clear hr'
    go_wp2
    go_roundw
    case rel => exact ⟨s.length + 1, s.length + 1, acc ++ [x], by go_num, by first | rfl | go_num, HR'.out, Lib.hid HN.out, hb'⟩
    case measure => simp [intOf] <;> omega
  ·have HE := Lib.hid (splAt_done hA.out hle)
   go_wp2
   go_ret
   obtain rfl := HE.out
   exact ⟨_, rfl, HRow.out, hb⟩
theorem bytesLess_irrefl : ∀ l : List UInt8, Op.bytesLess l l = false
 | [] => rfl
 | a :: l => by simp [Op.bytesLess, bytesLess_irrefl l]
set_option maxHeartbeats 400000 in
theorem C_spec_l4Cmp (w : World) (a b : List UInt8) :
  Calls Tryz.prog 154 #[vS a, vS b] w fun e w' => ∃ n : Int, e = .returned (.int .i64 n) ∧ (n = 0 ↔ a = b) ∧ Below w.heap.size w w' := by
 go_enter Tryz.func154, Tryz.ntmps154
 go_wp2
 all_goals go_ret
 ·rename_i h
  exact ⟨-1, rfl, by (refine ⟨fun h0 => by omega, fun h0 => ?_⟩); subst h0; simp [bytesLess_irrefl] at h, Below.refl _ _⟩
 ·rename_i h
  exact ⟨1, rfl, by (refine ⟨fun h0 => by omega, fun h0 => ?_⟩); subst h0; simp at h, Below.refl _ _⟩
 ·rename_i h
  exact ⟨0, rfl, by simpa using h, Below.refl _ _⟩
set_option maxHeartbeats 1000000 in
theorem C_spec_CompareNames (w : World) (cs1 cs2 : List Value) (x y : List (List UInt8)) (h1 : (Ty.sl .str).rd w cs1 x) (h2 : (Ty.sl .str).rd w cs2 y) :
  Calls Tryz.prog 118 #[.agg cs1.toArray, .agg cs2.toArray] w fun e w' => ∃ n : Int, e = .returned (.int .i64 n) ∧ (n = 0 ↔ x = y) ∧ Below w.heap.size w w' := by
 obtain ⟨s1, rfl⟩ := List.length_eq_one_iff.1 (Ty.rd_len h1)
 obtain ⟨s2, rfl⟩ := List.length_eq_one_iff.1 (Ty.rd_len h2)
 obtain ⟨A1, c1, rfl, hc1, hm1, hn1⟩ := Ty.rd_sl h1
 obtain ⟨A2, c2, rfl, hc2, hm2, hn2⟩ := Ty.rd_sl h2
 go_enter Tryz.func118, Tryz.ntmps118
 go_wp2
 go_loopw [5] (fun i wr => ∃ k : Nat, k ≤ x.length ∧ k ≤ y.length ∧ i = .int .i64 k ∧ x.take k = y.take k ∧ Below ((w.alloc (.cells #[.slice A1 x.length c1] 32)).alloc (.cells #[.slice A2 y.length c2] 32)).heap.size ((w.alloc (.cells #[.slice A1 x.length c1] 32)).alloc (.cells #[.slice A2 y.length c2] 32)) wr) (fun i _ => x.length - (intOf i).toNat)
 case atStart => exact ⟨0, by omega, by omega, rfl, rfl, Below.refl _ _⟩
 case round =>
  obtain ⟨k, hk1, hk2, rfl, htk, hb⟩ := hrel
  have hw : Below w.heap.size w wr := bel_trans b_10 hb
  obtain ⟨hc, hf⟩ := bcell hb
  have HT := Lib.hid htk
  clear htk
  by_cases hl1 : k < x.length
  ·by_cases hl2 : k < y.length
   ·obtain ⟨b1, o1, rfl, e1, _⟩ := Ty.rd_str_at (Ty.rd_below hw h1) hl1
    obtain ⟨b2, o2, rfl, e2, _⟩ := Ty.rd_str_at (Ty.rd_below hw h2) hl2
    go_wp2_with fail
    set_option maxRecDepth 100000 in go_still_tail 10, b_35
    go_wp2_with fail
    refine (C_spec_l4Cmp _ _ _).mono ?_
    rintro e w1 ⟨n, rfl, hn, hb1⟩
    have hb2 : Below ((w.alloc (.cells #[.slice (some ⟨b1, o1, none⟩) x.length c1] 32)).alloc (.cells #[.slice (some ⟨b2, o2, none⟩) y.length c2] 32)).heap.size ((w.alloc (.cells #[.slice (some ⟨b1, o1, none⟩) x.length c1] 32)).alloc (.cells #[.slice (some ⟨b2, o2, none⟩) y.length c2] 32)) w1 := bel_trans (bel_drew hb) hb1
    have hw1 : Below w.heap.size w w1 := bel_trans b_10 hb2
    have HN := Lib.hid hn
    clear hn
    by_cases hn0 : n = 0
    ·have q1 : (n != 0) = false := by simp [hn0]
     have HZ := Lib.hid (HN.out.1 hn0)
     clear hn0
     go_wp2
     go_roundw
     case rel => exact ⟨k + 1, by omega, by omega, by go_num, by rw [List.take_succ_eq_append_getElem hl1, List.take_succ_eq_append_getElem hl2, HT.out, HZ.out], hb2⟩
     case measure => simp [intOf]; omega
    ·have q1 : (n != 0) = true := by simp [hn0]
     have HZ : Hid (¬ x = y) := fun h => hn0 (HN.out.2 (by subst h; rfl))
     clear hn0
     go_wp2
     go_ret
     exact ⟨n, rfl, ⟨fun h => absurd h (by simpa using q1), fun h => absurd h HZ.out⟩, hw1⟩
   ·have hky : k = y.length := by omega
    have HE : Hid (x.length = y.length → x = y) := fun h => by
     have := HT.out
     rwa [hky, List.take_length, ← h, List.take_length] at this
    clear hky
    go_wp2
    all_goals go_ret
    all_goals first
     | exact ⟨-1, rfl, ⟨fun h => by omega, fun h => by (have := congrArg List.length h; omega)⟩, hw⟩
     | exact ⟨1, rfl, ⟨fun h => by omega, fun h => by (have := congrArg List.length h; omega)⟩, hw⟩
     | exact ⟨0, rfl, ⟨fun _ => HE.out b_37, fun _ => rfl⟩, hw⟩
  ·have hkx : k = x.length := by omega
   have HE : Hid (x.length = y.length → x = y) := fun h => by
    have := HT.out
    rwa [hkx, List.take_length, h, List.take_length] at this
   clear hkx
   go_wp2
   all_goals go_ret
   all_goals first
    | exact ⟨-1, rfl, ⟨fun h => by omega, fun h => by (have := congrArg List.length h; omega)⟩, hw⟩
    | exact ⟨1, rfl, ⟨fun h => by omega, fun h => by (have := congrArg List.length h; omega)⟩, hw⟩
    | exact ⟨0, rfl, ⟨fun _ => HE.out b_37, fun _ => rfl⟩, hw⟩
set_option maxHeartbeats 1000000 in
theorem C_spec_EqualNames (w : World) (cs1 cs2 : List Value) (x y : List (List UInt8)) (h1 : (Ty.sl .str).rd w cs1 x) (h2 : (Ty.sl .str).rd w cs2 y) :
  Calls Tryz.prog 71 #[.agg cs1.toArray, .agg cs2.toArray] w (RetB w (decide (x = y))) := by
 obtain ⟨s1, rfl⟩ := List.length_eq_one_iff.1 (Ty.rd_len h1)
 obtain ⟨s2, rfl⟩ := List.length_eq_one_iff.1 (Ty.rd_len h2)
 go_enter Tryz.func71, Tryz.ntmps71
 go_wp2_with fail
 refine (C_spec_CompareNames _ _ _ _ _ (Ty.rd_below b_10 h1) (Ty.rd_below b_10 h2)).mono ?_
 rintro e w1 ⟨n, rfl, hn, hb1⟩
 have hw1 : Below w.heap.size w w1 := bel_trans b_10 hb1
 have HN := Lib.hid hn
 clear hn
 go_wp2
 go_ret
 exact ⟨ret_bool (by rw [Bool.eq_iff_iff]; simp [HN.out]), hw1⟩
set_option maxHeartbeats 1000000 in
theorem C_slices_Equal_str (w : World) (v1 v2 : Value) (x y : List (List UInt8)) (h1 : (Ty.sl .str).rd w [v1] x) (h2 : (Ty.sl .str).rd w [v2] y) :
  Calls Tryz.prog 117 #[v1, v2] w (RetB w (decide (x = y))) := by
 obtain ⟨A1, c1, rfl, hc1, hm1, hn1⟩ := Ty.rd_sl h1
 obtain ⟨A2, c2, rfl, hc2, hm2, hn2⟩ := Ty.rd_sl h2
 by_cases hl : x.length = y.length
 ·have q1 : ((x.length : Int) != y.length) = false := by simp [hl]
  have HL := Lib.hid hl
  clear hl
  go_enter Tryz.func117, Tryz.ntmps117
  go_wp2
  go_loopw [13] (fun i wr => ∃ k : Nat, k ≤ x.length ∧ i = .int .i64 k ∧ x.take k = y.take k ∧ Below w.heap.size w wr) (fun i _ => x.length - (intOf i).toNat)
  case atStart => exact ⟨0, by omega, rfl, rfl, Below.refl _ _⟩
  case round =>
   obtain ⟨k, hk, rfl, htk, hb⟩ := hrel
   have HT := Lib.hid htk
   clear htk
   by_cases hlt : k < x.length
   ·have hlt2 : k < y.length := by have := HL.out; omega
    obtain ⟨b1, o1, rfl, e1, _⟩ := Ty.rd_str_at (Ty.rd_below hb h1) hlt
    obtain ⟨b2, o2, rfl, e2, _⟩ := Ty.rd_str_at (Ty.rd_below hb h2) hlt2
    by_cases he : x[k] = y[k]
    ·have q2 : (!x[k] == y[k]) = false := by simp [he]
     have HE := Lib.hid he
     clear he
     go_wp2
     go_quiet (fail)
     go_wp2
     go_roundw
     case rel => exact ⟨k + 1, by omega, by go_num, by rw [List.take_succ_eq_append_getElem hlt, List.take_succ_eq_append_getElem hlt2, HT.out, HE.out], bel_drewN hb _⟩
     case measure => simp [intOf]; omega
    ·have q2 : (!x[k] == y[k]) = true := by simp [he]
     have HE : Hid (¬ x = y) := fun h => he (by subst h; rfl)
     clear he
     go_wp2
     go_quiet (fail)
     go_wp2
     go_ret
     exact ⟨ret_bool (by simp [HE.out]), bel_drewN hb _⟩
   ·have HE : Hid (x = y) := by
     have h1 := HT.out
     rwa [List.take_of_length_le b_37, List.take_of_length_le (by have := HL.out; omega)] at h1
    go_wp2
    go_ret
    exact ⟨ret_bool (by simp [HE.out]), hb⟩
 ·have q1 : ((x.length : Int) != y.length) = true := by rw [bne_iff_ne]; omega
  have HE : Hid (¬ x = y) := fun h => hl (congrArg List.length h)
  go_enter Tryz.func117, Tryz.ntmps117
  go_wp2
  go_ret
  exact ⟨ret_bool (by simp [HE.out]), Below.refl _ _⟩
def RetBP (w : World) (b : Bool) (e : Ending) (w' : World) : Prop := e = .returned (.bool b) ∧ w' = w
def RetIP (w : World) (b : Int) (e : Ending) (w' : World) : Prop := e = .returned (.int .i64 b) ∧ w' = w
def inR (x a b : Int) : Bool := decide (a ≤ x) && decide (x ≤ b)
set_option maxHeartbeats 400000 in
theorem C_spec_l1In (w : World) (x a b : Int) : Calls Tryz.prog 116 #[.int .i64 x, .int .i64 a, .int .i64 b] w (RetBP w (inR x a b)) := by
 go_enter Tryz.func116, Tryz.ntmps116
 go_wp2
 all_goals go_ret
 all_goals exact ⟨ret_bool (by unfold inR; (rw [Bool.eq_iff_iff]; simp; try omega)), rfl⟩
set_option maxHeartbeats 400000 in
theorem C_impl_InRange (w : World) (x a b : Int) : Calls Tryz.prog 108 #[.int .i64 x, .int .i64 a, .int .i64 b] w (RetBP w (inR x a b)) := by
 go_enter Tryz.func108, Tryz.ntmps108
 go_wp2
 all_goals go_ret
 all_goals exact ⟨ret_bool (by unfold inR; (rw [Bool.eq_iff_iff]; simp; try omega)), rfl⟩
theorem okByte_iff (s : List UInt8) (k : Nat) (h : k < s.length) (c : Int) (hc : c = (s[k].toNat : Int)) : okByte s[k] = true ↔ (97 ≤ c ∧ c ≤ 122) ∨ (48 ≤ c ∧ c ≤ 57) ∨ c = 45 := by
 subst hc; unfold okByte; simp; omega
theorem okByte_no (s : List UInt8) (k : Nat) (h : k < s.length) (c : Int) (hc : c = (s[k].toNat : Int)) (hn : ¬ ((97 ≤ c ∧ c ≤ 122) ∨ (48 ≤ c ∧ c ≤ 57) ∨ c = 45)) : okByte s[k] = false := by
 cases hq : okByte s[k]
 ·rfl
 ·exact absurd ((okByte_iff s k h c hc).1 hq) hn
theorem bytes_at (s : List UInt8) (k : Nat) (h : k < s.length) (h2 : k < ({ data := s.toArray } : ByteArray).size) : ((({ data := s.toArray } : ByteArray)[k].toNat : Nat) : Int) = (s[k].toNat : Int) := rfl
set_option maxHeartbeats 1000000 in
theorem C_impl_ValidPart (w : World) (s : List UInt8) (hs : s.length ≤ 9223372036854775807) : Calls Tryz.prog 144 #[vS s] w (RetBP w (validPart s)) := by
  go_enter Tryz.func144, Tryz.ntmps144
  go_wp2
  go_loopw [7] (fun i wr => ∃ k : Nat, k ≤ s.length ∧ i = .int .i64 k ∧ (s.take k).all okByte = true ∧ wr = w) (fun i _ => s.length - (intOf i).toNat)
  case atStart => exact ⟨0, by omega, by first | rfl | simp, rfl, rfl⟩
  case round =>
    obtain ⟨k, hk, rfl, ht, rfl⟩ := hrel
    have HT := Lib.hid ht
    clear ht
    by_cases hlt : k < s.length
    · have hs1 := all_take_succ okByte s hlt
      have HS := Lib.hid hs1
      clear hs1
      go_wp2
      all_goals (try simp only [Bool.not_eq_false', decide_eq_true_eq, beq_iff_eq, Bool.not_eq_true', decide_eq_false_iff_not, beq_eq_false_iff_ne, ne_eq] at *)
      all_goals first
        | (go_ret
           exact ⟨ret_bool (by unfold validPart; rw [all_false_of okByte s hlt (okByte_no s k hlt _ (bytes_at s k hlt hlt) b_37)]; rfl), rfl⟩)
        | exact ⟨⟨k + 1, by omega, by go_num, by rw [HS.out, HT.out, (okByte_iff s k hlt _ (bytes_at s k hlt hlt)).2 b_37]; rfl, by first | rfl | trivial⟩, by simp [intOf]; omega⟩
    · have HE : Hid (s.all okByte = true) := by have := HT.out; rwa [List.take_of_length_le b_37] at this
      go_wp2_with fail
      refine (C_impl_InRange _ _ _ _).mono ?_
      rintro e w1 ⟨rfl, rfl⟩
      go_wp2
      go_ret
      exact ⟨ret_bool (by unfold validPart inR; rw [HE.out]; (rw [Bool.eq_iff_iff]; simp; try omega)), rfl⟩
set_option maxHeartbeats 400000 in
theorem C_impl_ValidName1 (w : World) (s : List UInt8) (hs : s.length ≤ 9223372036854775807) : Calls Tryz.prog 143 #[vS s] w (RetBP w (!validPart s)) := by
 go_enter Tryz.func143, Tryz.ntmps143
 go_wp2_with fail
 refine (C_impl_ValidPart _ _ hs).mono ?_
 rintro e w1 ⟨rfl, rfl⟩
 go_wp2
 go_ret
 exact ⟨rfl, rfl⟩
set_option maxHeartbeats 1000000 in
theorem C_spec_ValidPart (w : World) (s : List UInt8) (hs : s.length ≤ 9223372036854775807) : Calls Tryz.prog 145 #[vS s] w (RetBP w (validPart s)) := by
 go_enter Tryz.func145, Tryz.ntmps145
 go_wp2_with fail
 refine (C_spec_l1In _ _ _ _).mono ?_
 rintro e w1 ⟨rfl, rfl⟩
 cases hq : inR s.length 1 8
 ·go_wp2
  go_ret
  exact ⟨ret_bool (by unfold validPart; unfold inR at hq; rw [show (decide (1 ≤ s.length) && decide (s.length ≤ 8)) = false from by (rw [Bool.eq_iff_iff] at hq ⊢; simp at hq ⊢; omega)]; simp), rfl⟩
 have HL := Lib.hid hq
 go_wp2
 go_loopw [3] (fun i wr => ∃ k : Nat, k ≤ s.length ∧ i = .int .i64 k ∧ (s.take k).all okByte = true ∧ wr = w1) (fun i _ => s.length - (intOf i).toNat)
 case atStart => exact ⟨0, by omega, by first | rfl | simp, rfl, rfl⟩
 case round =>
  obtain ⟨k, hk, rfl, ht, rfl⟩ := hrel
  have HT := Lib.hid ht
  clear ht
  by_cases hlt : k < s.length
  ·have hs1 := all_take_succ okByte s hlt
   have HS := Lib.hid hs1
   clear hs1
   have HR : Hid (∀ c : Int, c = (s[k].toNat : Int) → okByte s[k] = (inR c 97 122 || inR c 48 57 || decide (c = 45))) := fun c hc => by
    subst hc; unfold okByte inR; (rw [Bool.eq_iff_iff]; simp; omega)
   go_wp2_with fail
   have hr := HR.out _ (bytes_at s k hlt hlt)
   have hcb : 0 ≤ (s[k].toNat : Int) ∧ (s[k].toNat : Int) ≤ 255 := by have := UInt8.toNat_lt s[k]; omega
   rw [← bytes_at s k hlt hlt] at hcb
   generalize ((({ data := s.toArray } : ByteArray)[k]'hlt).toNat : Int) = c at hr hcb ⊢
   have hwc : wrap64 c = c := by unfold wrap64; omega
   try rw [hwc]
   refine (C_spec_l1In _ c _ _).mono ?_
   rintro e w2 ⟨rfl, rfl⟩
   cases h1 : inR c 97 122
   ·go_wp2_with fail
    try rw [hwc]
    refine (C_spec_l1In _ c _ _).mono ?_
    rintro e w3 ⟨rfl, rfl⟩
    cases h2 : inR c 48 57
    ·by_cases h3 : c = 45
     ·have q3 : (c != 45) = false := by simp [h3]
      have HC := Lib.hid (show okByte s[k] = true from by rw [hr, h1, h2]; simp [h3])
      clear h3 hr
      go_wp2
      go_roundw
      case rel => exact ⟨k + 1, by omega, by go_num, by rw [HS.out, HT.out, HC.out]; rfl, by first | rfl | trivial⟩
      case measure => simp [intOf]; omega
     ·have q3 : (c != 45) = true := by simp [h3]
      have HC := Lib.hid (show okByte s[k] = false from by rw [hr, h1, h2]; simp [h3])
      clear h3 hr
      go_wp2
      go_ret
      exact ⟨ret_bool (by unfold validPart; rw [all_false_of okByte s hlt HC.out]; rfl), rfl⟩
    ·have HC := Lib.hid (show okByte s[k] = true from by rw [hr, h1, h2]; simp)
     clear hr
     go_wp2
     go_roundw
     case rel => exact ⟨k + 1, by omega, by go_num, by rw [HS.out, HT.out, HC.out]; rfl, by first | rfl | trivial⟩
     case measure => simp [intOf]; omega
   ·have HC := Lib.hid (show okByte s[k] = true from by rw [hr, h1]; simp)
    clear hr
    go_wp2
    go_roundw
    case rel => exact ⟨k + 1, by omega, by go_num, by rw [HS.out, HT.out, HC.out]; rfl, by first | rfl | trivial⟩
    case measure => simp [intOf]; omega
  ·have HE : Hid (s.all okByte = true) := by have := HT.out; rwa [List.take_of_length_le b_37] at this
   go_wp2
   go_ret
   exact ⟨ret_bool (by unfold validPart; rw [HE.out]; have := HL.out; unfold inR at this; simp at this ⊢; omega), rfl⟩
set_option maxHeartbeats 1000000 in
theorem C_spec_ValidName (w : World) (cs : List Value) (x : List (List UInt8)) (h : (Ty.sl .str).rd w cs x) :
  Calls Tryz.prog 103 #[.agg cs.toArray] w (RetB w (validName x)) := by
 obtain ⟨A, c, rfl⟩ := Ty.rd_slv h
 obtain ⟨_, _, _, hcc, hmm, hn⟩ := Ty.rd_sl h
 go_enter Tryz.func103, Tryz.ntmps103
 go_wp2
 go_loopw [3] (fun i wr => ∃ k : Nat, k ≤ x.length ∧ i = .int .i64 k ∧ (x.take k).all validPart = true ∧ Below (w.alloc (.cells #[.slice A x.length c] 32)).heap.size (w.alloc (.cells #[.slice A x.length c] 32)) wr) (fun i _ => x.length - (intOf i).toNat)
 case atStart => exact ⟨0, by omega, rfl, by first | rfl | simp, Below.refl _ _⟩
 case round =>
  obtain ⟨k, hk, rfl, ht, hb⟩ := hrel
  have hw : Below w.heap.size w wr := bel_trans b_10 hb
  obtain ⟨hc, hf⟩ := bcell hb
  have HT := Lib.hid ht
  clear ht
  by_cases hlt : k < x.length
  ·have HS := Lib.hid (all_take_succ validPart x hlt)
   obtain ⟨b, o, rfl, e0, n0⟩ := Ty.rd_str_at (Ty.rd_below hw h) hlt
   go_wp2_with fail
   refine (C_spec_ValidPart _ _ n0).mono ?_
   rintro e w2 ⟨rfl, rfl⟩
   cases hq : validPart x[k]
   ·go_wp2
    go_ret
    exact ⟨ret_bool (by unfold validName; rw [all_false_of validPart x hlt hq]; rfl), hw⟩
   ·have HQ := Lib.hid hq
    go_wp2
    go_roundw
    case rel => exact ⟨k + 1, by omega, by go_num, by rw [HS.out, HT.out, HQ.out]; rfl, hb⟩
    case measure => simp [intOf]; omega
  ·have HE : Hid (x.all validPart = true) := by have := HT.out; rwa [List.take_of_length_le b_37] at this
   go_wp2
   go_ret
   exact ⟨ret_bool (by unfold validName; rw [HE.out]; (rw [Bool.eq_iff_iff]; simp; try omega)), hw⟩
def ixf {α : Type} (p : α → Bool) (x : List α) : Int := match x.findIdx? p with | some k => (k : Int) | none => -1
theorem ixf_hit {α : Type} (p : α → Bool) (x : List α) {k : Nat} (h : k < x.length) (ht : (x.take k).any p = false) (hp : p x[k] = true) : ixf p x = k := by
 unfold ixf
 rw [List.findIdx?_eq_some_iff_getElem.2 ⟨h, hp, fun j hj => by
  have := List.any_eq_false.1 ht ((x.take k)[j]'(by rw [List.length_take]; omega)) (List.getElem_mem _)
  rw [List.getElem_take] at this; exact this⟩]
theorem ixf_miss {α : Type} (p : α → Bool) (x : List α) (ht : x.any p = false) : ixf p x = -1 := by
 unfold ixf
 rw [List.findIdx?_eq_none_iff.2 (fun a ha => by simpa using List.any_eq_false.1 ht a ha)]
theorem ixf_ge {α : Type} (p : α → Bool) (x : List α) : decide (ixf p x ≥ 0) = x.any p := by
 unfold ixf
 cases hq : x.findIdx? p with
 | none => rw [List.findIdx?_eq_none_iff] at hq; symm; simp; exact hq
 | some k => rw [List.findIdx?_eq_some_iff_getElem] at hq; obtain ⟨h, hp, _⟩ := hq; symm; simp; exact ⟨x[k], List.getElem_mem h, hp⟩
theorem ixf_lt {α : Type} (p : α → Bool) (x : List α) : ixf p x = -1 ∨ (0 ≤ ixf p x ∧ ixf p x < x.length) := by
 unfold ixf
 cases hq : x.findIdx? p with
 | none => exact .inl rfl
 | some k => rw [List.findIdx?_eq_some_iff_getElem] at hq; obtain ⟨h, hp, _⟩ := hq; right; simp; omega
set_option maxHeartbeats 1000000 in
theorem C_IndexFunc_str (w : World) (v : Value) (x : List (List UInt8)) (p : List UInt8 → Bool) (g : Nat) (lb : Array Value) (eg : ∀ args w, (callFunc g args).run Tryz.prog w = .ok (.enter g args) w)
  (h : (Ty.sl .str).rd w [v] x) (hp : ∀ (W : World) (s : List UInt8), s.length ≤ 9223372036854775807 → Below w.heap.size w W → Calls Tryz.prog g (#[vS s] ++ lb) W (RetB W (p s))) :
  Calls Tryz.prog 168 #[v, .func (.func g) #[] lb] w (RetI w (ixf p x)) := by
 obtain ⟨A, c, rfl, hc, hm, hn⟩ := Ty.rd_sl h
 have HP := Lib.hid hp
 clear hp
 go_enter Tryz.func168, Tryz.ntmps168
 go_wp2
 go_loopw [8] (fun i wr => ∃ k : Nat, k ≤ x.length ∧ i = .int .i64 k ∧ (x.take k).any p = false ∧ Below w.heap.size w wr) (fun i _ => x.length - (intOf i).toNat)
 case atStart => exact ⟨0, by omega, by first | rfl | simp, by first | rfl | simp, Below.refl _ _⟩
 case round =>
  obtain ⟨k, hk, rfl, ht, hb⟩ := hrel
  have HT := Lib.hid ht
  clear ht
  by_cases hlt : k < x.length
  ·have HS := Lib.hid (any_take_succ p x hlt)
   obtain ⟨b, o, rfl, e0, n0⟩ := Ty.rd_str_at (Ty.rd_below hb h) hlt
   have hcall := HP.out wr x[k] n0 hb
   cases hq : p x[k]
   ·have HQ := Lib.hid hq
    rw [hq] at hcall
    go_wp2_with (go_at_fn g; refine hcall.mono ?_; rintro e w' ⟨rfl, hb'⟩)
    go_roundw
    case rel => exact ⟨k + 1, by omega, by go_num, by rw [HS.out, HT.out, HQ.out]; rfl, bel_trans hb hb'⟩
    case measure => simp [intOf]; omega
   ·have HQ := Lib.hid hq
    rw [hq] at hcall
    go_wp2_with (go_at_fn g; refine hcall.mono ?_; rintro e w' ⟨rfl, hb'⟩)
    go_ret
    exact ⟨ret_int (ixf_hit p x hlt HT.out HQ.out).symm, bel_trans hb hb'⟩
  ·have HE : Hid (x.any p = false) := by have := HT.out; rwa [List.take_of_length_le b_37] at this
   go_wp2
   go_ret
   exact ⟨ret_int (ixf_miss p x HE.out).symm, hb⟩
set_option maxHeartbeats 1000000 in
theorem C_ContainsFunc_str (w : World) (v : Value) (x : List (List UInt8)) (p : List UInt8 → Bool) (g : Nat) (lb : Array Value) (eg : ∀ args w, (callFunc g args).run Tryz.prog w = .ok (.enter g args) w)
  (h : (Ty.sl .str).rd w [v] x) (hp : ∀ (W : World) (s : List UInt8), s.length ≤ 9223372036854775807 → Below w.heap.size w W → Calls Tryz.prog g (#[vS s] ++ lb) W (RetB W (p s))) :
  Calls Tryz.prog 142 #[v, .func (.func g) #[] lb] w (RetB w (x.any p)) := by
 have hcall := C_IndexFunc_str w v x p g lb eg h hp
 go_enter Tryz.func142, Tryz.ntmps142
 go_wp2_with fail
 refine hcall.mono ?_
 rintro e w1 ⟨rfl, hb⟩
 go_wp2
 go_ret
 exact ⟨ret_bool (ixf_ge p x), hb⟩
set_option maxHeartbeats 1000000 in
theorem C_impl_ValidName (w : World) (cs : List Value) (x : List (List UInt8)) (h : (Ty.sl .str).rd w cs x) :
  Calls Tryz.prog 101 #[.agg cs.toArray] w (RetB w (validName x)) := by
 obtain ⟨A, c, rfl⟩ := Ty.rd_slv h
 by_cases hl : x.length ≤ 6
 ·have HL := Lib.hid hl
  go_enter Tryz.func101, Tryz.ntmps101
  go_wp2_with fail
  refine (C_ContainsFunc_str _ _ x (fun s => !validPart s) 143 #[] (enters_of Tryz.func143 b_35 rfl) (Ty.rd_below b_10 h) (fun W s hs _ => by rw [Array.append_empty]; refine (C_impl_ValidName1 W s hs).mono ?_; rintro e w' ⟨rfl, rfl⟩; exact ⟨rfl, Below.refl _ _⟩)).mono ?_
  rintro e w1 ⟨rfl, hb⟩
  have hw1 : Below w.heap.size w w1 := bel_trans b_10 hb
  go_wp2
  go_ret
  exact ⟨ret_bool (by unfold validName; have := HL.out; (rw [Bool.eq_iff_iff]; simp; try omega)), hw1⟩
 ·have HL := Lib.hid hl
  go_enter Tryz.func101, Tryz.ntmps101
  go_wp2
  go_ret
  exact ⟨ret_bool (by unfold validName; have := HL.out; (rw [Bool.eq_iff_iff]; simp; try omega)), b_10⟩
def RetSl2 (w : World) (t : Ty) (x : List t.D) (u : Value) (e : Ending) (w' : World) : Prop :=
 ∃ A c fp, e = .returned (.tuple #[.slice A x.length c, u]) ∧ (Ty.sl t).ow w' [.slice A x.length c] x fp ∧ Fr w w' fp ∧ Below w.heap.size w w'
def RetAgg2 (w : World) (t : Ty) (x : t.D) (u : Value) (e : Ending) (w' : World) : Prop :=
 ∃ cs fp, e = .returned (.tuple #[.agg cs.toArray, u]) ∧ t.ow w' cs x fp ∧ Fr w w' fp ∧ Below w.heap.size w w'
theorem rd_ow_nil (w : World) (e : Ty) : (Ty.sl e).ow w [.slice none 0 0] [] [] := ⟨none, 0, rfl, Nat.le_refl _, ⟨Nat.zero_le _, fun _ => rfl⟩, by simp, .inl ⟨rfl, rfl⟩⟩
end Go.Proofs.YtldgbnlcnlfmeaaGreat
