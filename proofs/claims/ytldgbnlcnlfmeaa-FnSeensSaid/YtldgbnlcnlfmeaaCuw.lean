/- The cursor's own functions: the walks. -/
import Derived.Test.YtldgbnlcnlfmeaaCur
import Derived.Test.YtldgbnlcnlfmeaaStr
import Derived.Laws.BitsLemmas
import Derived.BigQuiet
namespace Go.Proofs.Ytldgbnlcnlfmeaa
open Go.RowKit
set_option linter.unusedVariables false
set_option linter.unusedSimpArgs false

theorem i64_and255 (n : Int) : bits .and .i64 n 255 = n % 256 := by
  have h127 : (BitVec.ofInt 64 255).toNat = 2 ^ 8 - 1 := by decide
  have key : (BitVec.ofInt 64 n &&& BitVec.ofInt 64 255).toNat = (n % ((2 ^ 64 : Nat) : Int)).toNat % 2 ^ 8 := by
    rw [BitVec.toNat_and, BitVec.toNat_ofInt, h127, Nat.and_two_pow_sub_one_eq_mod]
  show IntKind.i64.wrap ((BitVec.ofInt 64 n &&& BitVec.ofInt 64 255).toNat : Nat) = n % 256
  rw [key, IntKind.wrap_i64]
  omega
abbrev CurT (w : World) (B : Nat) : Prop := Cur 154 w B
abbrev RetDT (B : Nat) (w : World) (Q : Ending → World → Prop) (e : Ending) (w' : World) : Prop := RetDr 154 B w Q e w'
abbrev pB (B : Nat) : Value := .pointer (some ⟨B, 0, none⟩)
set_option maxHeartbeats 1000000 in
theorem C_spec_l1New (w : World) (v : Value) (b : List UInt8) (h : (Ty.sl .byte).rd w [v] b) :
    Calls Try.prog 66 #[v] w (fun e w' => e = .returned (pB w.heap.size) ∧ Below w.heap.size w w' ∧ CurT w' w.heap.size) := by
  obtain ⟨A, c, rfl, hc, hm, hn⟩ := Ty.rd_sl h
  go_enter Try.func66, Try.ntmps66
  go_wp2
  go_loopw [3, 4] (fun hh i wr => ∃ (k : Nat) (x : Int), k ≤ b.length ∧ i = .int .i64 k ∧ hh = .int .i64 x ∧ wr = w) (fun _ i _ => b.length - (intOf i).toNat)
  case atStart => exact ⟨0, _, by omega, by first | rfl | simp, rfl, rfl⟩
  case round =>
    obtain ⟨k, x, hk, rfl, rfl, hw⟩ := hrel
    obtain rfl : w = wr := hw.symm
    by_cases hlt : k < b.length
    · obtain ⟨bb, o, ds, rfl, hl, hcell, hrd⟩ := Ty.rd_at h hlt
      have hrd : ds = [.int .u8 (b[k].toNat : Int)] := hrd
      subst hrd
      have e0 : w.cell? ⟨bb, o + k, none⟩ = some (.int .u8 (b[k].toNat : Int)) := by simpa [Ty.sz] using hcell 0 (by decide)
      clear hcell hl
      by_cases h4 : (k : Int) < 4000
      · go_wp2
        go_roundw
        case rel => exact ⟨k + 1, _, by omega, by go_num, rfl, by first | rfl | trivial⟩
        case measure => simp [intOf]; omega
      · go_wp2
        go_ret
        exact ⟨rfl, (by repeat' (first | (with_reducible exact Below.refl _ _) | (with_reducible assumption) | (with_reducible refine bel_set ?_ (by (try dsimp only); omega) _) | (with_reducible refine bel_alloc ?_ _) | (with_reducible refine bel_drewN ?_ _) | (with_reducible refine bel_drew ?_))), w, _, _, _, _, b, Nat.le_refl _, (by repeat' (first | (with_reducible exact Below.refl _ _) | (with_reducible assumption) | (with_reducible refine bel_set ?_ (by (try dsimp only); omega) _) | (with_reducible refine bel_alloc ?_ _) | (with_reducible refine bel_drewN ?_ _) | (with_reducible refine bel_drew ?_))), h, Blk.new w _ _, ⟨by omega, by omega⟩⟩
    · go_wp2
      go_ret
      exact ⟨rfl, (by repeat' (first | (with_reducible exact Below.refl _ _) | (with_reducible assumption) | (with_reducible refine bel_set ?_ (by (try dsimp only); omega) _) | (with_reducible refine bel_alloc ?_ _) | (with_reducible refine bel_drewN ?_ _) | (with_reducible refine bel_drew ?_))), w, _, _, _, _, b, Nat.le_refl _, (by repeat' (first | (with_reducible exact Below.refl _ _) | (with_reducible assumption) | (with_reducible refine bel_set ?_ (by (try dsimp only); omega) _) | (with_reducible refine bel_alloc ?_ _) | (with_reducible refine bel_drewN ?_ _) | (with_reducible refine bel_drew ?_))), h, Blk.new w _ _, ⟨by omega, by omega⟩⟩
set_option maxHeartbeats 2000000 in
theorem C_spec_l1Byte (w : World) (B : Nat) (hc : CurT w B) :
    Calls Try.prog 141 #[pB B] w (RetDT B w (DrI 0 255)) := by
  have hB := hc.lt
  obtain ⟨w0, A, c, i, hh, b, hb0, hb1, hrd, hk, hi0, hi1⟩ := hc
  obtain ⟨_, _, _, _, _, hbn⟩ := Ty.rd_sl hrd
  obtain ⟨k, rfl⟩ : ∃ k : Nat, i = k := ⟨i.toNat, by omega⟩
  have k0 : w.cell? ⟨B, 0, none⟩ = some (.slice A b.length c) := hk.cell 0
  have k1 : w.cell? ⟨B, 1, none⟩ = some (.int .i64 k) := hk.cell 1
  have k2 : w.cell? ⟨B, 2, none⟩ = some (.int .i64 hh) := hk.cell 2
  have f0 : w.frozen? ⟨B, 0, none⟩ = false := hk.frozen 0
  have f1 : w.frozen? ⟨B, 1, none⟩ = false := hk.frozen 1
  have f2 : w.frozen? ⟨B, 2, none⟩ = false := hk.frozen 2
  by_cases hlt : k < b.length
  · obtain ⟨bb, o, ds, rfl, hl, hcell, hrd1⟩ := Ty.rd_at hrd hlt
    have hrd1 : ds = [.int .u8 (b[k].toNat : Int)] := hrd1
    subst hrd1
    have e0 : w0.cell? ⟨bb, o + k, none⟩ = some (.int .u8 (b[k].toNat : Int)) := by simpa [Ty.sz] using hcell 0 (by decide)
    have hbb : bb < w0.heap.size := World.block_lt_of_cell? _ _ e0
    have e1 : w.cell? ⟨bb, o + k, none⟩ = some (.int .u8 (b[k].toNat : Int)) := (hb1.cell (p := ⟨bb, o + k, none⟩) hbb).trans e0
    have hne : bb ≠ B := by omega
    clear hcell hl
    go_enter Try.func141, Try.ntmps141
    go_wp2
    go_quiet (fail)
    go_wp2
    go_quiet (fail)
    go_wp2
    go_quiet (fail)
    go_wp2
    go_ret
    refine ⟨(by repeat' (first | (with_reducible exact Dr.refl _ _) | (with_reducible assumption) | (with_reducible refine Dr.set ?_ (by (try dsimp only); omega) _) | (with_reducible refine Dr.alloc ?_ _) | (with_reducible refine Dr.drewN ?_ _) | (with_reducible refine Dr.drew ?_) | (with_reducible refine Dr.trans ?_ (by assumption)))), ?_, _, rfl, by rw [i64_and255]; omega, by rw [i64_and255]; omega⟩
    refine ⟨w0, some ⟨bb, o, none⟩, c, ((k + 1 : Nat) : Int), wrap64 (wrap64 (hh * 6364136223846793005) + 1442695040888963407), b, hb0, (by repeat' (first | (with_reducible assumption) | (with_reducible refine Below.setCell ?_ (by dsimp only; omega) _) | (with_reducible refine bel_drewN ?_ _) | (with_reducible refine bel_drew ?_))), hrd, ?_, ⟨by omega, by omega⟩⟩
    exact (hk.set_ 2 (.int .i64 (wrap64 (wrap64 (hh * 6364136223846793005) + 1442695040888963407)))).set_ 1 (.int .i64 ((k + 1 : Nat) : Int))
  · go_enter Try.func141, Try.ntmps141
    go_wp2
    go_quiet (fail)
    go_wp2
    go_quiet (fail)
    go_wp2
    go_ret
    refine ⟨(by repeat' (first | (with_reducible exact Dr.refl _ _) | (with_reducible assumption) | (with_reducible refine Dr.set ?_ (by (try dsimp only); omega) _) | (with_reducible refine Dr.alloc ?_ _) | (with_reducible refine Dr.drewN ?_ _) | (with_reducible refine Dr.drew ?_) | (with_reducible refine Dr.trans ?_ (by assumption)))), ?_, _, rfl, by rw [i64_and255]; omega, by rw [i64_and255]; omega⟩
    refine ⟨w0, A, c, (k : Int), wrap64 (wrap64 (hh * 6364136223846793005) + 1442695040888963407), b, hb0, (by repeat' (first | (with_reducible assumption) | (with_reducible refine Below.setCell ?_ (by dsimp only; omega) _) | (with_reducible refine bel_drewN ?_ _) | (with_reducible refine bel_drew ?_))), hrd, ?_, ⟨by omega, by omega⟩⟩
    exact hk.set_ 2 (.int .i64 (wrap64 (wrap64 (hh * 6364136223846793005) + 1442695040888963407)))
theorem rem_bd (x n : Int) (h : 1 ≤ n) (hx : 0 ≤ x) : 0 ≤ x % n ∧ x % n ≤ n - 1 := by
  exact ⟨Int.emod_nonneg _ (by omega), by have := Int.emod_lt_of_pos x (show (0 : Int) < n by omega); omega⟩
set_option maxHeartbeats 1000000 in
theorem C_spec_l1Below (w : World) (B : Nat) (n : Int) (hc : CurT w B) (h1 : 1 ≤ n) (h2 : n ≤ 1000000000) :
    Calls Try.prog 69 #[pB B, .int .i64 n] w (RetDT B w (DrI 0 (n - 1))) := by
  have q0 : decide (n ≤ 0) = false := by simp; omega
  have qn : (n == 0) = false := by rw [beq_eq_false_iff_ne]; omega
  by_cases hle : n ≤ 256
  · go_enter Try.func69, Try.ntmps69
    go_wp2_with fail
    refine (C_spec_l1Byte _ B hc).mono ?_
    rintro e w1 ⟨hd1, hc1, x, rfl, hx0, hx1⟩
    have hr := rem_bd x n h1 hx0
    go_wp2
    go_ret
    exact ⟨hd1, hc1, _, rfl, hr.1, hr.2⟩
  · go_enter Try.func69, Try.ntmps69
    go_wp2_with fail
    refine (C_spec_l1Byte _ B hc).mono ?_
    rintro e w1 ⟨hd1, hc1, x, rfl, hx0, hx1⟩
    go_wp2_with fail
    refine (C_spec_l1Byte _ B hc1).mono ?_
    rintro e w2 ⟨hd2, hc2, y, rfl, hy0, hy1⟩
    go_wp2_with fail
    refine (C_spec_l1Byte _ B hc2).mono ?_
    rintro e w3 ⟨hd3, hc3, z, rfl, hz0, hz1⟩
    have hr := rem_bd (x * 65536 + y * 256 + z) n h1 (by omega)
    go_wp2
    go_ret
    exact ⟨(hd1.trans hd2).trans hd3, hc3, _, rfl, hr.1, hr.2⟩
set_option maxHeartbeats 1000000 in
theorem C_spec_l1Once (w : World) (B : Nat) (n : Int) (hc : CurT w B) (h1 : 1 ≤ n) (h2 : n ≤ 1000000000) :
    Calls Try.prog 101 #[pB B, .int .i64 n] w (RetDT B w (fun e _ => ∃ b : Bool, e = .returned (.bool b))) := by
  go_enter Try.func101, Try.ntmps101
  go_wp2_with fail
  refine (C_spec_l1Below _ B n hc h1 h2).mono ?_
  rintro e w1 ⟨hd1, hc1, x, rfl, hx0, hx1⟩
  go_wp2
  go_ret
  exact ⟨hd1, hc1, _, rfl⟩
set_option maxHeartbeats 1000000 in
theorem C_spec_l1Str (w : World) (B : Nat) (v : Value) (l : List (List UInt8)) (hc : CurT w B) (h : (Ty.sl .str).rd (hide B w) [v] l) (h1 : 1 ≤ l.length) (h2 : l.length ≤ 256) :
    Calls Try.prog 140 #[pB B, v] w (RetDT B w (fun e _ => ∃ s ∈ l, e = .returned (vS s))) := by
  obtain ⟨A, c, rfl, hcl, hcm, hn⟩ := Ty.rd_sl h
  go_enter Try.func140, Try.ntmps140
  go_wp2_with fail
  refine (C_spec_l1Below _ B l.length hc (by omega) (by omega)).mono ?_
  rintro e w1 ⟨hd1, hc1, x, rfl, hx0, hx1⟩
  obtain ⟨k, rfl⟩ : ∃ k : Nat, x = k := ⟨x.toNat, by omega⟩
  have hk : k < l.length := by omega
  obtain ⟨b, o, ds, rfl, hl, hcell, hrd⟩ := Ty.rd_at (rd_hide (Dr.rd hd1 h)) hk
  obtain ⟨rfl, hsl⟩ := hrd
  have e0 : w1.cell? ⟨b, o + k, none⟩ = some (vS l[k]) := by simpa [Ty.sz] using hcell 0 (by decide)
  clear hcell hl
  go_wp2
  go_ret
  exact ⟨hd1, hc1, _, List.getElem_mem hk, rfl⟩
set_option maxHeartbeats 1000000 in
theorem C_spec_l1Int (w : World) (B : Nat) (v : Value) (l : List Int) (hc : CurT w B) (h : (Ty.sl .int).rd (hide B w) [v] l) (h1 : 1 ≤ l.length) (h2 : l.length ≤ 256) :
    Calls Try.prog 103 #[pB B, v] w (RetDT B w (fun e _ => ∃ s ∈ l, e = .returned (.int .i64 s))) := by
  obtain ⟨A, c, rfl, hcl, hcm, hn⟩ := Ty.rd_sl h
  go_enter Try.func103, Try.ntmps103
  go_wp2_with fail
  refine (C_spec_l1Below _ B l.length hc (by omega) (by omega)).mono ?_
  rintro e w1 ⟨hd1, hc1, x, rfl, hx0, hx1⟩
  obtain ⟨k, rfl⟩ : ∃ k : Nat, x = k := ⟨x.toNat, by omega⟩
  have hk : k < l.length := by omega
  obtain ⟨b, o, ds, rfl, hl, hcell, hrd⟩ := Ty.rd_at (rd_hide (Dr.rd hd1 h)) hk
  obtain ⟨rfl, hsl⟩ := hrd
  have e0 : w1.cell? ⟨b, o + k, none⟩ = some (.int .i64 l[k]) := by simpa [Ty.sz] using hcell 0 (by decide)
  clear hcell hl
  go_wp2
  go_ret
  exact ⟨hd1, hc1, _, List.getElem_mem hk, rfl⟩
end Go.Proofs.Ytldgbnlcnlfmeaa
