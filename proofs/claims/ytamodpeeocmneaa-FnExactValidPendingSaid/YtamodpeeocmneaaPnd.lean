/- Pending interests: the walks. -/
import Derived.Test.YtamodpeeocmneaaVal
import Derived.Test.YtamodpeeocmneaaDat
namespace Go.Proofs.Ytamodpeeocmneaa
open Go.RowKit
set_option linter.unusedVariables false
set_option linter.unusedSimpArgs false

def sameP (n : List (List UInt8)) (k : Ty.D tPendingInterest) : Bool := decide (k.1 = n)
theorem find_ixf2 {α : Type} (p : α → Bool) (x : List α) : (ixf p x = -1 ∧ x.find? p = none) ∨ ∃ (k : Nat) (h : k < x.length), ixf p x = k ∧ x.find? p = some x[k] := by
  unfold ixf
  cases hq : x.findIdx? p with
  | none => left; exact ⟨rfl, by rw [List.findIdx?_eq_none_iff] at hq; rw [List.find?_eq_none]; simpa using hq⟩
  | some k =>
    right
    rw [List.findIdx?_eq_some_iff_getElem] at hq
    obtain ⟨h, hp, hj⟩ := hq
    exact ⟨k, h, rfl, by rw [List.find?_eq_some_iff_getElem]; exact ⟨hp, k, h, rfl, fun j hj' => by simpa using hj j hj'⟩⟩
def f_HasPending (x : List (Ty.D tPendingInterest)) (n : List (List UInt8)) : Bool := x.any (sameP n)
def f_LastSentAt (x : List (Ty.D tPendingInterest)) (n : List (List UInt8)) : Int := match x.find? (sameP n) with | some k => k.2.2 | none => 0
set_option maxHeartbeats 1000000 in
theorem C_spec_l13Find (w : World) (v : Value) (x : List (Ty.D tPendingInterest)) (cs2 : List Value) (n : List (List UInt8)) (h1 : (Ty.sl tPendingInterest).rd w [v] x) (h2 : (Ty.sl .str).rd w cs2 n) :
    Calls Try.prog 104 #[v, .agg cs2.toArray] w (RetI w (ixf (sameP n) x)) := by
  obtain ⟨A1, c1, rfl, hc1, hm1, hn1⟩ := Ty.rd_sl h1
  obtain ⟨A2, c2, rfl⟩ := Ty.rd_slv h2
  go_enter Try.func104, Try.ntmps104
  go_wp2
  go_loopw [5] (fun i wr => ∃ k : Nat, k ≤ x.length ∧ i = .int .i64 k ∧ (x.take k).any (sameP n) = false ∧ Below (w.alloc (.cells #[.slice A2 n.length c2] 29)).heap.size (w.alloc (.cells #[.slice A2 n.length c2] 29)) wr) (fun i _ => x.length - (intOf i).toNat)
  case atStart => exact ⟨0, by omega, rfl, by first | rfl | simp, Below.refl _ _⟩
  case round =>
    obtain ⟨k, hk, rfl, ht, hb⟩ := hrel
    have hw : Below w.heap.size w wr := bel_trans (by repeat' (first | (with_reducible exact Below.refl _ _) | (with_reducible assumption) | (with_reducible refine bel_set ?_ (by (try dsimp only); omega) _) | (with_reducible refine bel_alloc ?_ _) | (with_reducible refine bel_drewN ?_ _) | (with_reducible refine bel_drew ?_))) hb
    obtain ⟨hc, hf⟩ := bcell hb
    have HT := Lib.hid ht
    clear ht
    by_cases hlt : k < x.length
    · have HS := Lib.hid (any_take_succ (sameP n) x hlt)
      obtain ⟨b, o, ds, rfl, hl, hcell, hrd⟩ := Ty.rd_at (Ty.rd_below hw h1) hlt
      obtain ⟨Aa0, ca0, Aa1, ca1, rfl, sag0, sag1, sag2⟩ := rd_PendingInterest hrd
      have e0 : wr.cell? ⟨b, o + k * 3, none⟩ = some (.slice Aa0 (List.length x[k].1) ca0) := by simpa [Ty.sz] using hcell 0 (by decide)
      clear hcell hl
      go_wp2_with fail
      set_option maxRecDepth 100000 in go_still_tail 6, (by kernel_rfl)
      go_wp2_with fail
      refine (C_spec_EqualNames _ _ _ _ _ (Ty.rd_below (by repeat' (first | (with_reducible exact Below.refl _ _) | (with_reducible assumption) | (with_reducible refine bel_set ?_ (by (try dsimp only); omega) _) | (with_reducible refine bel_alloc ?_ _) | (with_reducible refine bel_drewN ?_ _) | (with_reducible refine bel_drew ?_))) sag0) (Ty.rd_below (bel_drew hw) h2)).mono ?_
      rintro e w1 ⟨rfl, hb1⟩
      have hb2 := bel_trans (bel_drew hb) hb1
      have hw1 : Below w.heap.size w w1 := bel_trans (by repeat' (first | (with_reducible exact Below.refl _ _) | (with_reducible assumption) | (with_reducible refine bel_set ?_ (by (try dsimp only); omega) _) | (with_reducible refine bel_alloc ?_ _) | (with_reducible refine bel_drewN ?_ _) | (with_reducible refine bel_drew ?_))) hb2
      cases hq : decide (x[k].1 = n)
      · have HQ := Lib.hid hq
        go_wp2
        go_roundw
        case rel => exact ⟨k + 1, by omega, by go_num, by rw [HS.out, HT.out, show sameP n x[k] = false from HQ.out]; rfl, hb2⟩
        case measure => simp [intOf]; omega
      · have HQ := Lib.hid hq
        go_wp2
        go_ret
        exact ⟨ret_int (ixf_hit (sameP n) x hlt HT.out HQ.out).symm, hw1⟩
    · have HE : Hid (x.any (sameP n) = false) := by have := HT.out; rwa [List.take_of_length_le (by omega)] at this
      go_wp2
      go_ret
      exact ⟨ret_int (ixf_miss (sameP n) x HE.out).symm, hw⟩
set_option maxHeartbeats 1000000 in
theorem C_impl_pendingAt1 (W : World) (ds : List Value) (x : tPendingInterest.D) (n : List (List UInt8)) (A2 : Option Addr) (c2 b : Nat) (h1 : tPendingInterest.rd W ds x) (hcell : W.cell? ⟨b, 0, none⟩ = some (.slice A2 n.length c2)) (h2 : (Ty.sl .str).rd W [.slice A2 n.length c2] n) :
    Calls Try.prog 145 #[.agg ds.toArray, .pointer (some ⟨b, 0, none⟩)] W (RetB W (sameP n x)) := by
  obtain ⟨Aa0, ca0, Aa1, ca1, rfl, sag0, sag1, sag2⟩ := rd_PendingInterest h1
  have hlt : b < W.heap.size := World.block_lt_of_cell? W _ hcell
  go_enter Try.func145, Try.ntmps145
  go_wp2_with fail
  refine (C_impl_EqualNames _ _ _ _ _ (Ty.rd_below (by repeat' (first | (with_reducible exact Below.refl _ _) | (with_reducible assumption) | (with_reducible refine bel_set ?_ (by (try dsimp only); omega) _) | (with_reducible refine bel_alloc ?_ _) | (with_reducible refine bel_drewN ?_ _) | (with_reducible refine bel_drew ?_))) sag0) (Ty.rd_below (by repeat' (first | (with_reducible exact Below.refl _ _) | (with_reducible assumption) | (with_reducible refine bel_set ?_ (by (try dsimp only); omega) _) | (with_reducible refine bel_alloc ?_ _) | (with_reducible refine bel_drewN ?_ _) | (with_reducible refine bel_drew ?_))) h2)).mono ?_
  rintro e w1 ⟨rfl, hb1⟩
  have hw1 : Below W.heap.size W w1 := bel_trans (by repeat' (first | (with_reducible exact Below.refl _ _) | (with_reducible assumption) | (with_reducible refine bel_set ?_ (by (try dsimp only); omega) _) | (with_reducible refine bel_alloc ?_ _) | (with_reducible refine bel_drewN ?_ _) | (with_reducible refine bel_drew ?_))) hb1
  go_wp2
  go_ret
  exact ⟨rfl, hw1⟩
set_option maxHeartbeats 1000000 in
theorem C_IndexFunc_PI (w : World) (v : Value) (x : List (Ty.D tPendingInterest)) (p : Ty.D tPendingInterest → Bool) (g : Nat) (lb : Array Value) (eg : ∀ args w, (callFunc g args).run Try.prog w = .ok (.enter g args) w)
    (h : (Ty.sl tPendingInterest).rd w [v] x) (hp : ∀ (W : World) (ds : List Value) (d : tPendingInterest.D), tPendingInterest.rd W ds d → Below w.heap.size w W → Calls Try.prog g (#[.agg ds.toArray] ++ lb) W (RetB W (p d))) :
    Calls Try.prog 144 #[v, .func (.func g) #[] lb] w (RetI w (ixf p x)) := by
  obtain ⟨A, c, rfl, hc, hm, hn⟩ := Ty.rd_sl h
  have HP := Lib.hid hp
  clear hp
  go_enter Try.func144, Try.ntmps144
  go_wp2
  go_loopw [8] (fun i wr => ∃ k : Nat, k ≤ x.length ∧ i = .int .i64 k ∧ (x.take k).any p = false ∧ Below w.heap.size w wr) (fun i _ => x.length - (intOf i).toNat)
  case atStart => exact ⟨0, by omega, by first | rfl | simp, by first | rfl | simp, Below.refl _ _⟩
  case round =>
    obtain ⟨k, hk, rfl, ht, hb⟩ := hrel
    have HT := Lib.hid ht
    clear ht
    by_cases hlt : k < x.length
    · have HS := Lib.hid (any_take_succ p x hlt)
      obtain ⟨b, o, ds, rfl, hl, hcell, hrd⟩ := Ty.rd_at (Ty.rd_below hb h) hlt
      have hcall := HP.out wr ds x[k] hrd hb
      obtain ⟨Aa0, ca0, Aa1, ca1, rfl, sag0, sag1, sag2⟩ := rd_PendingInterest hrd
      have e0 : wr.cell? ⟨b, o + k * 3, none⟩ = some (.slice Aa0 (List.length x[k].1) ca0) := by simpa [Ty.sz] using hcell 0 (by decide)
      have e1 : wr.cell? ⟨b, o + k * 3 + 1, none⟩ = some (.slice Aa1 (List.length x[k].2.1) ca1) := by simpa [Ty.sz] using hcell 1 (by decide)
      have e2 : wr.cell? ⟨b, o + k * 3 + 2, none⟩ = some (.int .i64 x[k].2.2) := by simpa [Ty.sz] using hcell 2 (by decide)
      clear hcell hl
      cases hq : p x[k]
      · have HQ := Lib.hid hq
        rw [hq] at hcall
        go_wp2_with (go_at_fn g; refine hcall.mono ?_; rintro e w' ⟨rfl, hb'⟩)
        go_roundw
        case rel => exact ⟨k + 1, by omega, by go_num, by rw [HS.out, HT.out, HQ.out]; rfl, bel_trans hb hb'⟩
        case measure => simp [intOf]; omega
      · have HQ := Lib.hid hq
        rw [hq] at hcall
        go_wp2_with (go_at_fn g; refine hcall.mono ?_; rintro e w' ⟨rfl, hb'⟩)
        go_ret
        exact ⟨ret_int (ixf_hit p x hlt HT.out HQ.out).symm, bel_trans hb hb'⟩
    · have HE : Hid (x.any p = false) := by have := HT.out; rwa [List.take_of_length_le (by omega)] at this
      go_wp2
      go_ret
      exact ⟨ret_int (ixf_miss p x HE.out).symm, hb⟩
set_option maxHeartbeats 1000000 in
theorem C_impl_pendingAt (w : World) (v : Value) (x : List (Ty.D tPendingInterest)) (cs2 : List Value) (n : List (List UInt8)) (h1 : (Ty.sl tPendingInterest).rd w [v] x) (h2 : (Ty.sl .str).rd w cs2 n) :
    Calls Try.prog 106 #[v, .agg cs2.toArray] w (RetI w (ixf (sameP n) x)) := by
  obtain ⟨A2, c2, rfl⟩ := Ty.rd_slv h2
  have hmf : ∀ (fn : Fn) (first cap : Array Value) (w : World), (Instr.makeFunc fn first cap).run Try.prog w = .ok (.func fn first cap) w := fun _ _ _ _ => rfl
  go_enter Try.func106, Try.ntmps106
  go_wp2_with fail
  refine (C_IndexFunc_PI _ _ x (sameP n) 145 #[.pointer (some ⟨w.heap.size, 0, none⟩)] (enters_of Try.func145 (by kernel_rfl) rfl) (Ty.rd_below (by repeat' (first | (with_reducible exact Below.refl _ _) | (with_reducible assumption) | (with_reducible refine bel_set ?_ (by (try dsimp only); omega) _) | (with_reducible refine bel_alloc ?_ _) | (with_reducible refine bel_drewN ?_ _) | (with_reducible refine bel_drew ?_))) h1) (fun W ds d hd hW => ?_)).mono ?_
  · refine C_impl_pendingAt1 W ds d n A2 c2 w.heap.size hd ?_ (Ty.rd_below (bel_trans (by repeat' (first | (with_reducible exact Below.refl _ _) | (with_reducible assumption) | (with_reducible refine bel_set ?_ (by (try dsimp only); omega) _) | (with_reducible refine bel_alloc ?_ _) | (with_reducible refine bel_drewN ?_ _) | (with_reducible refine bel_drew ?_))) hW) h2)
    rw [hW.cell (by simp only [World.size_alloc]; omega)]
    exact cell_new w _ _ 0 rfl
  rintro e w1 ⟨rfl, hb1⟩
  have hw1 : Below w.heap.size w w1 := bel_trans (by repeat' (first | (with_reducible exact Below.refl _ _) | (with_reducible assumption) | (with_reducible refine bel_set ?_ (by (try dsimp only); omega) _) | (with_reducible refine bel_alloc ?_ _) | (with_reducible refine bel_drewN ?_ _) | (with_reducible refine bel_drew ?_))) hb1
  go_wp2
  go_ret
  exact ⟨rfl, hw1⟩
set_option maxHeartbeats 1000000 in
theorem C_spec_HasPending (w : World) (v : Value) (x : List (Ty.D tPendingInterest)) (cs2 : List Value) (n : List (List UInt8)) (h1 : (Ty.sl tPendingInterest).rd w [v] x) (h2 : (Ty.sl .str).rd w cs2 n) (s0 : Ty.bulk (.sl tPendingInterest) x ≤ 1048576) (s1 : Ty.bulk (.sl .str) n ≤ 1048576) :
    Calls Try.prog 52 #[v, .agg cs2.toArray] w (RetB w (f_HasPending x n)) := by
  obtain ⟨A2, c2, rfl⟩ := Ty.rd_slv h2
  go_enter Try.func52, Try.ntmps52
  go_wp2_with fail
  refine (C_spec_l13Find _ _ _ _ _ (Ty.rd_below (by repeat' (first | (with_reducible exact Below.refl _ _) | (with_reducible assumption) | (with_reducible refine bel_set ?_ (by (try dsimp only); omega) _) | (with_reducible refine bel_alloc ?_ _) | (with_reducible refine bel_drewN ?_ _) | (with_reducible refine bel_drew ?_))) h1) (Ty.rd_below (by repeat' (first | (with_reducible exact Below.refl _ _) | (with_reducible assumption) | (with_reducible refine bel_set ?_ (by (try dsimp only); omega) _) | (with_reducible refine bel_alloc ?_ _) | (with_reducible refine bel_drewN ?_ _) | (with_reducible refine bel_drew ?_))) h2)).mono ?_
  rintro e w1 ⟨rfl, hb1⟩
  have hw1 : Below w.heap.size w w1 := bel_trans (by repeat' (first | (with_reducible exact Below.refl _ _) | (with_reducible assumption) | (with_reducible refine bel_set ?_ (by (try dsimp only); omega) _) | (with_reducible refine bel_alloc ?_ _) | (with_reducible refine bel_drewN ?_ _) | (with_reducible refine bel_drew ?_))) hb1
  go_wp2
  go_ret
  exact ⟨ret_bool (ixf_ge (sameP n) x), hw1⟩
set_option maxHeartbeats 1000000 in
theorem C_spec_LastSentAt (w : World) (v : Value) (x : List (Ty.D tPendingInterest)) (cs2 : List Value) (n : List (List UInt8)) (h1 : (Ty.sl tPendingInterest).rd w [v] x) (h2 : (Ty.sl .str).rd w cs2 n) (s0 : Ty.bulk (.sl tPendingInterest) x ≤ 1048576) (s1 : Ty.bulk (.sl .str) n ≤ 1048576) :
    Calls Try.prog 58 #[v, .agg cs2.toArray] w (RetI w (f_LastSentAt x n)) := by
  obtain ⟨A1, c1, rfl, hc1, hm1, hn1⟩ := Ty.rd_sl h1
  obtain ⟨A2, c2, rfl⟩ := Ty.rd_slv h2
  go_enter Try.func58, Try.ntmps58
  go_wp2_with fail
  refine (C_spec_l13Find _ _ _ _ _ (Ty.rd_below (by repeat' (first | (with_reducible exact Below.refl _ _) | (with_reducible assumption) | (with_reducible refine bel_set ?_ (by (try dsimp only); omega) _) | (with_reducible refine bel_alloc ?_ _) | (with_reducible refine bel_drewN ?_ _) | (with_reducible refine bel_drew ?_))) h1) (Ty.rd_below (by repeat' (first | (with_reducible exact Below.refl _ _) | (with_reducible assumption) | (with_reducible refine bel_set ?_ (by (try dsimp only); omega) _) | (with_reducible refine bel_alloc ?_ _) | (with_reducible refine bel_drewN ?_ _) | (with_reducible refine bel_drew ?_))) h2)).mono ?_
  rintro e w1 ⟨rfl, hb1⟩
  have hw1 : Below w.heap.size w w1 := bel_trans (by repeat' (first | (with_reducible exact Below.refl _ _) | (with_reducible assumption) | (with_reducible refine bel_set ?_ (by (try dsimp only); omega) _) | (with_reducible refine bel_alloc ?_ _) | (with_reducible refine bel_drewN ?_ _) | (with_reducible refine bel_drew ?_))) hb1
  rcases find_ixf2 (sameP n) x with ⟨hi, hf⟩ | ⟨k, hk, hi, hf⟩
  · rw [hi]
    have HF := Lib.hid hf
    clear hi hf
    go_wp2
    go_ret
    exact ⟨ret_int (by unfold f_LastSentAt; rw [HF.out]), hw1⟩
  · rw [hi]
    have HF := Lib.hid hf
    clear hi hf
    obtain ⟨b, o, ds, rfl, hl, hcell, hrd⟩ := Ty.rd_at (Ty.rd_below hw1 h1) hk
    obtain ⟨Aa0, ca0, Aa1, ca1, rfl, sag0, sag1, sag2⟩ := rd_PendingInterest hrd
    have e1 : w1.cell? ⟨b, o + k * 3 + 2, none⟩ = some (.int .i64 x[k].2.2) := by simpa [Ty.sz] using hcell 2 (by decide)
    clear hcell hl
    go_wp2
    go_ret
    exact ⟨ret_int (by unfold f_LastSentAt; rw [HF.out]), hw1⟩
set_option maxHeartbeats 1000000 in
theorem C_impl_HasPending (w : World) (v : Value) (x : List (Ty.D tPendingInterest)) (cs2 : List Value) (n : List (List UInt8)) (h1 : (Ty.sl tPendingInterest).rd w [v] x) (h2 : (Ty.sl .str).rd w cs2 n) (s0 : Ty.bulk (.sl tPendingInterest) x ≤ 1048576) (s1 : Ty.bulk (.sl .str) n ≤ 1048576) :
    Calls Try.prog 54 #[v, .agg cs2.toArray] w (RetB w (f_HasPending x n)) := by
  obtain ⟨A2, c2, rfl⟩ := Ty.rd_slv h2
  go_enter Try.func54, Try.ntmps54
  go_wp2_with fail
  refine (C_impl_pendingAt _ _ _ _ _ (Ty.rd_below (by repeat' (first | (with_reducible exact Below.refl _ _) | (with_reducible assumption) | (with_reducible refine bel_set ?_ (by (try dsimp only); omega) _) | (with_reducible refine bel_alloc ?_ _) | (with_reducible refine bel_drewN ?_ _) | (with_reducible refine bel_drew ?_))) h1) (Ty.rd_below (by repeat' (first | (with_reducible exact Below.refl _ _) | (with_reducible assumption) | (with_reducible refine bel_set ?_ (by (try dsimp only); omega) _) | (with_reducible refine bel_alloc ?_ _) | (with_reducible refine bel_drewN ?_ _) | (with_reducible refine bel_drew ?_))) h2)).mono ?_
  rintro e w1 ⟨rfl, hb1⟩
  have hw1 : Below w.heap.size w w1 := bel_trans (by repeat' (first | (with_reducible exact Below.refl _ _) | (with_reducible assumption) | (with_reducible refine bel_set ?_ (by (try dsimp only); omega) _) | (with_reducible refine bel_alloc ?_ _) | (with_reducible refine bel_drewN ?_ _) | (with_reducible refine bel_drew ?_))) hb1
  go_wp2
  go_ret
  exact ⟨ret_bool (ixf_ge (sameP n) x), hw1⟩
set_option maxHeartbeats 1000000 in
theorem C_impl_LastSentAt (w : World) (v : Value) (x : List (Ty.D tPendingInterest)) (cs2 : List Value) (n : List (List UInt8)) (h1 : (Ty.sl tPendingInterest).rd w [v] x) (h2 : (Ty.sl .str).rd w cs2 n) (s0 : Ty.bulk (.sl tPendingInterest) x ≤ 1048576) (s1 : Ty.bulk (.sl .str) n ≤ 1048576) :
    Calls Try.prog 59 #[v, .agg cs2.toArray] w (RetI w (f_LastSentAt x n)) := by
  obtain ⟨A1, c1, rfl, hc1, hm1, hn1⟩ := Ty.rd_sl h1
  obtain ⟨A2, c2, rfl⟩ := Ty.rd_slv h2
  go_enter Try.func59, Try.ntmps59
  go_wp2_with fail
  refine (C_impl_pendingAt _ _ _ _ _ (Ty.rd_below (by repeat' (first | (with_reducible exact Below.refl _ _) | (with_reducible assumption) | (with_reducible refine bel_set ?_ (by (try dsimp only); omega) _) | (with_reducible refine bel_alloc ?_ _) | (with_reducible refine bel_drewN ?_ _) | (with_reducible refine bel_drew ?_))) h1) (Ty.rd_below (by repeat' (first | (with_reducible exact Below.refl _ _) | (with_reducible assumption) | (with_reducible refine bel_set ?_ (by (try dsimp only); omega) _) | (with_reducible refine bel_alloc ?_ _) | (with_reducible refine bel_drewN ?_ _) | (with_reducible refine bel_drew ?_))) h2)).mono ?_
  rintro e w1 ⟨rfl, hb1⟩
  have hw1 : Below w.heap.size w w1 := bel_trans (by repeat' (first | (with_reducible exact Below.refl _ _) | (with_reducible assumption) | (with_reducible refine bel_set ?_ (by (try dsimp only); omega) _) | (with_reducible refine bel_alloc ?_ _) | (with_reducible refine bel_drewN ?_ _) | (with_reducible refine bel_drew ?_))) hb1
  rcases find_ixf2 (sameP n) x with ⟨hi, hf⟩ | ⟨k, hk, hi, hf⟩
  · rw [hi]
    have HF := Lib.hid hf
    clear hi hf
    go_wp2
    go_ret
    exact ⟨ret_int (by unfold f_LastSentAt; rw [HF.out]), hw1⟩
  · rw [hi]
    have HF := Lib.hid hf
    clear hi hf
    obtain ⟨b, o, ds, rfl, hl, hcell, hrd⟩ := Ty.rd_at (Ty.rd_below hw1 h1) hk
    obtain ⟨Aa0, ca0, Aa1, ca1, rfl, sag0, sag1, sag2⟩ := rd_PendingInterest hrd
    have e1 : w1.cell? ⟨b, o + k * 3 + 2, none⟩ = some (.int .i64 x[k].2.2) := by simpa [Ty.sz] using hcell 2 (by decide)
    clear hcell hl
    go_wp2
    go_ret
    exact ⟨ret_int (by unfold f_LastSentAt; rw [HF.out]), hw1⟩
end Go.Proofs.Ytamodpeeocmneaa
