/- Slices of strings: their sizes, copies, comparisons. -/
import Derived.Test.YtpjnidfdkggpfaaDoorRows
import Derived.Test.YtpjnidfdkggpfaaDoorBase
namespace Go.Proofs.YtpjnidfdkggpfaaDoor
open Go.RowKit
set_option linter.unusedVariables false
set_option linter.unusedSimpArgs false

set_option maxHeartbeats 400000 in
theorem C_laws_szStringS (w : World) (v : Value) (xs : List (List UInt8)) (left : Int) (h : (Ty.sl .str).rd w [v] xs) (h0 : 0 ≤ left) (h1 : left ≤ 1048576) :
    Calls Tryd.prog 32 #[v, .int .i64 left] w (RetSz w left (Ty.bulk (.sl .str) xs)) := by
  obtain ⟨A, c, rfl, hc, hm, hn⟩ := Ty.rd_sl h
  unfold maxLen at hm
  go_enter Tryd.func32, Tryd.ntmps32
  go_wp2
  · go_ret
    exact ⟨-1, rfl, .inl rfl, Below.refl _ _⟩
  · go_loopw [1, 5] (fun l i wr => ∃ (k : Nat) (r : Int), k ≤ xs.length ∧ l = .int .i64 r ∧ i = .int .i64 k ∧ 0 ≤ r ∧ r + (xs.length + ((xs.take k).map List.length).sum : Nat) ≤ left ∧ Below w.heap.size w wr) (fun _ i _ => xs.length - (intOf i).toNat)
    case atStart => exact ⟨0, _, by omega, rfl, rfl, by omega, by simp, Below.refl _ _⟩
    case round =>
      obtain ⟨k, r, hk, rfl, rfl, hr0, hr, hb⟩ := hrel
      by_cases hlt : k < xs.length
      · obtain ⟨b, o, rfl, e1, e2⟩ := Ty.rd_str_at (Ty.rd_below hb h) hlt
        have hs := sum_take_succ List.length xs hlt
        have HS := Lib.hid hs; clear hs
        go_wp2
        · go_ret
          exact ⟨-1, rfl, .inl rfl, hb⟩
        · go_roundw
          case rel => exact ⟨k + 1, r - xs[k].length, by omega, rfl, by go_num, by omega, by rw [HS.out]; omega, hb⟩
          case measure => simp [intOf]; omega
      · go_wp2
        go_ret
        rw [sum_take_all _ _ (by omega)] at hr
        exact ⟨r, rfl, .inr ⟨hr0, hr⟩, hb⟩

theorem info_str : (Tryd.prog.info? 9).map (fun i => (i.zero, i.size, i.bytes)) = some (some (vS []), 1, 16) := by kernel_rfl

set_option maxHeartbeats 400000 in
theorem C_laws_toStringS (w : World) (v : Value) (xs : List (List UInt8)) (h : (Ty.sl .str).rd w [v] xs) (hbk : Ty.bulk (.sl .str) xs ≤ 1048576) :
    Calls Tryd.prog 33 #[v] w (RetSl w .str xs) := by
  obtain ⟨A, c, rfl, hc, hm, hn⟩ := Ty.rd_sl h
  unfold maxLen at hm
  have h1 := Ty.bulk_len hbk
  have hmk := run_make_eq 22 9 info_str Tryd.underlying22 xs.length (by omega) (by omega)
  go_enter Tryd.func33, Tryd.ntmps33
  go_wp2_with fail
  clear hmk
  go_loopw [4] (fun i wr => ∃ (k : Nat) (cur : Array Value), k ≤ xs.length ∧ i = .int .i64 k ∧ Blk wr w.heap.size 9 cur ∧ cur.size = xs.length ∧ (∀ j (hj : j < xs.length), j < k → cur[j]? = some (vS xs[j])) ∧ Below w.heap.size w wr) (fun i _ => xs.length - (intOf i).toNat)
  case atStart => exact ⟨0, _, by omega, rfl, Blk.new _ _ _, by simp [size_madeCells], fun j _ hj => absurd hj (by omega), (Below.refl _ _).alloc (Nat.le_refl _) _⟩
  case round =>
    obtain ⟨k, cur, hk, rfl, hblk, hsz, hj, hb⟩ := hrel
    by_cases hlt : k < xs.length
    · obtain ⟨b, o, rfl, e1, e2⟩ := Ty.rd_str_at (Ty.rd_below hb h) hlt
      obtain ⟨old, e3⟩ : ∃ old, wr.cell? ⟨w.heap.size, k, none⟩ = some old := ⟨_, (hblk.cell k).trans (Array.getElem?_eq_getElem (by omega))⟩
      have e4 : wr.frozen? ⟨w.heap.size, k, none⟩ = false := hblk.frozen k
      have HJ := Lib.hid hj; clear hj
      have HS := Lib.hid hsz; clear hsz
      go_wp2
      go_roundw
      case rel => exact ⟨k + 1, _, by omega, by go_num, hblk.set_ _ _, by simp [HS.out], fun j hj hjk => by
          (by_cases hjk' : j = k
           · subst hjk'; simp [HS.out, hlt]
           · rw [Array.getElem?_setIfInBounds_ne (by omega)]; exact HJ.out j hj (by omega)), hb.setCell (Nat.le_refl _) _⟩
      case measure => simp [intOf]; omega
    · go_wp2
      go_ret
      have hk' : k = xs.length := by omega
      subst hk'
      refine ⟨_, _, _, rfl, Ty.ow_mk (e := .str) (fun _ => []) hblk (Nat.le_refl _) (by unfold maxLen; omega) hn (fun i hi => ⟨[vS xs[i]], rfl, fun j h0 => ?_, ⟨rfl, ?_⟩, rfl⟩), ?_, hb⟩
      · have : j = 0 := by have : (Ty.str).sz = 1 := rfl
                           omega
        subst this
        simpa [Ty.sz] using hj i hi hi
      · exact (Ty.rd_str_at h hi).elim fun _ h => h.elim fun _ h => h.2.2
      · exact Fr.leaf (Nat.le_refl _) hblk.lt

set_option maxHeartbeats 400000 in
theorem C_laws_eqStringS (w : World) (v1 v2 : Value) (xs : List (List UInt8)) (h1 : (Ty.sl .str).rd w [v1] xs) (h2 : (Ty.sl .str).rd w [v2] xs) :
    Calls Tryd.prog 36 #[v1, v2] w (RetB w true) := by
  obtain ⟨A1, c1, rfl, hc1, hm1, hn1⟩ := Ty.rd_sl h1
  obtain ⟨A2, c2, rfl, hc2, hm2, hn2⟩ := Ty.rd_sl h2
  have hne : ((xs.length : Int) != xs.length) = false := by simp
  go_enter Tryd.func36, Tryd.ntmps36
  go_wp2
  go_loopw [5] (fun i wr => ∃ k : Nat, k ≤ xs.length ∧ i = .int .i64 k ∧ Below w.heap.size w wr) (fun i _ => xs.length - (intOf i).toNat)
  case atStart => exact ⟨0, by omega, rfl, Below.refl _ _⟩
  case round =>
    obtain ⟨k, hk, rfl, hb⟩ := hrel
    by_cases hlt : k < xs.length
    · obtain ⟨b1, o1, rfl, e1, _⟩ := Ty.rd_str_at (Ty.rd_below hb h1) hlt
      obtain ⟨b2, o2, rfl, e2, _⟩ := Ty.rd_str_at (Ty.rd_below hb h2) hlt
      have e3 : (!xs[k] == xs[k]) = false := by simp
      go_wp2
      go_quiet (fail)
      go_wp2
      go_roundw
      case rel => exact ⟨k + 1, by omega, by go_num, below_drewN hb _⟩
      case measure => simp [intOf]; omega
    · go_wp2
      go_ret
      exact ⟨rfl, hb⟩

theorem info_Byte : (Tryd.prog.info? 5).map (fun i => (i.zero, i.size, i.bytes)) = some (some (.int .u8 0), 1, 1) := by kernel_rfl
end Go.Proofs.YtpjnidfdkggpfaaDoor
