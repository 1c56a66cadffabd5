/- slices.Grow and slices.Concat at numbers. -/
import Derived.Test.YtpjnidfdkggpfaaGreatMac
import Derived.Lib.AppendZeros
namespace Go.Proofs.YtpjnidfdkggpfaaGreat
open Go.RowKit
set_option linter.unusedVariables false
set_option linter.unusedSimpArgs false

set_option maxHeartbeats 1000000 in
theorem C_slices_Grow_int (w : World) (n : Nat) (h0 : 0 < n) (hn : n ≤ 1099511627776) : Calls Tryz.prog 120 #[.slice none 0 0, .int .i64 n] w (RetRow flatI w 3 []) := by
  obtain ⟨i, hi, hzz⟩ := Option.map_eq_some_iff.1 infoI
  simp only [Prod.mk.injEq] at hzz
  obtain ⟨hz, hsz, hby⟩ := hzz
  have hap := Lib.run_append_nil_zeros (P := Tryz.prog) w 112 3 112 3 i (.int .i64 0) .i64 .i64 Tryz.underlying112 Tryz.underlying3 hi hz n h0 (by omega) (by omega) (by rw [hby]; omega)
  have hge := grownCap_ge w n 0 3
  have hle := grownCap_le_maxLen w n 0 3 (by unfold maxLen; omega)
  generalize grownCap w n 0 3 = cap at hap hge hle
  have hrow : Row flatI (w.drew.alloc (.cells (Builtin.zeroCells (Value.int .i64 0).cells n ++ Builtin.zeroCells (Value.int .i64 0).cells (cap - n)) 3)) w.heap.size 3 (.slice (some ⟨w.heap.size, 0, none⟩) 0 cap) [] :=
    ⟨⟨rfl, .inr ⟨w.heap.size, cap, _, rfl, Nat.le_refl _, heap_alloc_new w.drew _, Nat.zero_le _, hle, by rw [Array.size_append, size_zeroCells, size_zeroCells]; simp [Value.cells]; omega, rfl⟩⟩, fun d hd => absurd hd (by simp)⟩
  have HROW := Lib.hid hrow
  have HAP := Lib.hid hap
  clear hrow hap hi hz hsz hby
  have hnz : (0 : Int) < n := by omega
  have hcap : (cap : Int) ≤ 9223372036854775807 := by unfold maxLen at hle; omega
  go_enter Tryz.func120, Tryz.ntmps120
  set_option maxRecDepth 100000 in go_wp2_with (at_builtin; go_loud (refine Lib.wpList_append_run _ rfl _ _ _ _ rfl _ _ rfl rfl _ _ HAP.out ?_))
  have hbel : Below w.heap.size w (w.drew.alloc (.cells (Builtin.zeroCells (Value.int .i64 0).cells n ++ Builtin.zeroCells (Value.int .i64 0).cells (cap - n)) 3)) := bel_alloc (bel_drew (Below.refl _ _)) _
  go_wp2
  go_ret
  exact ⟨_, rfl, HROW.out, hbel⟩
theorem flatten_take {α : Type} (xs : List (List α)) {k : Nat} (h : k < xs.length) : (xs.take (k + 1)).flatten = (xs.take k).flatten ++ xs[k] := by
  rw [List.take_succ_eq_append_getElem h, List.flatten_append]; simp
theorem sum_take_le {α : Type} (f : α → Nat) (xs : List α) (k : Nat) : ((xs.take k).map f).sum ≤ (xs.map f).sum := by
  rw [← List.take_append_drop k xs, List.map_append, List.sum_append, List.take_append_drop]; omega
set_option maxHeartbeats 1000000 in
theorem C_slices_Concat_int (w : World) (v : Value) (xs : List (List Int)) (h : (Ty.sl (.sl .int)).rd w [v] xs) (h0 : 0 < (xs.map List.length).sum) (hx : (xs.map List.length).sum ≤ 1099511627776) :
    Calls Tryz.prog 108 #[v] w (RetRow flatI w 3 xs.flatten) := by
  obtain ⟨A, c, rfl, hc, hm, hn⟩ := Ty.rd_sl h
  go_enter Tryz.func108, Tryz.ntmps108
  go_wp2
  go_loopw [3, 11] (fun s i wr => ∃ k : Nat, k ≤ xs.length ∧ i = .int .i64 k ∧ s = .int .i64 (((xs.take k).map List.length).sum : Nat) ∧ wr = w) (fun _ i _ => xs.length - (intOf i).toNat)
  case atStart => exact ⟨0, by omega, rfl, by simp, rfl⟩
  case round =>
    obtain ⟨k, hk, rfl, rfl, hwr⟩ := hrel
    obtain rfl : w = wr := hwr.symm
    clear hwr
    by_cases hlt : k < xs.length
    · obtain ⟨b, o, ds, rfl, hl, hcell, hrd⟩ := Ty.rd_at h hlt
      obtain ⟨A1, c1, rfl⟩ := Ty.rd_slv hrd
      have e0 : w.cell? ⟨b, o + k, none⟩ = some (.slice A1 (List.length xs[k]) c1) := by simpa [Ty.sz] using hcell 0 (by decide)
      clear hcell hl
      have HS := Lib.hid (sum_take_succ List.length xs hlt)
      have hb1 := sum_take_le List.length xs (k + 1)
      rw [HS.out] at hb1
      generalize ((xs.take k).map List.length).sum = s at HS hb1 ⊢
      go_wp2
      go_roundw
      case rel => exact ⟨k + 1, by omega, by go_num, by rw [HS.out]; go_num, by first | rfl | trivial⟩
      case measure => simp [intOf]; omega
    · have hE : (xs.take k).map List.length = xs.map List.length := by rw [List.take_of_length_le (by omega)]
      rw [hE]
      clear hE
      generalize hT : (xs.map List.length).sum = T at h0 hx ⊢
      have HT := Lib.hid hT
      clear hT
      go_wp2_with fail
      refine (C_slices_Grow_int _ T h0 hx).mono ?_
      rintro e w1 ⟨v1, rfl, hr1, hb1⟩
      have HR1 := Lib.hid hr1
      clear hr1
      go_wp2
      go_loopw [6, 27] (fun l i wr2 => ∃ k : Nat, k ≤ xs.length ∧ i = .int .i64 k ∧ Row flatI wr2 w.heap.size 3 l (xs.take k).flatten ∧ Below w.heap.size w wr2) (fun _ i _ => xs.length - (intOf i).toNat)
      case atStart => exact ⟨0, by omega, rfl, HR1.out, hb1⟩
      case round =>
        obtain ⟨k2, hk2, rfl, hr, hb⟩ := hrel
        have HR := Lib.hid hr
        clear hr
        by_cases hlt2 : k2 < xs.length
        · obtain ⟨b, o, ds, rfl, hl, hcell, hrd⟩ := Ty.rd_at (Ty.rd_below hb h) hlt2
          obtain ⟨A1, c1, rfl⟩ := Ty.rd_slv hrd
          have e0 : wr.cell? ⟨b, o + k2, none⟩ = some (Value.slice A1 (List.length xs[k2]) c1) := by simpa [Ty.sz] using hcell 0 (by decide)
          clear hcell hl
          have HP := Lib.hid (flatten_take xs hlt2)
          have HS := Lib.hid (sum_take_succ List.length xs hlt2)
          have HB := Lib.hid (sum_take_le List.length xs (k2 + 1))
          have HL := Lib.hid (show ((xs.take k2).flatten).length = ((xs.take k2).map List.length).sum from by rw [List.length_flatten])
          set_option maxRecDepth 100000 in go_wp2_with (at_builtin; go_loud (refine wpList_append_row rfl _ _ 112 rfl flatI w.heap.size 3 infoI rfl Tryz.underlying112 _ _ (xs.take k2).flatten xs[k2] rfl rfl HR.out hrd ?_ ?_ ?_ ?_))
          case refine_1 => have h1 := HS.out; have h2 := HB.out; have h3 := HL.out; have h4 := HT.out; omega
          case refine_2 => have h1 := HS.out; have h2 := HB.out; have h3 := HL.out; have h4 := HT.out; unfold maxLen; omega
          case refine_3 => exact hb.size
          case refine_4 =>
            intro v' w' hr' hg'
            have hb' : Below w.heap.size w w' := bel_grown hb hb.size hg' (fun g hg => (HR.out.block g hg).1)
            have HR' := Lib.hid hr'
            clear hr'
            go_wp2
            go_roundw
            case rel => exact ⟨k2 + 1, by omega, by go_num, by rw [HP.out]; exact HR'.out, hb'⟩
            case measure => simp [intOf]; omega
        · have HE : Hid ((xs.take k2).flatten = xs.flatten) := by rw [List.take_of_length_le (by omega)]; exact rfl
          go_wp2
          go_ret
          exact ⟨_, rfl, by rw [← HE.out]; exact HR.out, hb⟩
theorem rd_lit3 (w : World) (te : TypeId) {e : Ty} (hz : e.sz = 1) (a b c : Value) (x y z : e.D) (h1 : e.rd w [a] x) (h2 : e.rd w [b] y) (h3 : e.rd w [c] z) :
    (Ty.sl e).rd (w.alloc (.cells #[a, b, c] te)) [.slice (some ⟨w.heap.size, 0, none⟩) 3 3] [x, y, z] := by
  have hb : Below w.heap.size w (w.alloc (.cells #[a, b, c] te)) := bel_alloc (Below.refl _ _) _
  refine ⟨_, _, rfl, Nat.le_refl _, ⟨by unfold maxLen; omega, fun h => by cases h⟩, by show 3 ≤ _; omega, fun _ => ⟨w.heap.size, 0, rfl, fun i hi => ?_⟩⟩
  have hi3 : i < 3 := hi
  have hc : ∀ j, (w.alloc (.cells #[a, b, c] te)).cell? ⟨w.heap.size, j, none⟩ = #[a, b, c][j]? := fun j => cell_new w te _ j rfl
  rcases i with _ | _ | _ | i
  · refine ⟨[a], by rw [hz]; rfl, fun j hj => ?_, Ty.rd_below hb h1⟩
    rw [hz] at hj
    obtain rfl : j = 0 := by omega
    rw [hc, hz]
    rfl
  · refine ⟨[b], by rw [hz]; rfl, fun j hj => ?_, Ty.rd_below hb h2⟩
    rw [hz] at hj
    obtain rfl : j = 0 := by omega
    rw [hc, hz]
    rfl
  · refine ⟨[c], by rw [hz]; rfl, fun j hj => ?_, Ty.rd_below hb h3⟩
    rw [hz] at hj
    obtain rfl : j = 0 := by omega
    rw [hc, hz]
    rfl
  · omega
set_option maxHeartbeats 1000000 in
theorem C_impl_ComputeMAC (w : World) (v : Value) (s : Int) (x : List Int) (hs : -9223372036854775808 ≤ s ∧ s ≤ 9223372036854775807) (h : (Ty.sl .int).rd w [v] x) (hx : x.length ≤ 1000000000000) :
    Calls Tryz.prog 92 #[.int .i64 s, v] w (RetI w (mac s x)) := by
  obtain ⟨A, c, rfl, hc, hm, hn⟩ := Ty.rd_sl h
  have H1 := Ty.rd_below (w' := (w.alloc (.cells #[.int .i64 s] 3)).alloc (.cells #[.int .i64 s] 3)) (bel_alloc (Below.refl _ _) _) ((Row.lit1 flatI w 3 s (okI hs.1 hs.2) (Nat.le_refl _)).rd (by simp only [World.size_alloc]; omega))
  have H2 := (Row.lit1 flatI (w.alloc (.cells #[.int .i64 s] 3)) 3 s (okI hs.1 hs.2) (Nat.le_refl _)).rd (by simp only [World.size_alloc]; omega)
  have H3 := rd_lit3 ((w.alloc (.cells #[.int .i64 s] 3)).alloc (.cells #[.int .i64 s] 3)) 112 (e := .sl .int) rfl _ _ _ [s] x [s] H1 (Ty.rd_below (bel_alloc (bel_alloc (Below.refl _ _) _) _) h) H2
  simp only [World.size_alloc] at H3
  have HR := Lib.hid H3
  clear H1 H2 H3
  go_enter Tryz.func92, Tryz.ntmps92
  go_wp2_with fail
  refine (C_slices_Concat_int _ _ [[s], x, [s]] HR.out (by simp only [List.map_cons, List.map_nil, List.sum_cons, List.sum_nil, List.length_cons, List.length_nil]; omega) (by simp only [List.map_cons, List.map_nil, List.sum_cons, List.sum_nil, List.length_cons, List.length_nil]; omega)).mono ?_
  rintro e w1 ⟨v1, rfl, hr1, hb1⟩
  have hw1 : Below w.heap.size w w1 := bel_trans (by repeat' (first | (with_reducible exact Below.refl _ _) | (with_reducible assumption) | (with_reducible refine bel_set ?_ (by (try dsimp only); omega) _) | (with_reducible refine bel_alloc ?_ _) | (with_reducible refine bel_drewN ?_ _) | (with_reducible refine bel_drew ?_))) hb1
  have HR1 := Lib.hid hr1
  clear hr1
  go_wp2_with fail
  refine (C_impl_Digest _ _ _ (HR1.out.rd hb1.size)).mono ?_
  rintro e w2 ⟨rfl, hb2⟩
  have hw2 : Below w.heap.size w w2 := bel_trans hw1 hb2
  go_wp2
  go_ret
  exact ⟨ret_int (by unfold mac; simp), hw2⟩
end Go.Proofs.YtpjnidfdkggpfaaGreat
