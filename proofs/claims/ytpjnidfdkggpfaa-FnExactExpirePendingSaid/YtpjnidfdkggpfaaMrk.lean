/- The helper functions that write marks and ask for them, for each type. Printed by a program. -/
import Derived.Test.YtpjnidfdkggpfaaHlp
import Derived.Test.YtpjnidfdkggpfaaMkl
namespace Go.Proofs.Ytpjnidfdkggpfaa
open Go.RowKit
set_option linter.unusedVariables false
set_option linter.unusedSimpArgs false

theorem rdInt_of {V D : Int} (h : V = D) (h1 : -9223372036854775808 ≤ V) (h2 : V ≤ 9223372036854775807) : rdInt [.int .i64 V] D := by subst h; exact ⟨rfl, h1, h2⟩

theorem owl_Name {w : World} {cs : List Value} {x : Ty.D (.sl .str)} {fp : List Nat} (h : Ty.ow w (.sl .str) cs x fp) : ∃ (A0 : Option Addr) (c0 : Nat) (f0 : List Nat), cs = [.slice A0 (List.length x) c0] ∧ fp = f0 ∧ (Ty.ow w (.sl .str) [.slice A0 (List.length x) c0] x f0) := by
  obtain ⟨A0, c0, rfl⟩ := Ty.ow_slv h
  exact ⟨A0, c0, fp, rfl, rfl, h⟩

theorem owl_Pattern {w : World} {cs : List Value} {x : Ty.D (.sl .str)} {fp : List Nat} (h : Ty.ow w (.sl .str) cs x fp) : ∃ (A0 : Option Addr) (c0 : Nat) (f0 : List Nat), cs = [.slice A0 (List.length x) c0] ∧ fp = f0 ∧ (Ty.ow w (.sl .str) [.slice A0 (List.length x) c0] x f0) := by
  obtain ⟨A0, c0, rfl⟩ := Ty.ow_slv h
  exact ⟨A0, c0, fp, rfl, rfl, h⟩

theorem owl_Interest {w : World} {cs : List Value} {x : Ty.D tInterest} {fp : List Nat} (h : Ty.ow w tInterest cs x fp) : ∃ (A0 : Option Addr) (c0 : Nat) (f0 : List Nat), cs = [.slice A0 (List.length x.1) c0, .int .i64 x.2.1, .int .i64 x.2.2.1, .int .i64 x.2.2.2] ∧ fp = (f0 ++ ([] ++ ([] ++ []))) ∧ (Ty.ow w (.sl .str) [.slice A0 (List.length x.1) c0] x.1 f0) ∧ (-9223372036854775808 ≤ x.2.1 ∧ x.2.1 ≤ 9223372036854775807) ∧ (-9223372036854775808 ≤ x.2.2.1 ∧ x.2.2.1 ≤ 9223372036854775807) ∧ (-9223372036854775808 ≤ x.2.2.2 ∧ x.2.2.2 ≤ 9223372036854775807) := by
  obtain ⟨k0, r0, f0, t0, rfl, rfl, g0, q0⟩ := h
  obtain ⟨k1, r1, f1, t1, rfl, rfl, g1, q1⟩ := q0
  obtain ⟨k2, r2, f2, t2, rfl, rfl, g2, q2⟩ := q1
  have g3 := q2
  obtain ⟨A0, c0, rfl⟩ := Ty.ow_slv g0
  obtain ⟨⟨rfl, b1⟩, rfl⟩ := g1
  obtain ⟨⟨rfl, b2⟩, rfl⟩ := g2
  obtain ⟨⟨rfl, b3⟩, rfl⟩ := g3
  exact ⟨A0, c0, f0, rfl, rfl, g0, b1, b2, b3⟩

theorem owl_Data {w : World} {cs : List Value} {x : Ty.D tData} {fp : List Nat} (h : Ty.ow w tData cs x fp) : ∃ (A0 : Option Addr) (c0 : Nat) (A1 : Option Addr) (c1 : Nat) (A2 : Option Addr) (c2 : Nat) (f0 : List Nat) (f1 : List Nat) (f2 : List Nat), cs = [.slice A0 (List.length x.1) c0, .slice A1 (List.length x.2.1) c1, .slice A2 (List.length x.2.2.1) c2, .int .i64 x.2.2.2.1, .int .i64 x.2.2.2.2] ∧ fp = (f0 ++ (f1 ++ (f2 ++ ([] ++ [])))) ∧ (Ty.ow w (.sl .str) [.slice A0 (List.length x.1) c0] x.1 f0) ∧ (Ty.ow w (.sl .byte) [.slice A1 (List.length x.2.1) c1] x.2.1 f1) ∧ (Ty.ow w (.sl .str) [.slice A2 (List.length x.2.2.1) c2] x.2.2.1 f2) ∧ (-9223372036854775808 ≤ x.2.2.2.1 ∧ x.2.2.2.1 ≤ 9223372036854775807) ∧ (-9223372036854775808 ≤ x.2.2.2.2 ∧ x.2.2.2.2 ≤ 9223372036854775807) := by
  obtain ⟨k0, r0, f0, t0, rfl, rfl, g0, q0⟩ := h
  obtain ⟨k1, r1, f1, t1, rfl, rfl, g1, q1⟩ := q0
  obtain ⟨k2, r2, f2, t2, rfl, rfl, g2, q2⟩ := q1
  obtain ⟨k3, r3, f3, t3, rfl, rfl, g3, q3⟩ := q2
  have g4 := q3
  obtain ⟨A0, c0, rfl⟩ := Ty.ow_slv g0
  obtain ⟨A1, c1, rfl⟩ := Ty.ow_slv g1
  obtain ⟨A2, c2, rfl⟩ := Ty.ow_slv g2
  obtain ⟨⟨rfl, b3⟩, rfl⟩ := g3
  obtain ⟨⟨rfl, b4⟩, rfl⟩ := g4
  exact ⟨A0, c0, A1, c1, A2, c2, f0, f1, f2, rfl, rfl, g0, g1, g2, b3, b4⟩

theorem owl_Key {w : World} {cs : List Value} {x : Ty.D tKey} {fp : List Nat} (h : Ty.ow w tKey cs x fp) : ∃ (A0 : Option Addr) (c0 : Nat) (f0 : List Nat), cs = [.slice A0 (List.length x.1) c0, .int .i64 x.2] ∧ fp = (f0 ++ []) ∧ (Ty.ow w (.sl .str) [.slice A0 (List.length x.1) c0] x.1 f0) ∧ (-9223372036854775808 ≤ x.2 ∧ x.2 ≤ 9223372036854775807) := by
  obtain ⟨k0, r0, f0, t0, rfl, rfl, g0, q0⟩ := h
  have g1 := q0
  obtain ⟨A0, c0, rfl⟩ := Ty.ow_slv g0
  obtain ⟨⟨rfl, b1⟩, rfl⟩ := g1
  exact ⟨A0, c0, f0, rfl, rfl, g0, b1⟩

theorem owl_Rule {w : World} {cs : List Value} {x : Ty.D tRule} {fp : List Nat} (h : Ty.ow w tRule cs x fp) : ∃ (A0 : Option Addr) (c0 : Nat) (A1 : Option Addr) (c1 : Nat) (f0 : List Nat) (f1 : List Nat), cs = [.slice A0 (List.length x.1) c0, .slice A1 (List.length x.2) c1] ∧ fp = (f0 ++ f1) ∧ (Ty.ow w (.sl .str) [.slice A0 (List.length x.1) c0] x.1 f0) ∧ (Ty.ow w (.sl .str) [.slice A1 (List.length x.2) c1] x.2 f1) := by
  obtain ⟨k0, r0, f0, t0, rfl, rfl, g0, q0⟩ := h
  have g1 := q0
  obtain ⟨A0, c0, rfl⟩ := Ty.ow_slv g0
  obtain ⟨A1, c1, rfl⟩ := Ty.ow_slv g1
  exact ⟨A0, c0, A1, c1, f0, t0, rfl, rfl, g0, g1⟩

theorem owl_Requester {w : World} {cs : List Value} {x : Ty.D tRequester} {fp : List Nat} (h : Ty.ow w tRequester cs x fp) : cs = [.int .i64 x.1, .int .i64 x.2.1, .int .i64 x.2.2] ∧ fp = ([] ++ ([] ++ [])) ∧ (-9223372036854775808 ≤ x.1 ∧ x.1 ≤ 9223372036854775807) ∧ (-9223372036854775808 ≤ x.2.1 ∧ x.2.1 ≤ 9223372036854775807) ∧ (-9223372036854775808 ≤ x.2.2 ∧ x.2.2 ≤ 9223372036854775807) := by
  obtain ⟨k0, r0, f0, t0, rfl, rfl, g0, q0⟩ := h
  obtain ⟨k1, r1, f1, t1, rfl, rfl, g1, q1⟩ := q0
  have g2 := q1
  obtain ⟨⟨rfl, b0⟩, rfl⟩ := g0
  obtain ⟨⟨rfl, b1⟩, rfl⟩ := g1
  obtain ⟨⟨rfl, b2⟩, rfl⟩ := g2
  exact ⟨rfl, rfl, b0, b1, b2⟩

set_option maxRecDepth 100000 in
set_option maxHeartbeats 2000000 in
theorem C_laws_markRequesterS (w : World) (v : Value) (x : List (Ty.D tRequester)) (fp : List Nat) (k : Int) (h : (Ty.sl tRequester).ow w [v] x fp) (hn : fp.Nodup) (h0 : 0 ≤ k) (h1 : k + (Ty.cnt (.sl tRequester) x : Nat) ≤ 4611686018427387904) :
    Calls Try.prog 31 #[v, .int .i64 k] w (RetMk w (.sl tRequester) [v] (Ty.mk (.sl tRequester) x k) fp (k + (Ty.cnt (.sl tRequester) x : Nat))) := by
  obtain ⟨A, c, rfl, hc, hm, hl⟩ := Ty.rd_sl (Ty.ow_rd h)
  have hcnt : Ty.cnt (.sl tRequester) x = (List.map (fun d => Ty.cnt tRequester d) x).sum := rfl
  unfold maxLen at hm
  go_enter Try.func31, Try.ntmps31
  go_wp2
  go_loopw [1, 5] (fun kv i wr => ∃ (j : Nat) (kk : Int), j ≤ x.length ∧ kv = .int .i64 kk ∧ Hid (kk = k + (kAt (fun d => Ty.cnt tRequester d) x j : Nat)) ∧ i = .int .i64 j ∧ MkInv tRequester A c x fp k w j wr) (fun _ i _ => x.length - (intOf i).toNat)
  case atStart => exact ⟨0, k, by omega, rfl, (by simp [kAt_zero] : k = k + ((kAt (fun d => Ty.cnt tRequester d) x 0 : Nat) : Int)), rfl, MkInv.zero h⟩
  case round =>
    obtain ⟨j, kk, hj, rfl, hkk, rfl, hinv⟩ := hrel
    by_cases hlt : j < x.length
    · obtain ⟨b, o, fj, ds, rfl, q1, q2, q3, q4, q5, q6, hstep⟩ := hinv.el hn hlt
      obtain ⟨rfl, rfl, b0, b1, b2⟩ := owl_Requester q1
      have hsucc := Lib.hid (kAt_succ (fun d => Ty.cnt tRequester d) x hlt)
      have hkk0 : 0 ≤ kk := by have := hkk.out; omega
      have hkk1 : kk + (((1 + (1 + 1)) : Nat) : Int) ≤ 4611686018427387904 := by
        have e1 := hkk.out
        have e2 := hsucc.out
        have e3 := kAt_le (fun d => Ty.cnt tRequester d) x (j + 1)
        rw [hcnt] at h1
        have e4 : ((1 + (1 + 1))) = Ty.cnt tRequester x[j] := rfl
        omega
      have c0_0 : wr.cell? ⟨b, o + j * 3, none⟩ = some (.int .i64 x[j].1) := by simpa [Ty.sz] using (q6 0 (by decide)).1
      have z0_0 : wr.frozen? ⟨b, o + j * 3, none⟩ = false := by simpa [Ty.sz] using (q6 0 (by decide)).2
      have c0_1 : wr.cell? ⟨b, o + j * 3 + 1, none⟩ = some (.int .i64 x[j].2.1) := by simpa [Ty.sz] using (q6 1 (by decide)).1
      have z0_1 : wr.frozen? ⟨b, o + j * 3 + 1, none⟩ = false := by simpa [Ty.sz] using (q6 1 (by decide)).2
      have c0_2 : wr.cell? ⟨b, o + j * 3 + 2, none⟩ = some (.int .i64 x[j].2.2) := by simpa [Ty.sz] using (q6 2 (by decide)).1
      have z0_2 : wr.frozen? ⟨b, o + j * 3 + 2, none⟩ = false := by simpa [Ty.sz] using (q6 2 (by decide)).2
      have HQ := Lib.hid hstep
      clear hstep q6
      have T0 : Kept fp wr wr := Kept.refl _ _
      have S0 : b < wr.heap.size := q5
      go_wp2
      go_roundw
      case rel =>
        refine ⟨j + 1, kk + 1 + 1 + 1, by omega, rfl, (by have e1 := hkk.out; have e2 := hsucc.out; have e4 : ((1 + (1 + 1))) = Ty.cnt tRequester x[j] := rfl; omega : kk + 1 + 1 + 1 = k + ((kAt (fun d => Ty.cnt tRequester d) x (j + 1) : Nat) : Int)), by go_num, HQ.out _ [.int .i64 (kk), .int .i64 (kk + 1), .int .i64 (kk + 1 + 1)] ?_ rfl ?_ ?_ ?_ ?_⟩
        · rw [← hkk.out]
          exact ⟨[.int .i64 (kk)], [.int .i64 (kk + 1), .int .i64 (kk + 1 + 1)], [], ([] ++ []), rfl, rfl, ⟨rdInt_of (by first | rfl | (show _ = kk + (0 : Nat); omega)) (by omega) (by omega), rfl⟩, ⟨[.int .i64 (kk + 1)], [.int .i64 (kk + 1 + 1)], [], [], rfl, rfl, ⟨rdInt_of (by first | rfl | (show _ = kk + (0 : Nat); omega)) (by omega) (by omega), rfl⟩, ⟨rdInt_of (by first | rfl | (show _ = kk + (0 : Nat); omega)) (by omega) (by omega), rfl⟩⟩⟩
        · intro i hi
          have hz : Ty.sz tRequester = 3 := rfl
          rw [hz] at hi
          rw [hz]
          have hi2 : i = 0 ∨ i = 1 ∨ i = 2 := by omega
          rcases hi2 with rfl | rfl | rfl
          all_goals exact ⟨by go_simp, by go_simp⟩
        · intro m hm
          have hz : Ty.sz tRequester = 3 := rfl
          rw [hz] at hm
          try rw [Nat.mul_one] at hm
          exact ⟨(cell_set_ne _ (by omega) _).trans ((cell_set_ne _ (by omega) _).trans ((cell_set_ne _ (by omega) _).trans (rfl))), (frozen_set _ _ _ _).trans ((frozen_set _ _ _ _).trans ((frozen_set _ _ _ _).trans (rfl)))⟩
        · intro y hy hyb hyn
          exact (Below.heap_setCell _ _ _ _ hyb).trans ((Below.heap_setCell _ _ _ _ hyb).trans ((Below.heap_setCell _ _ _ _ hyb).trans (rfl)))
        · exact (((T0).set q2 _).set q2 _).set q2 _
      case measure => simp [intOf]; omega
    · go_wp2
      go_ret
      obtain rfl : j = x.length := by omega
      have e1 := hkk.out
      rw [kAt_all] at e1
      subst e1
      exact hinv.done

set_option maxRecDepth 100000 in
set_option maxHeartbeats 2000000 in
theorem C_laws_heldRequesterS (w : World) (v : Value) (x : List (Ty.D tRequester)) (k : Int) (h : (Ty.sl tRequester).rd w [v] (Ty.mk (.sl tRequester) x k)) (h0 : 0 ≤ k) (h1 : k + (Ty.cnt (.sl tRequester) x : Nat) ≤ 4611686018427387904) :
    Calls Try.prog 33 #[v, .int .i64 k] w (RetI w (k + (Ty.cnt (.sl tRequester) x : Nat))) := by
  obtain ⟨A, c, rfl, hc, hm, hl⟩ := Ty.rd_sl h
  have hcnt : Ty.cnt (.sl tRequester) x = (List.map (fun d => Ty.cnt tRequester d) x).sum := rfl
  unfold maxLen at hm
  have hlen : (Ty.mk (.sl tRequester) x k).length = x.length := length_mkSl _ _ _ _
  have hel : ∀ j (hj' : j < (Ty.mk (.sl tRequester) x k).length) (hj : j < x.length), (Ty.mk (.sl tRequester) x k)[j] = Ty.mk tRequester x[j] (k + (kAt (fun d => Ty.cnt tRequester d) x j : Nat)) := fun j hj' hj => by
    have := mkSl_get (fun d k => Ty.mk tRequester d k) (fun d => Ty.cnt tRequester d) x k j hj
    exact (List.getElem?_eq_some_iff.1 this).2
  have hlt' : ∀ j, j < x.length → j < (Ty.mk (.sl tRequester) x k).length := fun j hj => by rw [hlen]; exact hj
  rw [hlen] at h hl
  rw [hlen]
  generalize Ty.mk (.sl tRequester) x k = y at *
  have HL := Lib.hid hlt'
  have HE := Lib.hid hel
  clear hlen hlt' hel hc
  go_enter Try.func33, Try.ntmps33
  go_wp2
  go_loopw [1, 5] (fun kv i wr => ∃ (j : Nat) (kk : Int), j ≤ x.length ∧ kv = .int .i64 kk ∧ Hid (kk = k + (kAt (fun d => Ty.cnt tRequester d) x j : Nat)) ∧ i = .int .i64 j ∧ Below w.heap.size w wr) (fun _ i _ => x.length - (intOf i).toNat)
  case atStart => exact ⟨0, k, by omega, rfl, (by simp [kAt_zero] : k = k + ((kAt (fun d => Ty.cnt tRequester d) x 0 : Nat) : Int)), rfl, Below.refl _ _⟩
  case round =>
    obtain ⟨j, kk, hj, rfl, hkk, rfl, hb⟩ := hrel
    by_cases hlt : j < x.length
    · obtain ⟨b, o, ds, rfl, hdl, hdc, hdr⟩ := Ty.rd_at (Ty.rd_below hb h) (HL.out j hlt)
      rw [HE.out j (HL.out j hlt) hlt, ← hkk.out] at hdr
      obtain ⟨k0, r0, rfl, g0, q0⟩ := hdr
      obtain ⟨k1, r1, rfl, g1, q1⟩ := q0
      have g2 := q1
      obtain ⟨rfl, b0⟩ := g0
      obtain ⟨rfl, b1⟩ := g1
      obtain ⟨rfl, b2⟩ := g2
      have hsucc := Lib.hid (kAt_succ (fun d => Ty.cnt tRequester d) x hlt)
      have hkk0 : 0 ≤ kk := by have := hkk.out; omega
      have hkk1 : kk + (((1 + (1 + 1)) : Nat) : Int) ≤ 4611686018427387904 := by
        have e1 := hkk.out
        have e2 := hsucc.out
        have e3 := kAt_le (fun d => Ty.cnt tRequester d) x (j + 1)
        rw [hcnt] at h1
        have e4 : ((1 + (1 + 1))) = Ty.cnt tRequester x[j] := rfl
        omega
      have c0_0 : wr.cell? ⟨b, o + j * 3, none⟩ = some (.int .i64 (kk)) := hdc 0 (by decide)
      have c0_1 : wr.cell? ⟨b, o + j * 3 + 1, none⟩ = some (.int .i64 (kk + 1)) := hdc 1 (by decide)
      have c0_2 : wr.cell? ⟨b, o + j * 3 + 2, none⟩ = some (.int .i64 (kk + 1 + 1)) := hdc 2 (by decide)
      clear hdc hdl
      have q5 : b < wr.heap.size := World.block_lt_of_cell? wr _ c0_0
      have e0_ : ((kk : Int) != kk) = false := by simp
      go_wp2_with fail
      try go_quiet (fail)
      have e1_ : ((kk + 1 : Int) != kk + 1) = false := by simp
      go_wp2_with fail
      try go_quiet (fail)
      have e2_ : ((kk + 1 + 1 : Int) != kk + 1 + 1) = false := by simp
      go_wp2_with fail
      try go_quiet (fail)
      go_wp2
      go_roundw
      case rel =>
        exact ⟨j + 1, kk + 1 + 1 + 1, by omega, rfl, (by have e1 := hkk.out; have e2 := hsucc.out; have e4 : ((1 + (1 + 1))) = Ty.cnt tRequester x[j] := rfl; omega : kk + 1 + 1 + 1 = k + ((kAt (fun d => Ty.cnt tRequester d) x (j + 1) : Nat) : Int)), by go_num, (by repeat' (first | (with_reducible exact Below.refl _ _) | (with_reducible assumption) | (with_reducible refine bel_drewN ?_ _) | (with_reducible refine bel_drew ?_) | (with_reducible refine bel_trans hb ?_)))⟩
      case measure => simp [intOf]; omega
    · go_wp2
      go_ret
      obtain rfl : j = x.length := by omega
      have e1 := hkk.out
      rw [kAt_all] at e1
      exact ⟨ret_int (by rw [e1]; rfl), hb⟩

theorem owl_SeenNonce {w : World} {cs : List Value} {x : Ty.D tSeenNonce} {fp : List Nat} (h : Ty.ow w tSeenNonce cs x fp) : ∃ (A0 : Option Addr) (c0 : Nat) (f0 : List Nat), cs = [.slice A0 (List.length x.1) c0, .int .i64 x.2] ∧ fp = (f0 ++ []) ∧ (Ty.ow w (.sl .str) [.slice A0 (List.length x.1) c0] x.1 f0) ∧ (-9223372036854775808 ≤ x.2 ∧ x.2 ≤ 9223372036854775807) := by
  obtain ⟨k0, r0, f0, t0, rfl, rfl, g0, q0⟩ := h
  have g1 := q0
  obtain ⟨A0, c0, rfl⟩ := Ty.ow_slv g0
  obtain ⟨⟨rfl, b1⟩, rfl⟩ := g1
  exact ⟨A0, c0, f0, rfl, rfl, g0, b1⟩

theorem owl_CacheEntry {w : World} {cs : List Value} {x : Ty.D tCacheEntry} {fp : List Nat} (h : Ty.ow w tCacheEntry cs x fp) : ∃ (A00 : Option Addr) (c00 : Nat) (A01 : Option Addr) (c01 : Nat) (A02 : Option Addr) (c02 : Nat) (f00 : List Nat) (f01 : List Nat) (f02 : List Nat), cs = [.slice A00 (List.length x.1.1) c00, .slice A01 (List.length x.1.2.1) c01, .slice A02 (List.length x.1.2.2.1) c02, .int .i64 x.1.2.2.2.1, .int .i64 x.1.2.2.2.2, .int .i64 x.2] ∧ fp = ((f00 ++ (f01 ++ (f02 ++ ([] ++ [])))) ++ []) ∧ (Ty.ow w (.sl .str) [.slice A00 (List.length x.1.1) c00] x.1.1 f00) ∧ (Ty.ow w (.sl .byte) [.slice A01 (List.length x.1.2.1) c01] x.1.2.1 f01) ∧ (Ty.ow w (.sl .str) [.slice A02 (List.length x.1.2.2.1) c02] x.1.2.2.1 f02) ∧ (-9223372036854775808 ≤ x.1.2.2.2.1 ∧ x.1.2.2.2.1 ≤ 9223372036854775807) ∧ (-9223372036854775808 ≤ x.1.2.2.2.2 ∧ x.1.2.2.2.2 ≤ 9223372036854775807) ∧ (-9223372036854775808 ≤ x.2 ∧ x.2 ≤ 9223372036854775807) := by
  obtain ⟨k0, r0, f0, t0, rfl, rfl, g0, q0⟩ := h
  have g1 := q0
  obtain ⟨k00, r00, f00, t00, rfl, rfl, g00, q00⟩ := g0
  obtain ⟨k01, r01, f01, t01, rfl, rfl, g01, q01⟩ := q00
  obtain ⟨k02, r02, f02, t02, rfl, rfl, g02, q02⟩ := q01
  obtain ⟨k03, r03, f03, t03, rfl, rfl, g03, q03⟩ := q02
  have g04 := q03
  obtain ⟨A00, c00, rfl⟩ := Ty.ow_slv g00
  obtain ⟨A01, c01, rfl⟩ := Ty.ow_slv g01
  obtain ⟨A02, c02, rfl⟩ := Ty.ow_slv g02
  obtain ⟨⟨rfl, b03⟩, rfl⟩ := g03
  obtain ⟨⟨rfl, b04⟩, rfl⟩ := g04
  obtain ⟨⟨rfl, b1⟩, rfl⟩ := g1
  exact ⟨A00, c00, A01, c01, A02, c02, f00, f01, f02, rfl, rfl, g00, g01, g02, b03, b04, b1⟩

theorem owl_ContentStore {w : World} {cs : List Value} {x : Ty.D tContentStore} {fp : List Nat} (h : Ty.ow w tContentStore cs x fp) : ∃ (A1 : Option Addr) (c1 : Nat) (f1 : List Nat), cs = [.int .i64 x.1, .slice A1 (List.length x.2) c1] ∧ fp = ([] ++ f1) ∧ (-9223372036854775808 ≤ x.1 ∧ x.1 ≤ 9223372036854775807) ∧ (Ty.ow w (.sl tCacheEntry) [.slice A1 (List.length x.2) c1] x.2 f1) := by
  obtain ⟨k0, r0, f0, t0, rfl, rfl, g0, q0⟩ := h
  have g1 := q0
  obtain ⟨⟨rfl, b0⟩, rfl⟩ := g0
  obtain ⟨A1, c1, rfl⟩ := Ty.ow_slv g1
  exact ⟨A1, c1, t0, rfl, rfl, b0, g1⟩

theorem owl_PendingInterest {w : World} {cs : List Value} {x : Ty.D tPendingInterest} {fp : List Nat} (h : Ty.ow w tPendingInterest cs x fp) : ∃ (A0 : Option Addr) (c0 : Nat) (A1 : Option Addr) (c1 : Nat) (f0 : List Nat) (f1 : List Nat), cs = [.slice A0 (List.length x.1) c0, .slice A1 (List.length x.2.1) c1, .int .i64 x.2.2] ∧ fp = (f0 ++ (f1 ++ [])) ∧ (Ty.ow w (.sl .str) [.slice A0 (List.length x.1) c0] x.1 f0) ∧ (Ty.ow w (.sl tRequester) [.slice A1 (List.length x.2.1) c1] x.2.1 f1) ∧ (-9223372036854775808 ≤ x.2.2 ∧ x.2.2 ≤ 9223372036854775807) := by
  obtain ⟨k0, r0, f0, t0, rfl, rfl, g0, q0⟩ := h
  obtain ⟨k1, r1, f1, t1, rfl, rfl, g1, q1⟩ := q0
  have g2 := q1
  obtain ⟨A0, c0, rfl⟩ := Ty.ow_slv g0
  obtain ⟨A1, c1, rfl⟩ := Ty.ow_slv g1
  obtain ⟨⟨rfl, b2⟩, rfl⟩ := g2
  exact ⟨A0, c0, A1, c1, f0, f1, rfl, rfl, g0, g1, b2⟩

set_option maxRecDepth 100000 in
set_option maxHeartbeats 2000000 in
theorem C_laws_markPendingInterestS (w : World) (v : Value) (x : List (Ty.D tPendingInterest)) (fp : List Nat) (k : Int) (h : (Ty.sl tPendingInterest).ow w [v] x fp) (hn : fp.Nodup) (h0 : 0 ≤ k) (h1 : k + (Ty.cnt (.sl tPendingInterest) x : Nat) ≤ 4611686018427387904) :
    Calls Try.prog 15 #[v, .int .i64 k] w (RetMk w (.sl tPendingInterest) [v] (Ty.mk (.sl tPendingInterest) x k) fp (k + (Ty.cnt (.sl tPendingInterest) x : Nat))) := by
  obtain ⟨A, c, rfl, hc, hm, hl⟩ := Ty.rd_sl (Ty.ow_rd h)
  have hcnt : Ty.cnt (.sl tPendingInterest) x = (List.map (fun d => Ty.cnt tPendingInterest d) x).sum := rfl
  unfold maxLen at hm
  go_enter Try.func15, Try.ntmps15
  go_wp2
  go_loopw [1, 5] (fun kv i wr => ∃ (j : Nat) (kk : Int), j ≤ x.length ∧ kv = .int .i64 kk ∧ Hid (kk = k + (kAt (fun d => Ty.cnt tPendingInterest d) x j : Nat)) ∧ i = .int .i64 j ∧ MkInv tPendingInterest A c x fp k w j wr) (fun _ i _ => x.length - (intOf i).toNat)
  case atStart => exact ⟨0, k, by omega, rfl, (by simp [kAt_zero] : k = k + ((kAt (fun d => Ty.cnt tPendingInterest d) x 0 : Nat) : Int)), rfl, MkInv.zero h⟩
  case round =>
    obtain ⟨j, kk, hj, rfl, hkk, rfl, hinv⟩ := hrel
    by_cases hlt : j < x.length
    · obtain ⟨b, o, fj, ds, rfl, q1, q2, q3, q4, q5, q6, hstep⟩ := hinv.el hn hlt
      obtain ⟨A0, c0, A1, c1, f0, f1, rfl, rfl, g0, g1, b2⟩ := owl_PendingInterest q1
      have hsucc := Lib.hid (kAt_succ (fun d => Ty.cnt tPendingInterest d) x hlt)
      have hkk0 : 0 ≤ kk := by have := hkk.out; omega
      have hkk1 : kk + (((Ty.cnt (.sl .str) x[j].1 + (Ty.cnt (.sl tRequester) x[j].2.1 + 1)) : Nat) : Int) ≤ 4611686018427387904 := by
        have e1 := hkk.out
        have e2 := hsucc.out
        have e3 := kAt_le (fun d => Ty.cnt tPendingInterest d) x (j + 1)
        rw [hcnt] at h1
        have e4 : ((Ty.cnt (.sl .str) x[j].1 + (Ty.cnt (.sl tRequester) x[j].2.1 + 1))) = Ty.cnt tPendingInterest x[j] := rfl
        omega
      have c0_0 : wr.cell? ⟨b, o + j * 3, none⟩ = some (.slice A0 (List.length x[j].1) c0) := by simpa [Ty.sz] using (q6 0 (by decide)).1
      have z0_0 : wr.frozen? ⟨b, o + j * 3, none⟩ = false := by simpa [Ty.sz] using (q6 0 (by decide)).2
      have c0_1 : wr.cell? ⟨b, o + j * 3 + 1, none⟩ = some (.slice A1 (List.length x[j].2.1) c1) := by simpa [Ty.sz] using (q6 1 (by decide)).1
      have z0_1 : wr.frozen? ⟨b, o + j * 3 + 1, none⟩ = false := by simpa [Ty.sz] using (q6 1 (by decide)).2
      have c0_2 : wr.cell? ⟨b, o + j * 3 + 2, none⟩ = some (.int .i64 x[j].2.2) := by simpa [Ty.sz] using (q6 2 (by decide)).1
      have z0_2 : wr.frozen? ⟨b, o + j * 3 + 2, none⟩ = false := by simpa [Ty.sz] using (q6 2 (by decide)).2
      have HQ := Lib.hid hstep
      clear hstep q6
      have d_0_1 : ∀ y ∈ f0, y ∉ f1 := by (intro y hy hy2; revert q4; simp only [List.nodup_append, List.append_nil, List.nil_append, List.mem_append]; intro q4; grind)
      have d_1_0 : ∀ y ∈ f1, y ∉ f0 := by (intro y hy hy2; revert q4; simp only [List.nodup_append, List.append_nil, List.nil_append, List.mem_append]; intro q4; grind)
      have n_0 : f0.Nodup := by (revert q4; try simp only [List.nodup_append, List.append_nil, List.nil_append]; intro q4; grind)
      have m_0 : ∀ y ∈ f0, y ∈ fp ∧ y ≠ b := fun y hy => q3 y (by simp [hy])
      have n_1 : f1.Nodup := by (revert q4; try simp only [List.nodup_append, List.append_nil, List.nil_append]; intro q4; grind)
      have m_1 : ∀ y ∈ f1, y ∈ fp ∧ y ≠ b := fun y hy => q3 y (by simp [hy])
      have T0 : Kept fp wr wr := Kept.refl _ _
      have S0 : b < wr.heap.size := q5
      go_wp2_with fail
      refine (C_laws_markStringS _ _ _ f0 _ (g0) n_0 (by omega) (by omega)).mono ?_
      rintro e u1 ⟨rfl, h0, t1⟩
      have k1_1 := Ty.ow_keep (w' := u1) (fun y hy => by rw [t1.block y (by (try simp only [World.size_setCell]); exact Ty.ow_lt g1 y hy) (d_1_0 y hy)]) g1
      have T1 : Kept fp wr u1 := (T0).trans (t1.mono (fun y hy => (m_0 y hy).1))
      have S1 : b < u1.heap.size := Nat.lt_of_lt_of_le q5 T1.size
      have hB1 : u1.heap[b]? = wr.heap[b]? := t1.block b (by (try simp only [World.size_setCell]); exact S0) (fun hy => (m_0 b hy).2 rfl)
      have C1 : Hid (∀ m, (m < o + j * 3 ∨ o + j * 3 + 3 ≤ m) → u1.cell? ⟨b, m, none⟩ = wr.cell? ⟨b, m, none⟩ ∧ u1.frozen? ⟨b, m, none⟩ = wr.frozen? ⟨b, m, none⟩) := fun m hm => ⟨((cell_of_heap hB1 m)), ((frozen_of_heap hB1 m))⟩
      have U1 : Hid (∀ y, y ∈ fp → y ≠ b → y ∉ (f0 ++ (f1 ++ [])) → u1.heap[y]? = wr.heap[y]?) := fun y hy hyb hyn => (t1.block y (by (try simp only [World.size_setCell]); exact Nat.lt_of_lt_of_le (Ty.ow_lt hinv.1 y hy) T0.size) (fun h => hyn (by simp [h])))
      have c1_0 : u1.cell? ⟨b, o + j * 3, none⟩ = some (.slice A0 (List.length x[j].1) c0) := (cell_of_heap hB1 _).trans (by exact c0_0)
      have z1_0 : u1.frozen? ⟨b, o + j * 3, none⟩ = false := (frozen_of_heap hB1 _).trans (by exact z0_0)
      have c1_1 : u1.cell? ⟨b, o + j * 3 + 1, none⟩ = some (.slice A1 (List.length x[j].2.1) c1) := (cell_of_heap hB1 _).trans (by exact c0_1)
      have z1_1 : u1.frozen? ⟨b, o + j * 3 + 1, none⟩ = false := (frozen_of_heap hB1 _).trans (by exact z0_1)
      have c1_2 : u1.cell? ⟨b, o + j * 3 + 2, none⟩ = some (.int .i64 x[j].2.2) := (cell_of_heap hB1 _).trans (by exact c0_2)
      have z1_2 : u1.frozen? ⟨b, o + j * 3 + 2, none⟩ = false := (frozen_of_heap hB1 _).trans (by exact z0_2)
      clear c0_0 z0_0 c0_1 z0_1 c0_2 z0_2
      go_wp2_with fail
      refine (C_laws_markRequesterS _ _ _ f1 _ (k1_1) n_1 (by omega) (by omega)).mono ?_
      rintro e u2 ⟨rfl, h1, t2⟩
      have k0_2 := Ty.ow_keep (w' := u2) (fun y hy => by rw [t2.block y (by (try simp only [World.size_setCell]); exact Ty.ow_lt h0 y hy) (d_0_1 y hy)]) h0
      have T2 : Kept fp wr u2 := (T1).trans (t2.mono (fun y hy => (m_1 y hy).1))
      have S2 : b < u2.heap.size := Nat.lt_of_lt_of_le q5 T2.size
      have hB2 : u2.heap[b]? = u1.heap[b]? := t2.block b (by (try simp only [World.size_setCell]); exact S1) (fun hy => (m_1 b hy).2 rfl)
      have C2 : Hid (∀ m, (m < o + j * 3 ∨ o + j * 3 + 3 ≤ m) → u2.cell? ⟨b, m, none⟩ = wr.cell? ⟨b, m, none⟩ ∧ u2.frozen? ⟨b, m, none⟩ = wr.frozen? ⟨b, m, none⟩) := fun m hm => ⟨((cell_of_heap hB2 m)).trans (C1.out m hm).1, ((frozen_of_heap hB2 m)).trans (C1.out m hm).2⟩
      have U2 : Hid (∀ y, y ∈ fp → y ≠ b → y ∉ (f0 ++ (f1 ++ [])) → u2.heap[y]? = wr.heap[y]?) := fun y hy hyb hyn => (t2.block y (by (try simp only [World.size_setCell]); exact Nat.lt_of_lt_of_le (Ty.ow_lt hinv.1 y hy) T1.size) (fun h => hyn (by simp [h]))).trans (U1.out y hy hyb hyn)
      have c2_0 : u2.cell? ⟨b, o + j * 3, none⟩ = some (.slice A0 (List.length x[j].1) c0) := (cell_of_heap hB2 _).trans (by exact c1_0)
      have z2_0 : u2.frozen? ⟨b, o + j * 3, none⟩ = false := (frozen_of_heap hB2 _).trans (by exact z1_0)
      have c2_1 : u2.cell? ⟨b, o + j * 3 + 1, none⟩ = some (.slice A1 (List.length x[j].2.1) c1) := (cell_of_heap hB2 _).trans (by exact c1_1)
      have z2_1 : u2.frozen? ⟨b, o + j * 3 + 1, none⟩ = false := (frozen_of_heap hB2 _).trans (by exact z1_1)
      have c2_2 : u2.cell? ⟨b, o + j * 3 + 2, none⟩ = some (.int .i64 x[j].2.2) := (cell_of_heap hB2 _).trans (by exact c1_2)
      have z2_2 : u2.frozen? ⟨b, o + j * 3 + 2, none⟩ = false := (frozen_of_heap hB2 _).trans (by exact z1_2)
      clear c1_0 z1_0 c1_1 z1_1 c1_2 z1_2
      go_wp2
      go_roundw
      case rel =>
        refine ⟨j + 1, kk + ((Ty.cnt (.sl .str) x[j].1 : Nat) : Int) + ((Ty.cnt (.sl tRequester) x[j].2.1 : Nat) : Int) + 1, by omega, rfl, (by have e1 := hkk.out; have e2 := hsucc.out; have e4 : ((Ty.cnt (.sl .str) x[j].1 + (Ty.cnt (.sl tRequester) x[j].2.1 + 1))) = Ty.cnt tPendingInterest x[j] := rfl; omega : kk + ((Ty.cnt (.sl .str) x[j].1 : Nat) : Int) + ((Ty.cnt (.sl tRequester) x[j].2.1 : Nat) : Int) + 1 = k + ((kAt (fun d => Ty.cnt tPendingInterest d) x (j + 1) : Nat) : Int)), by go_num, HQ.out _ [.slice A0 (List.length x[j].1) c0, .slice A1 (List.length x[j].2.1) c1, .int .i64 (kk + ((Ty.cnt (.sl .str) x[j].1 : Nat) : Int) + ((Ty.cnt (.sl tRequester) x[j].2.1 : Nat) : Int))] ?_ rfl ?_ ?_ ?_ ?_⟩
        · rw [← hkk.out]
          exact ⟨[.slice A0 (List.length x[j].1) c0], [.slice A1 (List.length x[j].2.1) c1, .int .i64 (kk + ((Ty.cnt (.sl .str) x[j].1 : Nat) : Int) + ((Ty.cnt (.sl tRequester) x[j].2.1 : Nat) : Int))], f0, (f1 ++ []), rfl, rfl, Ty.ow_keep (fun y hy => by rw [Below.heap_setCell _ _ _ _ (m_0 y hy).2]) k0_2, ⟨[.slice A1 (List.length x[j].2.1) c1], [.int .i64 (kk + ((Ty.cnt (.sl .str) x[j].1 : Nat) : Int) + ((Ty.cnt (.sl tRequester) x[j].2.1 : Nat) : Int))], f1, [], rfl, rfl, Ty.ow_keep (fun y hy => by rw [Below.heap_setCell _ _ _ _ (m_1 y hy).2]) h1, ⟨rdInt_of (by first | rfl | (show _ = kk + (0 : Nat); omega)) (by omega) (by omega), rfl⟩⟩⟩
        · intro i hi
          have hz : Ty.sz tPendingInterest = 3 := rfl
          rw [hz] at hi
          rw [hz]
          have hi2 : i = 0 ∨ i = 1 ∨ i = 2 := by omega
          rcases hi2 with rfl | rfl | rfl
          all_goals exact ⟨by go_simp, by go_simp⟩
        · intro m hm
          have hz : Ty.sz tPendingInterest = 3 := rfl
          rw [hz] at hm
          try rw [Nat.mul_one] at hm
          exact ⟨(cell_set_ne _ (by omega) _).trans ((C2.out m hm).1), (frozen_set _ _ _ _).trans ((C2.out m hm).2)⟩
        · intro y hy hyb hyn
          exact (Below.heap_setCell _ _ _ _ hyb).trans (U2.out y hy hyb hyn)
        · exact (T2).set q2 _
      case measure => simp [intOf]; omega
    · go_wp2
      go_ret
      obtain rfl : j = x.length := by omega
      have e1 := hkk.out
      rw [kAt_all] at e1
      subst e1
      exact hinv.done

set_option maxRecDepth 100000 in
set_option maxHeartbeats 2000000 in
theorem C_laws_heldPendingInterestS (w : World) (v : Value) (x : List (Ty.D tPendingInterest)) (k : Int) (h : (Ty.sl tPendingInterest).rd w [v] (Ty.mk (.sl tPendingInterest) x k)) (h0 : 0 ≤ k) (h1 : k + (Ty.cnt (.sl tPendingInterest) x : Nat) ≤ 4611686018427387904) :
    Calls Try.prog 16 #[v, .int .i64 k] w (RetI w (k + (Ty.cnt (.sl tPendingInterest) x : Nat))) := by
  obtain ⟨A, c, rfl, hc, hm, hl⟩ := Ty.rd_sl h
  have hcnt : Ty.cnt (.sl tPendingInterest) x = (List.map (fun d => Ty.cnt tPendingInterest d) x).sum := rfl
  unfold maxLen at hm
  have hlen : (Ty.mk (.sl tPendingInterest) x k).length = x.length := length_mkSl _ _ _ _
  have hel : ∀ j (hj' : j < (Ty.mk (.sl tPendingInterest) x k).length) (hj : j < x.length), (Ty.mk (.sl tPendingInterest) x k)[j] = Ty.mk tPendingInterest x[j] (k + (kAt (fun d => Ty.cnt tPendingInterest d) x j : Nat)) := fun j hj' hj => by
    have := mkSl_get (fun d k => Ty.mk tPendingInterest d k) (fun d => Ty.cnt tPendingInterest d) x k j hj
    exact (List.getElem?_eq_some_iff.1 this).2
  have hlt' : ∀ j, j < x.length → j < (Ty.mk (.sl tPendingInterest) x k).length := fun j hj => by rw [hlen]; exact hj
  rw [hlen] at h hl
  rw [hlen]
  generalize Ty.mk (.sl tPendingInterest) x k = y at *
  have HL := Lib.hid hlt'
  have HE := Lib.hid hel
  clear hlen hlt' hel hc
  go_enter Try.func16, Try.ntmps16
  go_wp2
  go_loopw [1, 5] (fun kv i wr => ∃ (j : Nat) (kk : Int), j ≤ x.length ∧ kv = .int .i64 kk ∧ Hid (kk = k + (kAt (fun d => Ty.cnt tPendingInterest d) x j : Nat)) ∧ i = .int .i64 j ∧ Below w.heap.size w wr) (fun _ i _ => x.length - (intOf i).toNat)
  case atStart => exact ⟨0, k, by omega, rfl, (by simp [kAt_zero] : k = k + ((kAt (fun d => Ty.cnt tPendingInterest d) x 0 : Nat) : Int)), rfl, Below.refl _ _⟩
  case round =>
    obtain ⟨j, kk, hj, rfl, hkk, rfl, hb⟩ := hrel
    by_cases hlt : j < x.length
    · obtain ⟨b, o, ds, rfl, hdl, hdc, hdr⟩ := Ty.rd_at (Ty.rd_below hb h) (HL.out j hlt)
      rw [HE.out j (HL.out j hlt) hlt, ← hkk.out] at hdr
      obtain ⟨k0, r0, rfl, g0, q0⟩ := hdr
      obtain ⟨k1, r1, rfl, g1, q1⟩ := q0
      have g2 := q1
      obtain ⟨A0, c0, rfl⟩ := Ty.rd_slv g0
      obtain ⟨A1, c1, rfl⟩ := Ty.rd_slv g1
      obtain ⟨rfl, b2⟩ := g2
      have hsucc := Lib.hid (kAt_succ (fun d => Ty.cnt tPendingInterest d) x hlt)
      have hkk0 : 0 ≤ kk := by have := hkk.out; omega
      have hkk1 : kk + (((Ty.cnt (.sl .str) x[j].1 + (Ty.cnt (.sl tRequester) x[j].2.1 + 1)) : Nat) : Int) ≤ 4611686018427387904 := by
        have e1 := hkk.out
        have e2 := hsucc.out
        have e3 := kAt_le (fun d => Ty.cnt tPendingInterest d) x (j + 1)
        rw [hcnt] at h1
        have e4 : ((Ty.cnt (.sl .str) x[j].1 + (Ty.cnt (.sl tRequester) x[j].2.1 + 1))) = Ty.cnt tPendingInterest x[j] := rfl
        omega
      have c0_0 : wr.cell? ⟨b, o + j * 3, none⟩ = some (.slice A0 (List.length (Ty.mk (.sl .str) x[j].1 (kk))) c0) := hdc 0 (by decide)
      have c0_1 : wr.cell? ⟨b, o + j * 3 + 1, none⟩ = some (.slice A1 (List.length (Ty.mk (.sl tRequester) x[j].2.1 (kk + ((Ty.cnt (.sl .str) x[j].1 : Nat) : Int)))) c1) := hdc 1 (by decide)
      have c0_2 : wr.cell? ⟨b, o + j * 3 + 2, none⟩ = some (.int .i64 (kk + ((Ty.cnt (.sl .str) x[j].1 : Nat) : Int) + ((Ty.cnt (.sl tRequester) x[j].2.1 : Nat) : Int))) := hdc 2 (by decide)
      clear hdc hdl
      have q5 : b < wr.heap.size := World.block_lt_of_cell? wr _ c0_0
      go_wp2_with fail
      refine (C_laws_heldStringS _ _ x[j].1 (kk) (Ty.rd_below (by repeat' (first | (with_reducible exact Below.refl _ _) | (with_reducible assumption) | (with_reducible refine bel_set ?_ (by (try dsimp only); omega) _) | (with_reducible refine bel_alloc ?_ _) | (with_reducible refine bel_drewN ?_ _) | (with_reducible refine bel_drew ?_))) g0) (by omega) (by omega)).mono ?_
      rintro e u1 ⟨rfl, hb1⟩
      have hv1 : Below wr.heap.size wr u1 := bel_trans (by repeat' (first | (with_reducible exact Below.refl _ _) | (with_reducible assumption) | (with_reducible refine bel_set ?_ (by (try dsimp only); omega) _) | (with_reducible refine bel_alloc ?_ _) | (with_reducible refine bel_drewN ?_ _) | (with_reducible refine bel_drew ?_))) hb1
      have c1_0 : u1.cell? ⟨b, o + j * 3, none⟩ = some (.slice A0 (List.length (Ty.mk (.sl .str) x[j].1 (kk))) c0) := (hv1.cell q5).trans c0_0
      have c1_1 : u1.cell? ⟨b, o + j * 3 + 1, none⟩ = some (.slice A1 (List.length (Ty.mk (.sl tRequester) x[j].2.1 (kk + ((Ty.cnt (.sl .str) x[j].1 : Nat) : Int)))) c1) := (hv1.cell q5).trans c0_1
      have c1_2 : u1.cell? ⟨b, o + j * 3 + 2, none⟩ = some (.int .i64 (kk + ((Ty.cnt (.sl .str) x[j].1 : Nat) : Int) + ((Ty.cnt (.sl tRequester) x[j].2.1 : Nat) : Int))) := (hv1.cell q5).trans c0_2
      go_wp2_with fail
      refine (C_laws_heldRequesterS _ _ x[j].2.1 (kk + ((Ty.cnt (.sl .str) x[j].1 : Nat) : Int)) (Ty.rd_below (by repeat' (first | (with_reducible exact Below.refl _ _) | (with_reducible assumption) | (with_reducible refine bel_set ?_ (by (try dsimp only); omega) _) | (with_reducible refine bel_alloc ?_ _) | (with_reducible refine bel_drewN ?_ _) | (with_reducible refine bel_drew ?_))) g1) (by omega) (by omega)).mono ?_
      rintro e u2 ⟨rfl, hb2⟩
      have hv2 : Below wr.heap.size wr u2 := bel_trans (by repeat' (first | (with_reducible exact Below.refl _ _) | (with_reducible assumption) | (with_reducible refine bel_set ?_ (by (try dsimp only); omega) _) | (with_reducible refine bel_alloc ?_ _) | (with_reducible refine bel_drewN ?_ _) | (with_reducible refine bel_drew ?_))) hb2
      have c2_0 : u2.cell? ⟨b, o + j * 3, none⟩ = some (.slice A0 (List.length (Ty.mk (.sl .str) x[j].1 (kk))) c0) := (hv2.cell q5).trans c0_0
      have c2_1 : u2.cell? ⟨b, o + j * 3 + 1, none⟩ = some (.slice A1 (List.length (Ty.mk (.sl tRequester) x[j].2.1 (kk + ((Ty.cnt (.sl .str) x[j].1 : Nat) : Int)))) c1) := (hv2.cell q5).trans c0_1
      have c2_2 : u2.cell? ⟨b, o + j * 3 + 2, none⟩ = some (.int .i64 (kk + ((Ty.cnt (.sl .str) x[j].1 : Nat) : Int) + ((Ty.cnt (.sl tRequester) x[j].2.1 : Nat) : Int))) := (hv2.cell q5).trans c0_2
      clear c1_0 c1_1 c1_2
      have e2_ : ((kk + ((Ty.cnt (.sl .str) x[j].1 : Nat) : Int) + ((Ty.cnt (.sl tRequester) x[j].2.1 : Nat) : Int) : Int) != kk + ((Ty.cnt (.sl .str) x[j].1 : Nat) : Int) + ((Ty.cnt (.sl tRequester) x[j].2.1 : Nat) : Int)) = false := by simp
      go_wp2_with fail
      try go_quiet (fail)
      go_wp2
      go_roundw
      case rel =>
        exact ⟨j + 1, kk + ((Ty.cnt (.sl .str) x[j].1 : Nat) : Int) + ((Ty.cnt (.sl tRequester) x[j].2.1 : Nat) : Int) + 1, by omega, rfl, (by have e1 := hkk.out; have e2 := hsucc.out; have e4 : ((Ty.cnt (.sl .str) x[j].1 + (Ty.cnt (.sl tRequester) x[j].2.1 + 1))) = Ty.cnt tPendingInterest x[j] := rfl; omega : kk + ((Ty.cnt (.sl .str) x[j].1 : Nat) : Int) + ((Ty.cnt (.sl tRequester) x[j].2.1 : Nat) : Int) + 1 = k + ((kAt (fun d => Ty.cnt tPendingInterest d) x (j + 1) : Nat) : Int)), by go_num, (by repeat' (first | (with_reducible exact Below.refl _ _) | (with_reducible assumption) | (with_reducible refine bel_drewN ?_ _) | (with_reducible refine bel_drew ?_) | (with_reducible refine bel_trans hb ?_)))⟩
      case measure => simp [intOf]; omega
    · go_wp2
      go_ret
      obtain rfl : j = x.length := by omega
      have e1 := hkk.out
      rw [kAt_all] at e1
      exact ⟨ret_int (by rw [e1]; rfl), hb⟩

theorem owl_TrustPolicy {w : World} {cs : List Value} {x : Ty.D tTrustPolicy} {fp : List Nat} (h : Ty.ow w tTrustPolicy cs x fp) : ∃ (A0 : Option Addr) (c0 : Nat) (A1 : Option Addr) (c1 : Nat) (A2 : Option Addr) (c2 : Nat) (A3 : Option Addr) (c3 : Nat) (f0 : List Nat) (f1 : List Nat) (f2 : List Nat) (f3 : List Nat), cs = [.slice A0 (List.length x.1) c0, .slice A1 (List.length x.2.1) c1, .slice A2 (List.length x.2.2.1) c2, .slice A3 (List.length x.2.2.2) c3] ∧ fp = (f0 ++ (f1 ++ (f2 ++ f3))) ∧ (Ty.ow w (.sl tKey) [.slice A0 (List.length x.1) c0] x.1 f0) ∧ (Ty.ow w (.sl tRule) [.slice A1 (List.length x.2.1) c1] x.2.1 f1) ∧ (Ty.ow w (.sl (.sl .str)) [.slice A2 (List.length x.2.2.1) c2] x.2.2.1 f2) ∧ (Ty.ow w (.sl tData) [.slice A3 (List.length x.2.2.2) c3] x.2.2.2 f3) := by
  obtain ⟨k0, r0, f0, t0, rfl, rfl, g0, q0⟩ := h
  obtain ⟨k1, r1, f1, t1, rfl, rfl, g1, q1⟩ := q0
  obtain ⟨k2, r2, f2, t2, rfl, rfl, g2, q2⟩ := q1
  have g3 := q2
  obtain ⟨A0, c0, rfl⟩ := Ty.ow_slv g0
  obtain ⟨A1, c1, rfl⟩ := Ty.ow_slv g1
  obtain ⟨A2, c2, rfl⟩ := Ty.ow_slv g2
  obtain ⟨A3, c3, rfl⟩ := Ty.ow_slv g3
  exact ⟨A0, c0, A1, c1, A2, c2, A3, c3, f0, f1, f2, t2, rfl, rfl, g0, g1, g2, g3⟩

end Go.Proofs.Ytpjnidfdkggpfaa
