/- The helper functions that write marks and ask for them, for each type. Printed by a program. -/
import Derived.Test.YtemicfeiejfdkaaGreatHlp
import Derived.Test.YtemicfeiejfdkaaGreatMkl
namespace Go.Proofs.YtemicfeiejfdkaaGreat
open Go.RowKit
set_option linter.unusedVariables false
set_option linter.unusedSimpArgs false

theorem rdInt_of {V D : Int} (h : V = D) (h1 : -9223372036854775808 ≤ V) (h2 : V ≤ 9223372036854775807) : rdInt [.int .i64 V] D := by subst h; exact ⟨rfl, h1, h2⟩

theorem owl_Name {w : World} {cs : List Value} {x : Ty.D (.sl .str)} {fp : List Nat} (h : Ty.ow w (.sl .str) cs x fp) : ∃ (A0 : Option Addr) (c0 : Nat) (f0 : List Nat), cs = [.slice A0 (List.length x) c0] ∧ fp = f0 ∧ (Ty.ow w (.sl .str) [.slice A0 (List.length x) c0] x f0) := by
  obtain ⟨A0, c0, rfl⟩ := Ty.ow_slv h
  exact ⟨A0, c0, fp, rfl, rfl, h⟩

set_option maxHeartbeats 1000000 in
theorem C_laws_markName (w : World) (cs : List Value) (x : Ty.D (.sl .str)) (fp : List Nat) (k : Int) (h : Ty.ow w (.sl .str) cs x fp) (hn : fp.Nodup) (h0 : 0 ≤ k) (h1 : k + (Ty.cntv (.sl .str) x : Nat) ≤ 4611686018427387904) :
    Calls Tryz.prog 47 #[.agg cs.toArray, .int .i64 k] w (RetMk w (.sl .str) cs (Ty.mkv (.sl .str) x k) fp (k + (Ty.cntv (.sl .str) x : Nat))) := by
  obtain ⟨A0, c0, rfl⟩ := Ty.ow_slv h
  have g0 := h
  have h1' : k + ((Ty.cntv (.sl .str) x : Nat) : Int) ≤ 4611686018427387904 := h1
  have cv0 : Ty.cntv (.sl .str) x = Ty.cnt (.sl .str) x := rfl
  go_enter Tryz.func47, Tryz.ntmps47
  have n_0 := hn
  go_wp2_with fail
  refine (C_laws_markStringS _ _ _ fp _ (Ty.ow_keep (fun y hy => Below.heap_alloc _ _ _ (Ty.ow_lt g0 y hy)) g0) n_0 (by omega) (by omega)).mono ?_
  rintro e u1 ⟨rfl, h0, k1_⟩
  have K1 : Kept fp w u1 := (Kept.of_below (by repeat' (first | (with_reducible exact Below.refl _ _) | (with_reducible assumption) | (with_reducible refine bel_set ?_ (by (try dsimp only); omega) _) | (with_reducible refine bel_alloc ?_ _) | (with_reducible refine bel_drewN ?_ _) | (with_reducible refine bel_drew ?_)))).trans (k1_.mono (fun y hy => by simp [hy]))
  have hbx1 : u1.heap[w.heap.size]? = (w.alloc (.cells #[.slice A0 (List.length x) c0] 45)).heap[w.heap.size]? := k1_.block _ (by simp) (fun hy => by have := Ty.ow_lt (Ty.ow_keep (w := w) (w' := w) (fun _ _ => rfl) g0) _ hy; omega)
  have hcl1 : ∀ o, u1.cell? ⟨w.heap.size, o, none⟩ = (w.alloc (.cells #[.slice A0 (List.length x) c0] 45)).cell? ⟨w.heap.size, o, none⟩ := fun o => cell_of_heap hbx1 o
  go_wp2
  go_ret
  refine ⟨ret_int (by show _ = k + ((Ty.cntv (.sl .str) x : Nat) : Int); omega), ?_, K1⟩
  exact h0

theorem owl_Pattern {w : World} {cs : List Value} {x : Ty.D (.sl .str)} {fp : List Nat} (h : Ty.ow w (.sl .str) cs x fp) : ∃ (A0 : Option Addr) (c0 : Nat) (f0 : List Nat), cs = [.slice A0 (List.length x) c0] ∧ fp = f0 ∧ (Ty.ow w (.sl .str) [.slice A0 (List.length x) c0] x f0) := by
  obtain ⟨A0, c0, rfl⟩ := Ty.ow_slv h
  exact ⟨A0, c0, fp, rfl, rfl, h⟩

set_option maxRecDepth 100000 in
set_option maxHeartbeats 2000000 in
theorem C_laws_markNameS (w : World) (v : Value) (x : List (Ty.D (.sl .str))) (fp : List Nat) (k : Int) (h : (Ty.sl (.sl .str)).ow w [v] x fp) (hn : fp.Nodup) (h0 : 0 ≤ k) (h1 : k + (Ty.cnt (.sl (.sl .str)) x : Nat) ≤ 4611686018427387904) :
    Calls Tryz.prog 15 #[v, .int .i64 k] w (RetMk w (.sl (.sl .str)) [v] (Ty.mk (.sl (.sl .str)) x k) fp (k + (Ty.cnt (.sl (.sl .str)) x : Nat))) := by
  obtain ⟨A, c, rfl, hc, hm, hl⟩ := Ty.rd_sl (Ty.ow_rd h)
  have hcnt : Ty.cnt (.sl (.sl .str)) x = (List.map (fun d => Ty.cnt (.sl .str) d) x).sum := rfl
  unfold maxLen at hm
  go_enter Tryz.func15, Tryz.ntmps15
  go_wp2
  go_loopw [1, 5] (fun kv i wr => ∃ (j : Nat) (kk : Int), j ≤ x.length ∧ kv = .int .i64 kk ∧ Hid (kk = k + (kAt (fun d => Ty.cnt (.sl .str) d) x j : Nat)) ∧ i = .int .i64 j ∧ MkInv (.sl .str) A c x fp k w j wr) (fun _ i _ => x.length - (intOf i).toNat)
  case atStart => exact ⟨0, k, by omega, rfl, (by simp [kAt_zero] : k = k + ((kAt (fun d => Ty.cnt (.sl .str) d) x 0 : Nat) : Int)), rfl, MkInv.zero h⟩
  case round =>
    obtain ⟨j, kk, hj, rfl, hkk, rfl, hinv⟩ := hrel
    by_cases hlt : j < x.length
    · obtain ⟨b, o, fj, ds, rfl, q1, q2, q3, q4, q5, q6, hstep⟩ := hinv.el hn hlt
      obtain ⟨A0, c0, f0, rfl, hfp, g0⟩ := owl_Name q1
      have hfx := hfp.symm
      subst hfx
      have hsucc := Lib.hid (kAt_succ (fun d => Ty.cnt (.sl .str) d) x hlt)
      have hkk0 : 0 ≤ kk := by have := hkk.out; omega
      have hkk1 : kk + ((Ty.cnt (.sl .str) x[j] : Nat) : Int) ≤ 4611686018427387904 := by
        have e1 := hkk.out
        have e2 := hsucc.out
        have e3 := kAt_le (fun d => Ty.cnt (.sl .str) d) x (j + 1)
        rw [hcnt] at h1
        have e4 : (Ty.cnt (.sl .str) x[j]) = Ty.cnt (.sl .str) x[j] := rfl
        omega
      have c0_0 : wr.cell? ⟨b, o + j, none⟩ = some (.slice A0 (List.length x[j]) c0) := by simpa [Ty.sz] using (q6 0 (by decide)).1
      have z0_0 : wr.frozen? ⟨b, o + j, none⟩ = false := by simpa [Ty.sz] using (q6 0 (by decide)).2
      have HQ := Lib.hid hstep
      clear hstep q6
      have n_0 : f0.Nodup := by first | exact q4 | exact q4.2 | exact (List.nodup_append.mp q4).1
      have m_0 : ∀ y ∈ f0, y ∈ fp ∧ y ≠ b := fun y hy => q3 y (by simp [hy])
      have T0 : Kept fp wr wr := Kept.refl _ _
      have S0 : b < wr.heap.size := q5
      go_wp2_with fail
      refine (C_laws_markStringS _ _ _ f0 _ (g0) n_0 (by omega) (by omega)).mono ?_
      rintro e u1 ⟨rfl, h0, t1⟩
      have T1 : Kept fp wr u1 := (T0).trans (t1.mono (fun y hy => (m_0 y hy).1))
      have S1 : b < u1.heap.size := Nat.lt_of_lt_of_le q5 T1.size
      have hB1 : u1.heap[b]? = wr.heap[b]? := t1.block b (by (try simp only [World.size_setCell]); exact S0) (fun hy => (m_0 b hy).2 rfl)
      have C1 : Hid (∀ m, (m < o + j ∨ o + j + 1 ≤ m) → u1.cell? ⟨b, m, none⟩ = wr.cell? ⟨b, m, none⟩ ∧ u1.frozen? ⟨b, m, none⟩ = wr.frozen? ⟨b, m, none⟩) := fun m hm => ⟨((cell_of_heap hB1 m)), ((frozen_of_heap hB1 m))⟩
      have U1 : Hid (∀ y, y ∈ fp → y ≠ b → y ∉ f0 → u1.heap[y]? = wr.heap[y]?) := fun y hy hyb hyn => (t1.block y (by (try simp only [World.size_setCell]); exact Nat.lt_of_lt_of_le (Ty.ow_lt hinv.1 y hy) T0.size) (fun h => hyn (by simp [h])))
      have c1_0 : u1.cell? ⟨b, o + j, none⟩ = some (.slice A0 (List.length x[j]) c0) := (cell_of_heap hB1 _).trans (by exact c0_0)
      have z1_0 : u1.frozen? ⟨b, o + j, none⟩ = false := (frozen_of_heap hB1 _).trans (by exact z0_0)
      clear c0_0 z0_0
      go_wp2
      go_roundw
      case rel =>
        refine ⟨j + 1, kk + ((Ty.cnt (.sl .str) x[j] : Nat) : Int), by omega, rfl, (by have e1 := hkk.out; have e2 := hsucc.out; have e4 : (Ty.cnt (.sl .str) x[j]) = Ty.cnt (.sl .str) x[j] := rfl; omega : kk + ((Ty.cnt (.sl .str) x[j] : Nat) : Int) = k + ((kAt (fun d => Ty.cnt (.sl .str) d) x (j + 1) : Nat) : Int)), by go_num, HQ.out _ [.slice A0 (List.length x[j]) c0] ?_ rfl ?_ ?_ ?_ ?_⟩
        · rw [← hkk.out]
          exact h0
        · intro i hi
          have hz : Ty.sz (.sl .str) = 1 := rfl
          rw [hz] at hi
          rw [hz]
          obtain rfl : i = 0 := by omega
          try rw [Nat.mul_one]
          exact ⟨by go_simp, by go_simp⟩
        · intro m hm
          have hz : Ty.sz (.sl .str) = 1 := rfl
          rw [hz] at hm
          try rw [Nat.mul_one] at hm
          exact ⟨(C1.out m hm).1, (C1.out m hm).2⟩
        · intro y hy hyb hyn
          exact U1.out y hy hyb hyn
        · exact T1
      case measure => simp [intOf]; omega
    · go_wp2
      go_ret
      obtain rfl : j = x.length := by omega
      have e1 := hkk.out
      rw [kAt_all] at e1
      subst e1
      exact hinv.done

set_option maxRecDepth 100000 in
set_option maxHeartbeats 2000000 in
theorem C_laws_heldNameS (w : World) (v : Value) (x : List (Ty.D (.sl .str))) (k : Int) (h : (Ty.sl (.sl .str)).rd w [v] (Ty.mk (.sl (.sl .str)) x k)) (h0 : 0 ≤ k) (h1 : k + (Ty.cnt (.sl (.sl .str)) x : Nat) ≤ 4611686018427387904) :
    Calls Tryz.prog 16 #[v, .int .i64 k] w (RetI w (k + (Ty.cnt (.sl (.sl .str)) x : Nat))) := by
  obtain ⟨A, c, rfl, hc, hm, hl⟩ := Ty.rd_sl h
  have hcnt : Ty.cnt (.sl (.sl .str)) x = (List.map (fun d => Ty.cnt (.sl .str) d) x).sum := rfl
  unfold maxLen at hm
  have hlen : (Ty.mk (.sl (.sl .str)) x k).length = x.length := length_mkSl _ _ _ _
  have hel : ∀ j (hj' : j < (Ty.mk (.sl (.sl .str)) x k).length) (hj : j < x.length), (Ty.mk (.sl (.sl .str)) x k)[j] = Ty.mk (.sl .str) x[j] (k + (kAt (fun d => Ty.cnt (.sl .str) d) x j : Nat)) := fun j hj' hj => by
    have := mkSl_get (fun d k => Ty.mk (.sl .str) d k) (fun d => Ty.cnt (.sl .str) d) x k j hj
    exact (List.getElem?_eq_some_iff.1 this).2
  have hlt' : ∀ j, j < x.length → j < (Ty.mk (.sl (.sl .str)) x k).length := fun j hj => by rw [hlen]; exact hj
  rw [hlen] at h hl
  rw [hlen]
  generalize Ty.mk (.sl (.sl .str)) x k = y at *
  have HL := Lib.hid hlt'
  have HE := Lib.hid hel
  clear hlen hlt' hel hc
  go_enter Tryz.func16, Tryz.ntmps16
  go_wp2
  go_loopw [1, 5] (fun kv i wr => ∃ (j : Nat) (kk : Int), j ≤ x.length ∧ kv = .int .i64 kk ∧ Hid (kk = k + (kAt (fun d => Ty.cnt (.sl .str) d) x j : Nat)) ∧ i = .int .i64 j ∧ Below w.heap.size w wr) (fun _ i _ => x.length - (intOf i).toNat)
  case atStart => exact ⟨0, k, by omega, rfl, (by simp [kAt_zero] : k = k + ((kAt (fun d => Ty.cnt (.sl .str) d) x 0 : Nat) : Int)), rfl, Below.refl _ _⟩
  case round =>
    obtain ⟨j, kk, hj, rfl, hkk, rfl, hb⟩ := hrel
    by_cases hlt : j < x.length
    · obtain ⟨b, o, ds, rfl, hdl, hdc, hdr⟩ := Ty.rd_at (Ty.rd_below hb h) (HL.out j hlt)
      rw [HE.out j (HL.out j hlt) hlt, ← hkk.out] at hdr
      obtain ⟨A0, c0, rfl⟩ := Ty.rd_slv hdr
      have g0 := hdr
      have hsucc := Lib.hid (kAt_succ (fun d => Ty.cnt (.sl .str) d) x hlt)
      have hkk0 : 0 ≤ kk := by have := hkk.out; omega
      have hkk1 : kk + ((Ty.cnt (.sl .str) x[j] : Nat) : Int) ≤ 4611686018427387904 := by
        have e1 := hkk.out
        have e2 := hsucc.out
        have e3 := kAt_le (fun d => Ty.cnt (.sl .str) d) x (j + 1)
        rw [hcnt] at h1
        have e4 : (Ty.cnt (.sl .str) x[j]) = Ty.cnt (.sl .str) x[j] := rfl
        omega
      have c0_0 : wr.cell? ⟨b, o + j, none⟩ = some (.slice A0 (List.length (Ty.mk (.sl .str) x[j] (kk))) c0) := by simpa [Ty.sz] using hdc 0 (by decide)
      clear hdc hdl
      have q5 : b < wr.heap.size := World.block_lt_of_cell? wr _ c0_0
      go_wp2_with fail
      refine (C_laws_heldStringS _ _ x[j] (kk) (Ty.rd_below (by repeat' (first | (with_reducible exact Below.refl _ _) | (with_reducible assumption) | (with_reducible refine bel_set ?_ (by (try dsimp only); omega) _) | (with_reducible refine bel_alloc ?_ _) | (with_reducible refine bel_drewN ?_ _) | (with_reducible refine bel_drew ?_))) g0) (by omega) (by omega)).mono ?_
      rintro e u1 ⟨rfl, hb1⟩
      have hv1 : Below wr.heap.size wr u1 := bel_trans (by repeat' (first | (with_reducible exact Below.refl _ _) | (with_reducible assumption) | (with_reducible refine bel_set ?_ (by (try dsimp only); omega) _) | (with_reducible refine bel_alloc ?_ _) | (with_reducible refine bel_drewN ?_ _) | (with_reducible refine bel_drew ?_))) hb1
      have c1_0 : u1.cell? ⟨b, o + j, none⟩ = some (.slice A0 (List.length (Ty.mk (.sl .str) x[j] (kk))) c0) := (hv1.cell q5).trans c0_0
      go_wp2
      go_roundw
      case rel =>
        exact ⟨j + 1, kk + ((Ty.cnt (.sl .str) x[j] : Nat) : Int), by omega, rfl, (by have e1 := hkk.out; have e2 := hsucc.out; have e4 : (Ty.cnt (.sl .str) x[j]) = Ty.cnt (.sl .str) x[j] := rfl; omega : kk + ((Ty.cnt (.sl .str) x[j] : Nat) : Int) = k + ((kAt (fun d => Ty.cnt (.sl .str) d) x (j + 1) : Nat) : Int)), by go_num, bel_trans hb hv1⟩
      case measure => simp [intOf]; omega
    · go_wp2
      go_ret
      obtain rfl : j = x.length := by omega
      have e1 := hkk.out
      rw [kAt_all] at e1
      exact ⟨ret_int (by rw [e1]; rfl), hb⟩

theorem owl_Interest {w : World} {cs : List Value} {x : Ty.D tInterest} {fp : List Nat} (h : Ty.ow w tInterest cs x fp) : ∃ (A0 : Option Addr) (c0 : Nat) (f0 : List Nat), cs = [.slice A0 (List.length x.1) c0, .int .i64 x.2.1, .int .i64 x.2.2.1, .int .i64 x.2.2.2] ∧ fp = (f0 ++ ([] ++ ([] ++ []))) ∧ (Ty.ow w (.sl .str) [.slice A0 (List.length x.1) c0] x.1 f0) ∧ (-9223372036854775808 ≤ x.2.1 ∧ x.2.1 ≤ 9223372036854775807) ∧ (-9223372036854775808 ≤ x.2.2.1 ∧ x.2.2.1 ≤ 9223372036854775807) ∧ (-9223372036854775808 ≤ x.2.2.2 ∧ x.2.2.2 ≤ 9223372036854775807) := by
  obtain ⟨k0, r0, f0, t0, rfl, rfl, g0, q0⟩ := h
  obtain ⟨k1, r1, f1, t1, rfl, rfl, g1, q1⟩ := q0
  obtain ⟨k2, r2, f2, t2, rfl, rfl, g2, q2⟩ := q1
  have g3 := q2
  obtain ⟨A0, c0, rfl⟩ := Ty.ow_slv g0
  obtain ⟨⟨rfl, b1⟩, rfl⟩ := g1
  obtain ⟨⟨rfl, b2⟩, rfl⟩ := g2
  obtain ⟨⟨rfl, b3⟩, rfl⟩ := g3
  exact ⟨A0, c0, f0, rfl, rfl, g0, b1, b2, b3⟩

theorem owl_Data {w : World} {cs : List Value} {x : Ty.D tData} {fp : List Nat} (h : Ty.ow w tData cs x fp) : ∃ (A0 : Option Addr) (c0 : Nat) (A1 : Option Addr) (c1 : Nat) (A2 : Option Addr) (c2 : Nat) (f0 : List Nat) (f1 : List Nat) (f2 : List Nat), cs = [.slice A0 (List.length x.1) c0, .slice A1 (List.length x.2.1) c1, .slice A2 (List.length x.2.2.1) c2, .int .i64 x.2.2.2.1, .int .i64 x.2.2.2.2] ∧ fp = (f0 ++ (f1 ++ (f2 ++ ([] ++ [])))) ∧ (Ty.ow w (.sl .str) [.slice A0 (List.length x.1) c0] x.1 f0) ∧ (Ty.ow w (.sl .byte) [.slice A1 (List.length x.2.1) c1] x.2.1 f1) ∧ (Ty.ow w (.sl .str) [.slice A2 (List.length x.2.2.1) c2] x.2.2.1 f2) ∧ (-9223372036854775808 ≤ x.2.2.2.1 ∧ x.2.2.2.1 ≤ 9223372036854775807) ∧ (-9223372036854775808 ≤ x.2.2.2.2 ∧ x.2.2.2.2 ≤ 9223372036854775807) := by
  obtain ⟨k0, r0, f0, t0, rfl, rfl, g0, q0⟩ := h
  obtain ⟨k1, r1, f1, t1, rfl, rfl, g1, q1⟩ := q0
  obtain ⟨k2, r2, f2, t2, rfl, rfl, g2, q2⟩ := q1
  obtain ⟨k3, r3, f3, t3, rfl, rfl, g3, q3⟩ := q2
  have g4 := q3
  obtain ⟨A0, c0, rfl⟩ := Ty.ow_slv g0
  obtain ⟨A1, c1, rfl⟩ := Ty.ow_slv g1
  obtain ⟨A2, c2, rfl⟩ := Ty.ow_slv g2
  obtain ⟨⟨rfl, b3⟩, rfl⟩ := g3
  obtain ⟨⟨rfl, b4⟩, rfl⟩ := g4
  exact ⟨A0, c0, A1, c1, A2, c2, f0, f1, f2, rfl, rfl, g0, g1, g2, b3, b4⟩

set_option maxHeartbeats 1000000 in
theorem C_laws_markData (w : World) (cs : List Value) (x : Ty.D tData) (fp : List Nat) (k : Int) (h : Ty.ow w tData cs x fp) (hn : fp.Nodup) (h0 : 0 ≤ k) (h1 : k + (Ty.cntv tData x : Nat) ≤ 4611686018427387904) :
    Calls Tryz.prog 14 #[.agg cs.toArray, .int .i64 k] w (RetMk w tData cs (Ty.mkv tData x k) fp (k + (Ty.cntv tData x : Nat))) := by
  obtain ⟨k0, r0, f0, t0, rfl, rfl, g0, q0⟩ := h
  obtain ⟨k1, r1, f1, t1, rfl, rfl, g1, q1⟩ := q0
  obtain ⟨k2, r2, f2, t2, rfl, rfl, g2, q2⟩ := q1
  obtain ⟨k3, r3, f3, t3, rfl, rfl, g3, q3⟩ := q2
  have g4 := q3
  obtain ⟨A0, c0, rfl⟩ := Ty.ow_slv g0
  obtain ⟨A1, c1, rfl⟩ := Ty.ow_slv g1
  obtain ⟨A2, c2, rfl⟩ := Ty.ow_slv g2
  obtain ⟨⟨rfl, b3⟩, rfl⟩ := g3
  obtain ⟨⟨rfl, b4⟩, rfl⟩ := g4
  have h1' : k + (((Ty.cntv (.sl .str) x.1 + (Ty.cntv (.sl .byte) x.2.1 + (Ty.cntv (.sl .str) x.2.2.1 + (0 + 0)))) : Nat) : Int) ≤ 4611686018427387904 := h1
  have cv1 : Ty.cntv (.sl .byte) x.2.1 = Ty.cnt (.sl .byte) x.2.1 := rfl
  go_enter Tryz.func14, Tryz.ntmps14
  have n_0 : f0.Nodup := by (revert hn; try simp only [List.nodup_append, List.append_nil, List.nil_append]; intro hn; grind)
  have d_0_1 : ∀ y ∈ f0, y ∉ f1 := by (intro y hy hy2; revert hn; simp only [List.nodup_append, List.append_nil, List.nil_append, List.mem_append]; intro hn; grind)
  have d_0_2 : ∀ y ∈ f0, y ∉ f2 := by (intro y hy hy2; revert hn; simp only [List.nodup_append, List.append_nil, List.nil_append, List.mem_append]; intro hn; grind)
  have n_1 : f1.Nodup := by (revert hn; try simp only [List.nodup_append, List.append_nil, List.nil_append]; intro hn; grind)
  have d_1_0 : ∀ y ∈ f1, y ∉ f0 := by (intro y hy hy2; revert hn; simp only [List.nodup_append, List.append_nil, List.nil_append, List.mem_append]; intro hn; grind)
  have d_1_2 : ∀ y ∈ f1, y ∉ f2 := by (intro y hy hy2; revert hn; simp only [List.nodup_append, List.append_nil, List.nil_append, List.mem_append]; intro hn; grind)
  have n_2 : f2.Nodup := by (revert hn; try simp only [List.nodup_append, List.append_nil, List.nil_append]; intro hn; grind)
  have d_2_0 : ∀ y ∈ f2, y ∉ f0 := by (intro y hy hy2; revert hn; simp only [List.nodup_append, List.append_nil, List.nil_append, List.mem_append]; intro hn; grind)
  have d_2_1 : ∀ y ∈ f2, y ∉ f1 := by (intro y hy hy2; revert hn; simp only [List.nodup_append, List.append_nil, List.nil_append, List.mem_append]; intro hn; grind)
  go_wp2_with fail
  refine (C_laws_markName _ _ _ f0 _ (Ty.ow_keep (fun y hy => Below.heap_alloc _ _ _ (Ty.ow_lt g0 y hy)) g0) n_0 (by omega) (by omega)).mono ?_
  rintro e u1 ⟨rfl, h0, k1_⟩
  have x1_1 := Ty.ow_keep (w' := u1) (fun y hy => (k1_.block y (by simp only [World.size_alloc]; exact Nat.lt_succ_of_lt (Ty.ow_lt g1 y hy)) (d_1_0 y hy)).trans (Below.heap_alloc _ _ _ (Ty.ow_lt g1 y hy))) g1
  have x2_1 := Ty.ow_keep (w' := u1) (fun y hy => (k1_.block y (by simp only [World.size_alloc]; exact Nat.lt_succ_of_lt (Ty.ow_lt g2 y hy)) (d_2_0 y hy)).trans (Below.heap_alloc _ _ _ (Ty.ow_lt g2 y hy))) g2
  have K1 : Kept (f0 ++ (f1 ++ (f2 ++ ([] ++ [])))) w u1 := (Kept.of_below (by repeat' (first | (with_reducible exact Below.refl _ _) | (with_reducible assumption) | (with_reducible refine bel_set ?_ (by (try dsimp only); omega) _) | (with_reducible refine bel_alloc ?_ _) | (with_reducible refine bel_drewN ?_ _) | (with_reducible refine bel_drew ?_)))).trans (k1_.mono (fun y hy => by simp [hy]))
  have hbx1 : u1.heap[w.heap.size]? = (w.alloc (.cells #[.slice A0 (List.length x.1) c0, .slice A1 (List.length x.2.1) c1, .slice A2 (List.length x.2.2.1) c2, .int .i64 x.2.2.2.1, .int .i64 x.2.2.2.2] 47)).heap[w.heap.size]? := k1_.block _ (by simp) (fun hy => by have := Ty.ow_lt (Ty.ow_keep (w := w) (w' := w) (fun _ _ => rfl) g0) _ hy; omega)
  have hcl1 : ∀ o, u1.cell? ⟨w.heap.size, o, none⟩ = (w.alloc (.cells #[.slice A0 (List.length x.1) c0, .slice A1 (List.length x.2.1) c1, .slice A2 (List.length x.2.2.1) c2, .int .i64 x.2.2.2.1, .int .i64 x.2.2.2.2] 47)).cell? ⟨w.heap.size, o, none⟩ := fun o => cell_of_heap hbx1 o
  go_wp2_with fail
  refine (C_laws_markByteS _ _ _ f1 _ (x1_1) n_1 (by omega) (by omega)).mono ?_
  rintro e u2 ⟨rfl, h1, k2_⟩
  have x0_2 := Ty.ow_keep (w' := u2) (fun y hy => (k2_.block y (by exact Ty.ow_lt h0 y hy) (d_0_1 y hy))) h0
  have x2_2 := Ty.ow_keep (w' := u2) (fun y hy => (k2_.block y (by exact Ty.ow_lt x2_1 y hy) (d_2_1 y hy))) x2_1
  have K2 : Kept (f0 ++ (f1 ++ (f2 ++ ([] ++ [])))) w u2 := K1.trans (k2_.mono (fun y hy => by simp [hy]))
  have hbx2 : u2.heap[w.heap.size]? = u1.heap[w.heap.size]? := k2_.block _ (by have := k1_.size; simp only [World.size_alloc] at *; omega) (fun hy => by have := Ty.ow_lt g1 _ hy; omega)
  have hcl2 : ∀ o, u2.cell? ⟨w.heap.size, o, none⟩ = (w.alloc (.cells #[.slice A0 (List.length x.1) c0, .slice A1 (List.length x.2.1) c1, .slice A2 (List.length x.2.2.1) c2, .int .i64 x.2.2.2.1, .int .i64 x.2.2.2.2] 47)).cell? ⟨w.heap.size, o, none⟩ := fun o => (cell_of_heap hbx2 o).trans (hcl1 o)
  go_wp2_with fail
  refine (C_laws_markName _ _ _ f2 _ (x2_2) n_2 (by omega) (by omega)).mono ?_
  rintro e u3 ⟨rfl, h2, k3_⟩
  have x0_3 := Ty.ow_keep (w' := u3) (fun y hy => (k3_.block y (by exact Ty.ow_lt x0_2 y hy) (d_0_2 y hy))) x0_2
  have x1_3 := Ty.ow_keep (w' := u3) (fun y hy => (k3_.block y (by exact Ty.ow_lt h1 y hy) (d_1_2 y hy))) h1
  have K3 : Kept (f0 ++ (f1 ++ (f2 ++ ([] ++ [])))) w u3 := K2.trans (k3_.mono (fun y hy => by simp [hy]))
  have hbx3 : u3.heap[w.heap.size]? = u2.heap[w.heap.size]? := k3_.block _ (by have := k1_.size; have := k2_.size; simp only [World.size_alloc] at *; omega) (fun hy => by have := Ty.ow_lt g2 _ hy; omega)
  have hcl3 : ∀ o, u3.cell? ⟨w.heap.size, o, none⟩ = (w.alloc (.cells #[.slice A0 (List.length x.1) c0, .slice A1 (List.length x.2.1) c1, .slice A2 (List.length x.2.2.1) c2, .int .i64 x.2.2.2.1, .int .i64 x.2.2.2.2] 47)).cell? ⟨w.heap.size, o, none⟩ := fun o => (cell_of_heap hbx3 o).trans (hcl2 o)
  go_wp2
  go_ret
  refine ⟨ret_int (by show _ = k + (((Ty.cntv (.sl .str) x.1 + (Ty.cntv (.sl .byte) x.2.1 + (Ty.cntv (.sl .str) x.2.2.1 + (0 + 0)))) : Nat) : Int); omega), ?_, K3⟩
  exact ⟨[.slice A0 (List.length x.1) c0], [.slice A1 (List.length x.2.1) c1, .slice A2 (List.length x.2.2.1) c2, .int .i64 x.2.2.2.1, .int .i64 x.2.2.2.2], f0, (f1 ++ (f2 ++ ([] ++ []))), rfl, rfl, x0_3, ⟨[.slice A1 (List.length x.2.1) c1], [.slice A2 (List.length x.2.2.1) c2, .int .i64 x.2.2.2.1, .int .i64 x.2.2.2.2], f1, (f2 ++ ([] ++ [])), rfl, rfl, x1_3, ⟨[.slice A2 (List.length x.2.2.1) c2], [.int .i64 x.2.2.2.1, .int .i64 x.2.2.2.2], f2, ([] ++ []), rfl, rfl, h2, ⟨[.int .i64 x.2.2.2.1], [.int .i64 x.2.2.2.2], [], [], rfl, rfl, ⟨⟨rfl, b3⟩, rfl⟩, ⟨⟨rfl, b4⟩, rfl⟩⟩⟩⟩⟩

set_option maxRecDepth 100000 in
set_option maxHeartbeats 2000000 in
theorem C_laws_markDataS (w : World) (v : Value) (x : List (Ty.D tData)) (fp : List Nat) (k : Int) (h : (Ty.sl tData).ow w [v] x fp) (hn : fp.Nodup) (h0 : 0 ≤ k) (h1 : k + (Ty.cnt (.sl tData) x : Nat) ≤ 4611686018427387904) :
    Calls Tryz.prog 46 #[v, .int .i64 k] w (RetMk w (.sl tData) [v] (Ty.mk (.sl tData) x k) fp (k + (Ty.cnt (.sl tData) x : Nat))) := by
  obtain ⟨A, c, rfl, hc, hm, hl⟩ := Ty.rd_sl (Ty.ow_rd h)
  have hcnt : Ty.cnt (.sl tData) x = (List.map (fun d => Ty.cnt tData d) x).sum := rfl
  unfold maxLen at hm
  go_enter Tryz.func46, Tryz.ntmps46
  go_wp2
  go_loopw [1, 5] (fun kv i wr => ∃ (j : Nat) (kk : Int), j ≤ x.length ∧ kv = .int .i64 kk ∧ Hid (kk = k + (kAt (fun d => Ty.cnt tData d) x j : Nat)) ∧ i = .int .i64 j ∧ MkInv tData A c x fp k w j wr) (fun _ i _ => x.length - (intOf i).toNat)
  case atStart => exact ⟨0, k, by omega, rfl, (by simp [kAt_zero] : k = k + ((kAt (fun d => Ty.cnt tData d) x 0 : Nat) : Int)), rfl, MkInv.zero h⟩
  case round =>
    obtain ⟨j, kk, hj, rfl, hkk, rfl, hinv⟩ := hrel
    by_cases hlt : j < x.length
    · obtain ⟨b, o, fj, ds, rfl, q1, q2, q3, q4, q5, q6, hstep⟩ := hinv.el hn hlt
      obtain ⟨A0, c0, A1, c1, A2, c2, f0, f1, f2, rfl, rfl, g0, g1, g2, b3, b4⟩ := owl_Data q1
      have hsucc := Lib.hid (kAt_succ (fun d => Ty.cnt tData d) x hlt)
      have hkk0 : 0 ≤ kk := by have := hkk.out; omega
      have hkk1 : kk + (((Ty.cnt (.sl .str) x[j].1 + (Ty.cnt (.sl .byte) x[j].2.1 + (Ty.cnt (.sl .str) x[j].2.2.1 + (1 + 1)))) : Nat) : Int) ≤ 4611686018427387904 := by
        have e1 := hkk.out
        have e2 := hsucc.out
        have e3 := kAt_le (fun d => Ty.cnt tData d) x (j + 1)
        rw [hcnt] at h1
        have e4 : ((Ty.cnt (.sl .str) x[j].1 + (Ty.cnt (.sl .byte) x[j].2.1 + (Ty.cnt (.sl .str) x[j].2.2.1 + (1 + 1))))) = Ty.cnt tData x[j] := rfl
        omega
      have c0_0 : wr.cell? ⟨b, o + j * 5, none⟩ = some (.slice A0 (List.length x[j].1) c0) := by simpa [Ty.sz] using (q6 0 (by decide)).1
      have z0_0 : wr.frozen? ⟨b, o + j * 5, none⟩ = false := by simpa [Ty.sz] using (q6 0 (by decide)).2
      have c0_1 : wr.cell? ⟨b, o + j * 5 + 1, none⟩ = some (.slice A1 (List.length x[j].2.1) c1) := by simpa [Ty.sz] using (q6 1 (by decide)).1
      have z0_1 : wr.frozen? ⟨b, o + j * 5 + 1, none⟩ = false := by simpa [Ty.sz] using (q6 1 (by decide)).2
      have c0_2 : wr.cell? ⟨b, o + j * 5 + 2, none⟩ = some (.slice A2 (List.length x[j].2.2.1) c2) := by simpa [Ty.sz] using (q6 2 (by decide)).1
      have z0_2 : wr.frozen? ⟨b, o + j * 5 + 2, none⟩ = false := by simpa [Ty.sz] using (q6 2 (by decide)).2
      have c0_3 : wr.cell? ⟨b, o + j * 5 + 3, none⟩ = some (.int .i64 x[j].2.2.2.1) := by simpa [Ty.sz] using (q6 3 (by decide)).1
      have z0_3 : wr.frozen? ⟨b, o + j * 5 + 3, none⟩ = false := by simpa [Ty.sz] using (q6 3 (by decide)).2
      have c0_4 : wr.cell? ⟨b, o + j * 5 + 4, none⟩ = some (.int .i64 x[j].2.2.2.2) := by simpa [Ty.sz] using (q6 4 (by decide)).1
      have z0_4 : wr.frozen? ⟨b, o + j * 5 + 4, none⟩ = false := by simpa [Ty.sz] using (q6 4 (by decide)).2
      have HQ := Lib.hid hstep
      clear hstep q6
      have d_0_1 : ∀ y ∈ f0, y ∉ f1 := by (intro y hy hy2; revert q4; simp only [List.nodup_append, List.append_nil, List.nil_append, List.mem_append]; intro q4; grind)
      have d_0_2 : ∀ y ∈ f0, y ∉ f2 := by (intro y hy hy2; revert q4; simp only [List.nodup_append, List.append_nil, List.nil_append, List.mem_append]; intro q4; grind)
      have d_1_0 : ∀ y ∈ f1, y ∉ f0 := by (intro y hy hy2; revert q4; simp only [List.nodup_append, List.append_nil, List.nil_append, List.mem_append]; intro q4; grind)
      have d_1_2 : ∀ y ∈ f1, y ∉ f2 := by (intro y hy hy2; revert q4; simp only [List.nodup_append, List.append_nil, List.nil_append, List.mem_append]; intro q4; grind)
      have d_2_0 : ∀ y ∈ f2, y ∉ f0 := by (intro y hy hy2; revert q4; simp only [List.nodup_append, List.append_nil, List.nil_append, List.mem_append]; intro q4; grind)
      have d_2_1 : ∀ y ∈ f2, y ∉ f1 := by (intro y hy hy2; revert q4; simp only [List.nodup_append, List.append_nil, List.nil_append, List.mem_append]; intro q4; grind)
      have n_0 : f0.Nodup := by (revert q4; try simp only [List.nodup_append, List.append_nil, List.nil_append]; intro q4; grind)
      have m_0 : ∀ y ∈ f0, y ∈ fp ∧ y ≠ b := fun y hy => q3 y (by simp [hy])
      have n_1 : f1.Nodup := by (revert q4; try simp only [List.nodup_append, List.append_nil, List.nil_append]; intro q4; grind)
      have m_1 : ∀ y ∈ f1, y ∈ fp ∧ y ≠ b := fun y hy => q3 y (by simp [hy])
      have n_2 : f2.Nodup := by (revert q4; try simp only [List.nodup_append, List.append_nil, List.nil_append]; intro q4; grind)
      have m_2 : ∀ y ∈ f2, y ∈ fp ∧ y ≠ b := fun y hy => q3 y (by simp [hy])
      have T0 : Kept fp wr wr := Kept.refl _ _
      have S0 : b < wr.heap.size := q5
      go_wp2_with fail
      refine (C_laws_markStringS _ _ _ f0 _ (g0) n_0 (by omega) (by omega)).mono ?_
      rintro e u1 ⟨rfl, h0, t1⟩
      have k1_1 := Ty.ow_keep (w' := u1) (fun y hy => by rw [t1.block y (by (try simp only [World.size_setCell]); exact Ty.ow_lt g1 y hy) (d_1_0 y hy)]) g1
      have k2_1 := Ty.ow_keep (w' := u1) (fun y hy => by rw [t1.block y (by (try simp only [World.size_setCell]); exact Ty.ow_lt g2 y hy) (d_2_0 y hy)]) g2
      have T1 : Kept fp wr u1 := (T0).trans (t1.mono (fun y hy => (m_0 y hy).1))
      have S1 : b < u1.heap.size := Nat.lt_of_lt_of_le q5 T1.size
      have hB1 : u1.heap[b]? = wr.heap[b]? := t1.block b (by (try simp only [World.size_setCell]); exact S0) (fun hy => (m_0 b hy).2 rfl)
      have C1 : Hid (∀ m, (m < o + j * 5 ∨ o + j * 5 + 5 ≤ m) → u1.cell? ⟨b, m, none⟩ = wr.cell? ⟨b, m, none⟩ ∧ u1.frozen? ⟨b, m, none⟩ = wr.frozen? ⟨b, m, none⟩) := fun m hm => ⟨((cell_of_heap hB1 m)), ((frozen_of_heap hB1 m))⟩
      have U1 : Hid (∀ y, y ∈ fp → y ≠ b → y ∉ (f0 ++ (f1 ++ (f2 ++ ([] ++ [])))) → u1.heap[y]? = wr.heap[y]?) := fun y hy hyb hyn => (t1.block y (by (try simp only [World.size_setCell]); exact Nat.lt_of_lt_of_le (Ty.ow_lt hinv.1 y hy) T0.size) (fun h => hyn (by simp [h])))
      have c1_0 : u1.cell? ⟨b, o + j * 5, none⟩ = some (.slice A0 (List.length x[j].1) c0) := (cell_of_heap hB1 _).trans (by exact c0_0)
      have z1_0 : u1.frozen? ⟨b, o + j * 5, none⟩ = false := (frozen_of_heap hB1 _).trans (by exact z0_0)
      have c1_1 : u1.cell? ⟨b, o + j * 5 + 1, none⟩ = some (.slice A1 (List.length x[j].2.1) c1) := (cell_of_heap hB1 _).trans (by exact c0_1)
      have z1_1 : u1.frozen? ⟨b, o + j * 5 + 1, none⟩ = false := (frozen_of_heap hB1 _).trans (by exact z0_1)
      have c1_2 : u1.cell? ⟨b, o + j * 5 + 2, none⟩ = some (.slice A2 (List.length x[j].2.2.1) c2) := (cell_of_heap hB1 _).trans (by exact c0_2)
      have z1_2 : u1.frozen? ⟨b, o + j * 5 + 2, none⟩ = false := (frozen_of_heap hB1 _).trans (by exact z0_2)
      have c1_3 : u1.cell? ⟨b, o + j * 5 + 3, none⟩ = some (.int .i64 x[j].2.2.2.1) := (cell_of_heap hB1 _).trans (by exact c0_3)
      have z1_3 : u1.frozen? ⟨b, o + j * 5 + 3, none⟩ = false := (frozen_of_heap hB1 _).trans (by exact z0_3)
      have c1_4 : u1.cell? ⟨b, o + j * 5 + 4, none⟩ = some (.int .i64 x[j].2.2.2.2) := (cell_of_heap hB1 _).trans (by exact c0_4)
      have z1_4 : u1.frozen? ⟨b, o + j * 5 + 4, none⟩ = false := (frozen_of_heap hB1 _).trans (by exact z0_4)
      clear c0_0 z0_0 c0_1 z0_1 c0_2 z0_2 c0_3 z0_3 c0_4 z0_4
      go_wp2_with fail
      refine (C_laws_markByteS _ _ _ f1 _ (k1_1) n_1 (by omega) (by omega)).mono ?_
      rintro e u2 ⟨rfl, h1, t2⟩
      have k0_2 := Ty.ow_keep (w' := u2) (fun y hy => by rw [t2.block y (by (try simp only [World.size_setCell]); exact Ty.ow_lt h0 y hy) (d_0_1 y hy)]) h0
      have k2_2 := Ty.ow_keep (w' := u2) (fun y hy => by rw [t2.block y (by (try simp only [World.size_setCell]); exact Ty.ow_lt k2_1 y hy) (d_2_1 y hy)]) k2_1
      have T2 : Kept fp wr u2 := (T1).trans (t2.mono (fun y hy => (m_1 y hy).1))
      have S2 : b < u2.heap.size := Nat.lt_of_lt_of_le q5 T2.size
      have hB2 : u2.heap[b]? = u1.heap[b]? := t2.block b (by (try simp only [World.size_setCell]); exact S1) (fun hy => (m_1 b hy).2 rfl)
      have C2 : Hid (∀ m, (m < o + j * 5 ∨ o + j * 5 + 5 ≤ m) → u2.cell? ⟨b, m, none⟩ = wr.cell? ⟨b, m, none⟩ ∧ u2.frozen? ⟨b, m, none⟩ = wr.frozen? ⟨b, m, none⟩) := fun m hm => ⟨((cell_of_heap hB2 m)).trans (C1.out m hm).1, ((frozen_of_heap hB2 m)).trans (C1.out m hm).2⟩
      have U2 : Hid (∀ y, y ∈ fp → y ≠ b → y ∉ (f0 ++ (f1 ++ (f2 ++ ([] ++ [])))) → u2.heap[y]? = wr.heap[y]?) := fun y hy hyb hyn => (t2.block y (by (try simp only [World.size_setCell]); exact Nat.lt_of_lt_of_le (Ty.ow_lt hinv.1 y hy) T1.size) (fun h => hyn (by simp [h]))).trans (U1.out y hy hyb hyn)
      have c2_0 : u2.cell? ⟨b, o + j * 5, none⟩ = some (.slice A0 (List.length x[j].1) c0) := (cell_of_heap hB2 _).trans (by exact c1_0)
      have z2_0 : u2.frozen? ⟨b, o + j * 5, none⟩ = false := (frozen_of_heap hB2 _).trans (by exact z1_0)
      have c2_1 : u2.cell? ⟨b, o + j * 5 + 1, none⟩ = some (.slice A1 (List.length x[j].2.1) c1) := (cell_of_heap hB2 _).trans (by exact c1_1)
      have z2_1 : u2.frozen? ⟨b, o + j * 5 + 1, none⟩ = false := (frozen_of_heap hB2 _).trans (by exact z1_1)
      have c2_2 : u2.cell? ⟨b, o + j * 5 + 2, none⟩ = some (.slice A2 (List.length x[j].2.2.1) c2) := (cell_of_heap hB2 _).trans (by exact c1_2)
      have z2_2 : u2.frozen? ⟨b, o + j * 5 + 2, none⟩ = false := (frozen_of_heap hB2 _).trans (by exact z1_2)
      have c2_3 : u2.cell? ⟨b, o + j * 5 + 3, none⟩ = some (.int .i64 x[j].2.2.2.1) := (cell_of_heap hB2 _).trans (by exact c1_3)
      have z2_3 : u2.frozen? ⟨b, o + j * 5 + 3, none⟩ = false := (frozen_of_heap hB2 _).trans (by exact z1_3)
      have c2_4 : u2.cell? ⟨b, o + j * 5 + 4, none⟩ = some (.int .i64 x[j].2.2.2.2) := (cell_of_heap hB2 _).trans (by exact c1_4)
      have z2_4 : u2.frozen? ⟨b, o + j * 5 + 4, none⟩ = false := (frozen_of_heap hB2 _).trans (by exact z1_4)
      clear c1_0 z1_0 c1_1 z1_1 c1_2 z1_2 c1_3 z1_3 c1_4 z1_4
      go_wp2_with fail
      refine (C_laws_markStringS _ _ _ f2 _ (k2_2) n_2 (by omega) (by omega)).mono ?_
      rintro e u3 ⟨rfl, h2, t3⟩
      have k0_3 := Ty.ow_keep (w' := u3) (fun y hy => by rw [t3.block y (by (try simp only [World.size_setCell]); exact Ty.ow_lt k0_2 y hy) (d_0_2 y hy)]) k0_2
      have k1_3 := Ty.ow_keep (w' := u3) (fun y hy => by rw [t3.block y (by (try simp only [World.size_setCell]); exact Ty.ow_lt h1 y hy) (d_1_2 y hy)]) h1
      have T3 : Kept fp wr u3 := (T2).trans (t3.mono (fun y hy => (m_2 y hy).1))
      have S3 : b < u3.heap.size := Nat.lt_of_lt_of_le q5 T3.size
      have hB3 : u3.heap[b]? = u2.heap[b]? := t3.block b (by (try simp only [World.size_setCell]); exact S2) (fun hy => (m_2 b hy).2 rfl)
      have C3 : Hid (∀ m, (m < o + j * 5 ∨ o + j * 5 + 5 ≤ m) → u3.cell? ⟨b, m, none⟩ = wr.cell? ⟨b, m, none⟩ ∧ u3.frozen? ⟨b, m, none⟩ = wr.frozen? ⟨b, m, none⟩) := fun m hm => ⟨((cell_of_heap hB3 m)).trans (C2.out m hm).1, ((frozen_of_heap hB3 m)).trans (C2.out m hm).2⟩
      have U3 : Hid (∀ y, y ∈ fp → y ≠ b → y ∉ (f0 ++ (f1 ++ (f2 ++ ([] ++ [])))) → u3.heap[y]? = wr.heap[y]?) := fun y hy hyb hyn => (t3.block y (by (try simp only [World.size_setCell]); exact Nat.lt_of_lt_of_le (Ty.ow_lt hinv.1 y hy) T2.size) (fun h => hyn (by simp [h]))).trans (U2.out y hy hyb hyn)
      have c3_0 : u3.cell? ⟨b, o + j * 5, none⟩ = some (.slice A0 (List.length x[j].1) c0) := (cell_of_heap hB3 _).trans (by exact c2_0)
      have z3_0 : u3.frozen? ⟨b, o + j * 5, none⟩ = false := (frozen_of_heap hB3 _).trans (by exact z2_0)
      have c3_1 : u3.cell? ⟨b, o + j * 5 + 1, none⟩ = some (.slice A1 (List.length x[j].2.1) c1) := (cell_of_heap hB3 _).trans (by exact c2_1)
      have z3_1 : u3.frozen? ⟨b, o + j * 5 + 1, none⟩ = false := (frozen_of_heap hB3 _).trans (by exact z2_1)
      have c3_2 : u3.cell? ⟨b, o + j * 5 + 2, none⟩ = some (.slice A2 (List.length x[j].2.2.1) c2) := (cell_of_heap hB3 _).trans (by exact c2_2)
      have z3_2 : u3.frozen? ⟨b, o + j * 5 + 2, none⟩ = false := (frozen_of_heap hB3 _).trans (by exact z2_2)
      have c3_3 : u3.cell? ⟨b, o + j * 5 + 3, none⟩ = some (.int .i64 x[j].2.2.2.1) := (cell_of_heap hB3 _).trans (by exact c2_3)
      have z3_3 : u3.frozen? ⟨b, o + j * 5 + 3, none⟩ = false := (frozen_of_heap hB3 _).trans (by exact z2_3)
      have c3_4 : u3.cell? ⟨b, o + j * 5 + 4, none⟩ = some (.int .i64 x[j].2.2.2.2) := (cell_of_heap hB3 _).trans (by exact c2_4)
      have z3_4 : u3.frozen? ⟨b, o + j * 5 + 4, none⟩ = false := (frozen_of_heap hB3 _).trans (by exact z2_4)
      clear c2_0 z2_0 c2_1 z2_1 c2_2 z2_2 c2_3 z2_3 c2_4 z2_4
      go_wp2
      go_roundw
      case rel =>
        refine ⟨j + 1, kk + ((Ty.cnt (.sl .str) x[j].1 : Nat) : Int) + ((Ty.cnt (.sl .byte) x[j].2.1 : Nat) : Int) + ((Ty.cnt (.sl .str) x[j].2.2.1 : Nat) : Int) + 1 + 1, by omega, rfl, (by have e1 := hkk.out; have e2 := hsucc.out; have e4 : ((Ty.cnt (.sl .str) x[j].1 + (Ty.cnt (.sl .byte) x[j].2.1 + (Ty.cnt (.sl .str) x[j].2.2.1 + (1 + 1))))) = Ty.cnt tData x[j] := rfl; omega : kk + ((Ty.cnt (.sl .str) x[j].1 : Nat) : Int) + ((Ty.cnt (.sl .byte) x[j].2.1 : Nat) : Int) + ((Ty.cnt (.sl .str) x[j].2.2.1 : Nat) : Int) + 1 + 1 = k + ((kAt (fun d => Ty.cnt tData d) x (j + 1) : Nat) : Int)), by go_num, HQ.out _ [.slice A0 (List.length x[j].1) c0, .slice A1 (List.length x[j].2.1) c1, .slice A2 (List.length x[j].2.2.1) c2, .int .i64 (kk + ((Ty.cnt (.sl .str) x[j].1 : Nat) : Int) + ((Ty.cnt (.sl .byte) x[j].2.1 : Nat) : Int) + ((Ty.cnt (.sl .str) x[j].2.2.1 : Nat) : Int)), .int .i64 (kk + ((Ty.cnt (.sl .str) x[j].1 : Nat) : Int) + ((Ty.cnt (.sl .byte) x[j].2.1 : Nat) : Int) + ((Ty.cnt (.sl .str) x[j].2.2.1 : Nat) : Int) + 1)] ?_ rfl ?_ ?_ ?_ ?_⟩
        · rw [← hkk.out]
          exact ⟨[.slice A0 (List.length x[j].1) c0], [.slice A1 (List.length x[j].2.1) c1, .slice A2 (List.length x[j].2.2.1) c2, .int .i64 (kk + ((Ty.cnt (.sl .str) x[j].1 : Nat) : Int) + ((Ty.cnt (.sl .byte) x[j].2.1 : Nat) : Int) + ((Ty.cnt (.sl .str) x[j].2.2.1 : Nat) : Int)), .int .i64 (kk + ((Ty.cnt (.sl .str) x[j].1 : Nat) : Int) + ((Ty.cnt (.sl .byte) x[j].2.1 : Nat) : Int) + ((Ty.cnt (.sl .str) x[j].2.2.1 : Nat) : Int) + 1)], f0, (f1 ++ (f2 ++ ([] ++ []))), rfl, rfl, Ty.ow_keep (fun y hy => by rw [Below.heap_setCell _ _ _ _ (m_0 y hy).2]; rw [Below.heap_setCell _ _ _ _ (m_0 y hy).2]) k0_3, ⟨[.slice A1 (List.length x[j].2.1) c1], [.slice A2 (List.length x[j].2.2.1) c2, .int .i64 (kk + ((Ty.cnt (.sl .str) x[j].1 : Nat) : Int) + ((Ty.cnt (.sl .byte) x[j].2.1 : Nat) : Int) + ((Ty.cnt (.sl .str) x[j].2.2.1 : Nat) : Int)), .int .i64 (kk + ((Ty.cnt (.sl .str) x[j].1 : Nat) : Int) + ((Ty.cnt (.sl .byte) x[j].2.1 : Nat) : Int) + ((Ty.cnt (.sl .str) x[j].2.2.1 : Nat) : Int) + 1)], f1, (f2 ++ ([] ++ [])), rfl, rfl, Ty.ow_keep (fun y hy => by rw [Below.heap_setCell _ _ _ _ (m_1 y hy).2]; rw [Below.heap_setCell _ _ _ _ (m_1 y hy).2]) k1_3, ⟨[.slice A2 (List.length x[j].2.2.1) c2], [.int .i64 (kk + ((Ty.cnt (.sl .str) x[j].1 : Nat) : Int) + ((Ty.cnt (.sl .byte) x[j].2.1 : Nat) : Int) + ((Ty.cnt (.sl .str) x[j].2.2.1 : Nat) : Int)), .int .i64 (kk + ((Ty.cnt (.sl .str) x[j].1 : Nat) : Int) + ((Ty.cnt (.sl .byte) x[j].2.1 : Nat) : Int) + ((Ty.cnt (.sl .str) x[j].2.2.1 : Nat) : Int) + 1)], f2, ([] ++ []), rfl, rfl, Ty.ow_keep (fun y hy => by rw [Below.heap_setCell _ _ _ _ (m_2 y hy).2]; rw [Below.heap_setCell _ _ _ _ (m_2 y hy).2]) h2, ⟨[.int .i64 (kk + ((Ty.cnt (.sl .str) x[j].1 : Nat) : Int) + ((Ty.cnt (.sl .byte) x[j].2.1 : Nat) : Int) + ((Ty.cnt (.sl .str) x[j].2.2.1 : Nat) : Int))], [.int .i64 (kk + ((Ty.cnt (.sl .str) x[j].1 : Nat) : Int) + ((Ty.cnt (.sl .byte) x[j].2.1 : Nat) : Int) + ((Ty.cnt (.sl .str) x[j].2.2.1 : Nat) : Int) + 1)], [], [], rfl, rfl, ⟨rdInt_of (by first | rfl | (show _ = kk + (0 : Nat); omega)) (by omega) (by omega), rfl⟩, ⟨rdInt_of (by first | rfl | (show _ = kk + (0 : Nat); omega)) (by omega) (by omega), rfl⟩⟩⟩⟩⟩
        · intro i hi
          have hz : Ty.sz tData = 5 := rfl
          rw [hz] at hi
          rw [hz]
          have hi2 : i = 0 ∨ i = 1 ∨ i = 2 ∨ i = 3 ∨ i = 4 := by omega
          rcases hi2 with rfl | rfl | rfl | rfl | rfl
          all_goals exact ⟨by go_simp, by go_simp⟩
        · intro m hm
          have hz : Ty.sz tData = 5 := rfl
          rw [hz] at hm
          try rw [Nat.mul_one] at hm
          exact ⟨(cell_set_ne _ (by omega) _).trans ((cell_set_ne _ (by omega) _).trans ((C3.out m hm).1)), (frozen_set _ _ _ _).trans ((frozen_set _ _ _ _).trans ((C3.out m hm).2))⟩
        · intro y hy hyb hyn
          exact (Below.heap_setCell _ _ _ _ hyb).trans ((Below.heap_setCell _ _ _ _ hyb).trans (U3.out y hy hyb hyn))
        · exact ((T3).set q2 _).set q2 _
      case measure => simp [intOf]; omega
    · go_wp2
      go_ret
      obtain rfl : j = x.length := by omega
      have e1 := hkk.out
      rw [kAt_all] at e1
      subst e1
      exact hinv.done

theorem owl_Key {w : World} {cs : List Value} {x : Ty.D tKey} {fp : List Nat} (h : Ty.ow w tKey cs x fp) : ∃ (A0 : Option Addr) (c0 : Nat) (f0 : List Nat), cs = [.slice A0 (List.length x.1) c0, .int .i64 x.2] ∧ fp = (f0 ++ []) ∧ (Ty.ow w (.sl .str) [.slice A0 (List.length x.1) c0] x.1 f0) ∧ (-9223372036854775808 ≤ x.2 ∧ x.2 ≤ 9223372036854775807) := by
  obtain ⟨k0, r0, f0, t0, rfl, rfl, g0, q0⟩ := h
  have g1 := q0
  obtain ⟨A0, c0, rfl⟩ := Ty.ow_slv g0
  obtain ⟨⟨rfl, b1⟩, rfl⟩ := g1
  exact ⟨A0, c0, f0, rfl, rfl, g0, b1⟩

set_option maxRecDepth 100000 in
set_option maxHeartbeats 2000000 in
theorem C_laws_markKeyS (w : World) (v : Value) (x : List (Ty.D tKey)) (fp : List Nat) (k : Int) (h : (Ty.sl tKey).ow w [v] x fp) (hn : fp.Nodup) (h0 : 0 ≤ k) (h1 : k + (Ty.cnt (.sl tKey) x : Nat) ≤ 4611686018427387904) :
    Calls Tryz.prog 44 #[v, .int .i64 k] w (RetMk w (.sl tKey) [v] (Ty.mk (.sl tKey) x k) fp (k + (Ty.cnt (.sl tKey) x : Nat))) := by
  obtain ⟨A, c, rfl, hc, hm, hl⟩ := Ty.rd_sl (Ty.ow_rd h)
  have hcnt : Ty.cnt (.sl tKey) x = (List.map (fun d => Ty.cnt tKey d) x).sum := rfl
  unfold maxLen at hm
  go_enter Tryz.func44, Tryz.ntmps44
  go_wp2
  go_loopw [1, 5] (fun kv i wr => ∃ (j : Nat) (kk : Int), j ≤ x.length ∧ kv = .int .i64 kk ∧ Hid (kk = k + (kAt (fun d => Ty.cnt tKey d) x j : Nat)) ∧ i = .int .i64 j ∧ MkInv tKey A c x fp k w j wr) (fun _ i _ => x.length - (intOf i).toNat)
  case atStart => exact ⟨0, k, by omega, rfl, (by simp [kAt_zero] : k = k + ((kAt (fun d => Ty.cnt tKey d) x 0 : Nat) : Int)), rfl, MkInv.zero h⟩
  case round =>
    obtain ⟨j, kk, hj, rfl, hkk, rfl, hinv⟩ := hrel
    by_cases hlt : j < x.length
    · obtain ⟨b, o, fj, ds, rfl, q1, q2, q3, q4, q5, q6, hstep⟩ := hinv.el hn hlt
      obtain ⟨A0, c0, f0, rfl, rfl, g0, b1⟩ := owl_Key q1
      have hsucc := Lib.hid (kAt_succ (fun d => Ty.cnt tKey d) x hlt)
      have hkk0 : 0 ≤ kk := by have := hkk.out; omega
      have hkk1 : kk + (((Ty.cnt (.sl .str) x[j].1 + 1) : Nat) : Int) ≤ 4611686018427387904 := by
        have e1 := hkk.out
        have e2 := hsucc.out
        have e3 := kAt_le (fun d => Ty.cnt tKey d) x (j + 1)
        rw [hcnt] at h1
        have e4 : ((Ty.cnt (.sl .str) x[j].1 + 1)) = Ty.cnt tKey x[j] := rfl
        omega
      have c0_0 : wr.cell? ⟨b, o + j * 2, none⟩ = some (.slice A0 (List.length x[j].1) c0) := by simpa [Ty.sz] using (q6 0 (by decide)).1
      have z0_0 : wr.frozen? ⟨b, o + j * 2, none⟩ = false := by simpa [Ty.sz] using (q6 0 (by decide)).2
      have c0_1 : wr.cell? ⟨b, o + j * 2 + 1, none⟩ = some (.int .i64 x[j].2) := by simpa [Ty.sz] using (q6 1 (by decide)).1
      have z0_1 : wr.frozen? ⟨b, o + j * 2 + 1, none⟩ = false := by simpa [Ty.sz] using (q6 1 (by decide)).2
      have HQ := Lib.hid hstep
      clear hstep q6
      have n_0 : f0.Nodup := by (revert q4; try simp only [List.nodup_append, List.append_nil, List.nil_append]; intro q4; grind)
      have m_0 : ∀ y ∈ f0, y ∈ fp ∧ y ≠ b := fun y hy => q3 y (by simp [hy])
      have T0 : Kept fp wr wr := Kept.refl _ _
      have S0 : b < wr.heap.size := q5
      go_wp2_with fail
      refine (C_laws_markStringS _ _ _ f0 _ (g0) n_0 (by omega) (by omega)).mono ?_
      rintro e u1 ⟨rfl, h0, t1⟩
      have T1 : Kept fp wr u1 := (T0).trans (t1.mono (fun y hy => (m_0 y hy).1))
      have S1 : b < u1.heap.size := Nat.lt_of_lt_of_le q5 T1.size
      have hB1 : u1.heap[b]? = wr.heap[b]? := t1.block b (by (try simp only [World.size_setCell]); exact S0) (fun hy => (m_0 b hy).2 rfl)
      have C1 : Hid (∀ m, (m < o + j * 2 ∨ o + j * 2 + 2 ≤ m) → u1.cell? ⟨b, m, none⟩ = wr.cell? ⟨b, m, none⟩ ∧ u1.frozen? ⟨b, m, none⟩ = wr.frozen? ⟨b, m, none⟩) := fun m hm => ⟨((cell_of_heap hB1 m)), ((frozen_of_heap hB1 m))⟩
      have U1 : Hid (∀ y, y ∈ fp → y ≠ b → y ∉ (f0 ++ []) → u1.heap[y]? = wr.heap[y]?) := fun y hy hyb hyn => (t1.block y (by (try simp only [World.size_setCell]); exact Nat.lt_of_lt_of_le (Ty.ow_lt hinv.1 y hy) T0.size) (fun h => hyn (by simp [h])))
      have c1_0 : u1.cell? ⟨b, o + j * 2, none⟩ = some (.slice A0 (List.length x[j].1) c0) := (cell_of_heap hB1 _).trans (by exact c0_0)
      have z1_0 : u1.frozen? ⟨b, o + j * 2, none⟩ = false := (frozen_of_heap hB1 _).trans (by exact z0_0)
      have c1_1 : u1.cell? ⟨b, o + j * 2 + 1, none⟩ = some (.int .i64 x[j].2) := (cell_of_heap hB1 _).trans (by exact c0_1)
      have z1_1 : u1.frozen? ⟨b, o + j * 2 + 1, none⟩ = false := (frozen_of_heap hB1 _).trans (by exact z0_1)
      clear c0_0 z0_0 c0_1 z0_1
      go_wp2
      go_roundw
      case rel =>
        refine ⟨j + 1, kk + ((Ty.cnt (.sl .str) x[j].1 : Nat) : Int) + 1, by omega, rfl, (by have e1 := hkk.out; have e2 := hsucc.out; have e4 : ((Ty.cnt (.sl .str) x[j].1 + 1)) = Ty.cnt tKey x[j] := rfl; omega : kk + ((Ty.cnt (.sl .str) x[j].1 : Nat) : Int) + 1 = k + ((kAt (fun d => Ty.cnt tKey d) x (j + 1) : Nat) : Int)), by go_num, HQ.out _ [.slice A0 (List.length x[j].1) c0, .int .i64 (kk + ((Ty.cnt (.sl .str) x[j].1 : Nat) : Int))] ?_ rfl ?_ ?_ ?_ ?_⟩
        · rw [← hkk.out]
          exact ⟨[.slice A0 (List.length x[j].1) c0], [.int .i64 (kk + ((Ty.cnt (.sl .str) x[j].1 : Nat) : Int))], f0, [], rfl, rfl, Ty.ow_keep (fun y hy => by rw [Below.heap_setCell _ _ _ _ (m_0 y hy).2]) h0, ⟨rdInt_of (by first | rfl | (show _ = kk + (0 : Nat); omega)) (by omega) (by omega), rfl⟩⟩
        · intro i hi
          have hz : Ty.sz tKey = 2 := rfl
          rw [hz] at hi
          rw [hz]
          have hi2 : i = 0 ∨ i = 1 := by omega
          rcases hi2 with rfl | rfl
          all_goals exact ⟨by go_simp, by go_simp⟩
        · intro m hm
          have hz : Ty.sz tKey = 2 := rfl
          rw [hz] at hm
          try rw [Nat.mul_one] at hm
          exact ⟨(cell_set_ne _ (by omega) _).trans ((C1.out m hm).1), (frozen_set _ _ _ _).trans ((C1.out m hm).2)⟩
        · intro y hy hyb hyn
          exact (Below.heap_setCell _ _ _ _ hyb).trans (U1.out y hy hyb hyn)
        · exact (T1).set q2 _
      case measure => simp [intOf]; omega
    · go_wp2
      go_ret
      obtain rfl : j = x.length := by omega
      have e1 := hkk.out
      rw [kAt_all] at e1
      subst e1
      exact hinv.done

theorem owl_Rule {w : World} {cs : List Value} {x : Ty.D tRule} {fp : List Nat} (h : Ty.ow w tRule cs x fp) : ∃ (A0 : Option Addr) (c0 : Nat) (A1 : Option Addr) (c1 : Nat) (f0 : List Nat) (f1 : List Nat), cs = [.slice A0 (List.length x.1) c0, .slice A1 (List.length x.2) c1] ∧ fp = (f0 ++ f1) ∧ (Ty.ow w (.sl .str) [.slice A0 (List.length x.1) c0] x.1 f0) ∧ (Ty.ow w (.sl .str) [.slice A1 (List.length x.2) c1] x.2 f1) := by
  obtain ⟨k0, r0, f0, t0, rfl, rfl, g0, q0⟩ := h
  have g1 := q0
  obtain ⟨A0, c0, rfl⟩ := Ty.ow_slv g0
  obtain ⟨A1, c1, rfl⟩ := Ty.ow_slv g1
  exact ⟨A0, c0, A1, c1, f0, t0, rfl, rfl, g0, g1⟩

set_option maxRecDepth 100000 in
set_option maxHeartbeats 2000000 in
theorem C_laws_markRuleS (w : World) (v : Value) (x : List (Ty.D tRule)) (fp : List Nat) (k : Int) (h : (Ty.sl tRule).ow w [v] x fp) (hn : fp.Nodup) (h0 : 0 ≤ k) (h1 : k + (Ty.cnt (.sl tRule) x : Nat) ≤ 4611686018427387904) :
    Calls Tryz.prog 45 #[v, .int .i64 k] w (RetMk w (.sl tRule) [v] (Ty.mk (.sl tRule) x k) fp (k + (Ty.cnt (.sl tRule) x : Nat))) := by
  obtain ⟨A, c, rfl, hc, hm, hl⟩ := Ty.rd_sl (Ty.ow_rd h)
  have hcnt : Ty.cnt (.sl tRule) x = (List.map (fun d => Ty.cnt tRule d) x).sum := rfl
  unfold maxLen at hm
  go_enter Tryz.func45, Tryz.ntmps45
  go_wp2
  go_loopw [1, 5] (fun kv i wr => ∃ (j : Nat) (kk : Int), j ≤ x.length ∧ kv = .int .i64 kk ∧ Hid (kk = k + (kAt (fun d => Ty.cnt tRule d) x j : Nat)) ∧ i = .int .i64 j ∧ MkInv tRule A c x fp k w j wr) (fun _ i _ => x.length - (intOf i).toNat)
  case atStart => exact ⟨0, k, by omega, rfl, (by simp [kAt_zero] : k = k + ((kAt (fun d => Ty.cnt tRule d) x 0 : Nat) : Int)), rfl, MkInv.zero h⟩
  case round =>
    obtain ⟨j, kk, hj, rfl, hkk, rfl, hinv⟩ := hrel
    by_cases hlt : j < x.length
    · obtain ⟨b, o, fj, ds, rfl, q1, q2, q3, q4, q5, q6, hstep⟩ := hinv.el hn hlt
      obtain ⟨A0, c0, A1, c1, f0, f1, rfl, rfl, g0, g1⟩ := owl_Rule q1
      have hsucc := Lib.hid (kAt_succ (fun d => Ty.cnt tRule d) x hlt)
      have hkk0 : 0 ≤ kk := by have := hkk.out; omega
      have hkk1 : kk + (((Ty.cnt (.sl .str) x[j].1 + Ty.cnt (.sl .str) x[j].2) : Nat) : Int) ≤ 4611686018427387904 := by
        have e1 := hkk.out
        have e2 := hsucc.out
        have e3 := kAt_le (fun d => Ty.cnt tRule d) x (j + 1)
        rw [hcnt] at h1
        have e4 : ((Ty.cnt (.sl .str) x[j].1 + Ty.cnt (.sl .str) x[j].2)) = Ty.cnt tRule x[j] := rfl
        omega
      have c0_0 : wr.cell? ⟨b, o + j * 2, none⟩ = some (.slice A0 (List.length x[j].1) c0) := by simpa [Ty.sz] using (q6 0 (by decide)).1
      have z0_0 : wr.frozen? ⟨b, o + j * 2, none⟩ = false := by simpa [Ty.sz] using (q6 0 (by decide)).2
      have c0_1 : wr.cell? ⟨b, o + j * 2 + 1, none⟩ = some (.slice A1 (List.length x[j].2) c1) := by simpa [Ty.sz] using (q6 1 (by decide)).1
      have z0_1 : wr.frozen? ⟨b, o + j * 2 + 1, none⟩ = false := by simpa [Ty.sz] using (q6 1 (by decide)).2
      have HQ := Lib.hid hstep
      clear hstep q6
      have d_0_1 : ∀ y ∈ f0, y ∉ f1 := by (intro y hy hy2; revert q4; simp only [List.nodup_append, List.append_nil, List.nil_append, List.mem_append]; intro q4; grind)
      have d_1_0 : ∀ y ∈ f1, y ∉ f0 := by (intro y hy hy2; revert q4; simp only [List.nodup_append, List.append_nil, List.nil_append, List.mem_append]; intro q4; grind)
      have n_0 : f0.Nodup := by (revert q4; try simp only [List.nodup_append, List.append_nil, List.nil_append]; intro q4; grind)
      have m_0 : ∀ y ∈ f0, y ∈ fp ∧ y ≠ b := fun y hy => q3 y (by simp [hy])
      have n_1 : f1.Nodup := by (revert q4; try simp only [List.nodup_append, List.append_nil, List.nil_append]; intro q4; grind)
      have m_1 : ∀ y ∈ f1, y ∈ fp ∧ y ≠ b := fun y hy => q3 y (by simp [hy])
      have T0 : Kept fp wr wr := Kept.refl _ _
      have S0 : b < wr.heap.size := q5
      go_wp2_with fail
      refine (C_laws_markStringS _ _ _ f0 _ (g0) n_0 (by omega) (by omega)).mono ?_
      rintro e u1 ⟨rfl, h0, t1⟩
      have k1_1 := Ty.ow_keep (w' := u1) (fun y hy => by rw [t1.block y (by (try simp only [World.size_setCell]); exact Ty.ow_lt g1 y hy) (d_1_0 y hy)]) g1
      have T1 : Kept fp wr u1 := (T0).trans (t1.mono (fun y hy => (m_0 y hy).1))
      have S1 : b < u1.heap.size := Nat.lt_of_lt_of_le q5 T1.size
      have hB1 : u1.heap[b]? = wr.heap[b]? := t1.block b (by (try simp only [World.size_setCell]); exact S0) (fun hy => (m_0 b hy).2 rfl)
      have C1 : Hid (∀ m, (m < o + j * 2 ∨ o + j * 2 + 2 ≤ m) → u1.cell? ⟨b, m, none⟩ = wr.cell? ⟨b, m, none⟩ ∧ u1.frozen? ⟨b, m, none⟩ = wr.frozen? ⟨b, m, none⟩) := fun m hm => ⟨((cell_of_heap hB1 m)), ((frozen_of_heap hB1 m))⟩
      have U1 : Hid (∀ y, y ∈ fp → y ≠ b → y ∉ (f0 ++ f1) → u1.heap[y]? = wr.heap[y]?) := fun y hy hyb hyn => (t1.block y (by (try simp only [World.size_setCell]); exact Nat.lt_of_lt_of_le (Ty.ow_lt hinv.1 y hy) T0.size) (fun h => hyn (by simp [h])))
      have c1_0 : u1.cell? ⟨b, o + j * 2, none⟩ = some (.slice A0 (List.length x[j].1) c0) := (cell_of_heap hB1 _).trans (by exact c0_0)
      have z1_0 : u1.frozen? ⟨b, o + j * 2, none⟩ = false := (frozen_of_heap hB1 _).trans (by exact z0_0)
      have c1_1 : u1.cell? ⟨b, o + j * 2 + 1, none⟩ = some (.slice A1 (List.length x[j].2) c1) := (cell_of_heap hB1 _).trans (by exact c0_1)
      have z1_1 : u1.frozen? ⟨b, o + j * 2 + 1, none⟩ = false := (frozen_of_heap hB1 _).trans (by exact z0_1)
      clear c0_0 z0_0 c0_1 z0_1
      go_wp2_with fail
      refine (C_laws_markStringS _ _ _ f1 _ (k1_1) n_1 (by omega) (by omega)).mono ?_
      rintro e u2 ⟨rfl, h1, t2⟩
      have k0_2 := Ty.ow_keep (w' := u2) (fun y hy => by rw [t2.block y (by (try simp only [World.size_setCell]); exact Ty.ow_lt h0 y hy) (d_0_1 y hy)]) h0
      have T2 : Kept fp wr u2 := (T1).trans (t2.mono (fun y hy => (m_1 y hy).1))
      have S2 : b < u2.heap.size := Nat.lt_of_lt_of_le q5 T2.size
      have hB2 : u2.heap[b]? = u1.heap[b]? := t2.block b (by (try simp only [World.size_setCell]); exact S1) (fun hy => (m_1 b hy).2 rfl)
      have C2 : Hid (∀ m, (m < o + j * 2 ∨ o + j * 2 + 2 ≤ m) → u2.cell? ⟨b, m, none⟩ = wr.cell? ⟨b, m, none⟩ ∧ u2.frozen? ⟨b, m, none⟩ = wr.frozen? ⟨b, m, none⟩) := fun m hm => ⟨((cell_of_heap hB2 m)).trans (C1.out m hm).1, ((frozen_of_heap hB2 m)).trans (C1.out m hm).2⟩
      have U2 : Hid (∀ y, y ∈ fp → y ≠ b → y ∉ (f0 ++ f1) → u2.heap[y]? = wr.heap[y]?) := fun y hy hyb hyn => (t2.block y (by (try simp only [World.size_setCell]); exact Nat.lt_of_lt_of_le (Ty.ow_lt hinv.1 y hy) T1.size) (fun h => hyn (by simp [h]))).trans (U1.out y hy hyb hyn)
      have c2_0 : u2.cell? ⟨b, o + j * 2, none⟩ = some (.slice A0 (List.length x[j].1) c0) := (cell_of_heap hB2 _).trans (by exact c1_0)
      have z2_0 : u2.frozen? ⟨b, o + j * 2, none⟩ = false := (frozen_of_heap hB2 _).trans (by exact z1_0)
      have c2_1 : u2.cell? ⟨b, o + j * 2 + 1, none⟩ = some (.slice A1 (List.length x[j].2) c1) := (cell_of_heap hB2 _).trans (by exact c1_1)
      have z2_1 : u2.frozen? ⟨b, o + j * 2 + 1, none⟩ = false := (frozen_of_heap hB2 _).trans (by exact z1_1)
      clear c1_0 z1_0 c1_1 z1_1
      go_wp2
      go_roundw
      case rel =>
        refine ⟨j + 1, kk + ((Ty.cnt (.sl .str) x[j].1 : Nat) : Int) + ((Ty.cnt (.sl .str) x[j].2 : Nat) : Int), by omega, rfl, (by have e1 := hkk.out; have e2 := hsucc.out; have e4 : ((Ty.cnt (.sl .str) x[j].1 + Ty.cnt (.sl .str) x[j].2)) = Ty.cnt tRule x[j] := rfl; omega : kk + ((Ty.cnt (.sl .str) x[j].1 : Nat) : Int) + ((Ty.cnt (.sl .str) x[j].2 : Nat) : Int) = k + ((kAt (fun d => Ty.cnt tRule d) x (j + 1) : Nat) : Int)), by go_num, HQ.out _ [.slice A0 (List.length x[j].1) c0, .slice A1 (List.length x[j].2) c1] ?_ rfl ?_ ?_ ?_ ?_⟩
        · rw [← hkk.out]
          exact ⟨[.slice A0 (List.length x[j].1) c0], [.slice A1 (List.length x[j].2) c1], f0, f1, rfl, rfl, k0_2, h1⟩
        · intro i hi
          have hz : Ty.sz tRule = 2 := rfl
          rw [hz] at hi
          rw [hz]
          have hi2 : i = 0 ∨ i = 1 := by omega
          rcases hi2 with rfl | rfl
          all_goals exact ⟨by go_simp, by go_simp⟩
        · intro m hm
          have hz : Ty.sz tRule = 2 := rfl
          rw [hz] at hm
          try rw [Nat.mul_one] at hm
          exact ⟨(C2.out m hm).1, (C2.out m hm).2⟩
        · intro y hy hyb hyn
          exact U2.out y hy hyb hyn
        · exact T2
      case measure => simp [intOf]; omega
    · go_wp2
      go_ret
      obtain rfl : j = x.length := by omega
      have e1 := hkk.out
      rw [kAt_all] at e1
      subst e1
      exact hinv.done

theorem owl_Requester {w : World} {cs : List Value} {x : Ty.D tRequester} {fp : List Nat} (h : Ty.ow w tRequester cs x fp) : cs = [.int .i64 x.1, .int .i64 x.2.1, .int .i64 x.2.2] ∧ fp = ([] ++ ([] ++ [])) ∧ (-9223372036854775808 ≤ x.1 ∧ x.1 ≤ 9223372036854775807) ∧ (-9223372036854775808 ≤ x.2.1 ∧ x.2.1 ≤ 9223372036854775807) ∧ (-9223372036854775808 ≤ x.2.2 ∧ x.2.2 ≤ 9223372036854775807) := by
  obtain ⟨k0, r0, f0, t0, rfl, rfl, g0, q0⟩ := h
  obtain ⟨k1, r1, f1, t1, rfl, rfl, g1, q1⟩ := q0
  have g2 := q1
  obtain ⟨⟨rfl, b0⟩, rfl⟩ := g0
  obtain ⟨⟨rfl, b1⟩, rfl⟩ := g1
  obtain ⟨⟨rfl, b2⟩, rfl⟩ := g2
  exact ⟨rfl, rfl, b0, b1, b2⟩

theorem owl_SeenNonce {w : World} {cs : List Value} {x : Ty.D tSeenNonce} {fp : List Nat} (h : Ty.ow w tSeenNonce cs x fp) : ∃ (A0 : Option Addr) (c0 : Nat) (f0 : List Nat), cs = [.slice A0 (List.length x.1) c0, .int .i64 x.2] ∧ fp = (f0 ++ []) ∧ (Ty.ow w (.sl .str) [.slice A0 (List.length x.1) c0] x.1 f0) ∧ (-9223372036854775808 ≤ x.2 ∧ x.2 ≤ 9223372036854775807) := by
  obtain ⟨k0, r0, f0, t0, rfl, rfl, g0, q0⟩ := h
  have g1 := q0
  obtain ⟨A0, c0, rfl⟩ := Ty.ow_slv g0
  obtain ⟨⟨rfl, b1⟩, rfl⟩ := g1
  exact ⟨A0, c0, f0, rfl, rfl, g0, b1⟩

theorem owl_CacheEntry {w : World} {cs : List Value} {x : Ty.D tCacheEntry} {fp : List Nat} (h : Ty.ow w tCacheEntry cs x fp) : ∃ (A00 : Option Addr) (c00 : Nat) (A01 : Option Addr) (c01 : Nat) (A02 : Option Addr) (c02 : Nat) (f00 : List Nat) (f01 : List Nat) (f02 : List Nat), cs = [.slice A00 (List.length x.1.1) c00, .slice A01 (List.length x.1.2.1) c01, .slice A02 (List.length x.1.2.2.1) c02, .int .i64 x.1.2.2.2.1, .int .i64 x.1.2.2.2.2, .int .i64 x.2] ∧ fp = ((f00 ++ (f01 ++ (f02 ++ ([] ++ [])))) ++ []) ∧ (Ty.ow w (.sl .str) [.slice A00 (List.length x.1.1) c00] x.1.1 f00) ∧ (Ty.ow w (.sl .byte) [.slice A01 (List.length x.1.2.1) c01] x.1.2.1 f01) ∧ (Ty.ow w (.sl .str) [.slice A02 (List.length x.1.2.2.1) c02] x.1.2.2.1 f02) ∧ (-9223372036854775808 ≤ x.1.2.2.2.1 ∧ x.1.2.2.2.1 ≤ 9223372036854775807) ∧ (-9223372036854775808 ≤ x.1.2.2.2.2 ∧ x.1.2.2.2.2 ≤ 9223372036854775807) ∧ (-9223372036854775808 ≤ x.2 ∧ x.2 ≤ 9223372036854775807) := by
  obtain ⟨k0, r0, f0, t0, rfl, rfl, g0, q0⟩ := h
  have g1 := q0
  obtain ⟨k00, r00, f00, t00, rfl, rfl, g00, q00⟩ := g0
  obtain ⟨k01, r01, f01, t01, rfl, rfl, g01, q01⟩ := q00
  obtain ⟨k02, r02, f02, t02, rfl, rfl, g02, q02⟩ := q01
  obtain ⟨k03, r03, f03, t03, rfl, rfl, g03, q03⟩ := q02
  have g04 := q03
  obtain ⟨A00, c00, rfl⟩ := Ty.ow_slv g00
  obtain ⟨A01, c01, rfl⟩ := Ty.ow_slv g01
  obtain ⟨A02, c02, rfl⟩ := Ty.ow_slv g02
  obtain ⟨⟨rfl, b03⟩, rfl⟩ := g03
  obtain ⟨⟨rfl, b04⟩, rfl⟩ := g04
  obtain ⟨⟨rfl, b1⟩, rfl⟩ := g1
  exact ⟨A00, c00, A01, c01, A02, c02, f00, f01, f02, rfl, rfl, g00, g01, g02, b03, b04, b1⟩

theorem owl_ContentStore {w : World} {cs : List Value} {x : Ty.D tContentStore} {fp : List Nat} (h : Ty.ow w tContentStore cs x fp) : ∃ (A1 : Option Addr) (c1 : Nat) (f1 : List Nat), cs = [.int .i64 x.1, .slice A1 (List.length x.2) c1] ∧ fp = ([] ++ f1) ∧ (-9223372036854775808 ≤ x.1 ∧ x.1 ≤ 9223372036854775807) ∧ (Ty.ow w (.sl tCacheEntry) [.slice A1 (List.length x.2) c1] x.2 f1) := by
  obtain ⟨k0, r0, f0, t0, rfl, rfl, g0, q0⟩ := h
  have g1 := q0
  obtain ⟨⟨rfl, b0⟩, rfl⟩ := g0
  obtain ⟨A1, c1, rfl⟩ := Ty.ow_slv g1
  exact ⟨A1, c1, t0, rfl, rfl, b0, g1⟩

theorem owl_PendingInterest {w : World} {cs : List Value} {x : Ty.D tPendingInterest} {fp : List Nat} (h : Ty.ow w tPendingInterest cs x fp) : ∃ (A0 : Option Addr) (c0 : Nat) (A1 : Option Addr) (c1 : Nat) (f0 : List Nat) (f1 : List Nat), cs = [.slice A0 (List.length x.1) c0, .slice A1 (List.length x.2.1) c1, .int .i64 x.2.2] ∧ fp = (f0 ++ (f1 ++ [])) ∧ (Ty.ow w (.sl .str) [.slice A0 (List.length x.1) c0] x.1 f0) ∧ (Ty.ow w (.sl tRequester) [.slice A1 (List.length x.2.1) c1] x.2.1 f1) ∧ (-9223372036854775808 ≤ x.2.2 ∧ x.2.2 ≤ 9223372036854775807) := by
  obtain ⟨k0, r0, f0, t0, rfl, rfl, g0, q0⟩ := h
  obtain ⟨k1, r1, f1, t1, rfl, rfl, g1, q1⟩ := q0
  have g2 := q1
  obtain ⟨A0, c0, rfl⟩ := Ty.ow_slv g0
  obtain ⟨A1, c1, rfl⟩ := Ty.ow_slv g1
  obtain ⟨⟨rfl, b2⟩, rfl⟩ := g2
  exact ⟨A0, c0, A1, c1, f0, f1, rfl, rfl, g0, g1, b2⟩

theorem owl_TrustPolicy {w : World} {cs : List Value} {x : Ty.D tTrustPolicy} {fp : List Nat} (h : Ty.ow w tTrustPolicy cs x fp) : ∃ (A0 : Option Addr) (c0 : Nat) (A1 : Option Addr) (c1 : Nat) (A2 : Option Addr) (c2 : Nat) (A3 : Option Addr) (c3 : Nat) (f0 : List Nat) (f1 : List Nat) (f2 : List Nat) (f3 : List Nat), cs = [.slice A0 (List.length x.1) c0, .slice A1 (List.length x.2.1) c1, .slice A2 (List.length x.2.2.1) c2, .slice A3 (List.length x.2.2.2) c3] ∧ fp = (f0 ++ (f1 ++ (f2 ++ f3))) ∧ (Ty.ow w (.sl tKey) [.slice A0 (List.length x.1) c0] x.1 f0) ∧ (Ty.ow w (.sl tRule) [.slice A1 (List.length x.2.1) c1] x.2.1 f1) ∧ (Ty.ow w (.sl (.sl .str)) [.slice A2 (List.length x.2.2.1) c2] x.2.2.1 f2) ∧ (Ty.ow w (.sl tData) [.slice A3 (List.length x.2.2.2) c3] x.2.2.2 f3) := by
  obtain ⟨k0, r0, f0, t0, rfl, rfl, g0, q0⟩ := h
  obtain ⟨k1, r1, f1, t1, rfl, rfl, g1, q1⟩ := q0
  obtain ⟨k2, r2, f2, t2, rfl, rfl, g2, q2⟩ := q1
  have g3 := q2
  obtain ⟨A0, c0, rfl⟩ := Ty.ow_slv g0
  obtain ⟨A1, c1, rfl⟩ := Ty.ow_slv g1
  obtain ⟨A2, c2, rfl⟩ := Ty.ow_slv g2
  obtain ⟨A3, c3, rfl⟩ := Ty.ow_slv g3
  exact ⟨A0, c0, A1, c1, A2, c2, A3, c3, f0, f1, f2, t2, rfl, rfl, g0, g1, g2, g3⟩

set_option maxHeartbeats 1000000 in
theorem C_laws_markTrustPolicy (w : World) (cs : List Value) (x : Ty.D tTrustPolicy) (fp : List Nat) (k : Int) (h : Ty.ow w tTrustPolicy cs x fp) (hn : fp.Nodup) (h0 : 0 ≤ k) (h1 : k + (Ty.cntv tTrustPolicy x : Nat) ≤ 4611686018427387904) :
    Calls Tryz.prog 13 #[.agg cs.toArray, .int .i64 k] w (RetMk w tTrustPolicy cs (Ty.mkv tTrustPolicy x k) fp (k + (Ty.cntv tTrustPolicy x : Nat))) := by
  obtain ⟨k0, r0, f0, t0, rfl, rfl, g0, q0⟩ := h
  obtain ⟨k1, r1, f1, t1, rfl, rfl, g1, q1⟩ := q0
  obtain ⟨k2, r2, f2, t2, rfl, rfl, g2, q2⟩ := q1
  have g3 := q2
  obtain ⟨A0, c0, rfl⟩ := Ty.ow_slv g0
  obtain ⟨A1, c1, rfl⟩ := Ty.ow_slv g1
  obtain ⟨A2, c2, rfl⟩ := Ty.ow_slv g2
  obtain ⟨A3, c3, rfl⟩ := Ty.ow_slv g3
  have h1' : k + (((Ty.cntv (.sl tKey) x.1 + (Ty.cntv (.sl tRule) x.2.1 + (Ty.cntv (.sl (.sl .str)) x.2.2.1 + Ty.cntv (.sl tData) x.2.2.2))) : Nat) : Int) ≤ 4611686018427387904 := h1
  have cv0 : Ty.cntv (.sl tKey) x.1 = Ty.cnt (.sl tKey) x.1 := rfl
  have cv1 : Ty.cntv (.sl tRule) x.2.1 = Ty.cnt (.sl tRule) x.2.1 := rfl
  have cv2 : Ty.cntv (.sl (.sl .str)) x.2.2.1 = Ty.cnt (.sl (.sl .str)) x.2.2.1 := rfl
  have cv3 : Ty.cntv (.sl tData) x.2.2.2 = Ty.cnt (.sl tData) x.2.2.2 := rfl
  go_enter Tryz.func13, Tryz.ntmps13
  have n_0 : f0.Nodup := by (revert hn; try simp only [List.nodup_append, List.append_nil, List.nil_append]; intro hn; grind)
  have d_0_1 : ∀ y ∈ f0, y ∉ f1 := by (intro y hy hy2; revert hn; simp only [List.nodup_append, List.append_nil, List.nil_append, List.mem_append]; intro hn; grind)
  have d_0_2 : ∀ y ∈ f0, y ∉ f2 := by (intro y hy hy2; revert hn; simp only [List.nodup_append, List.append_nil, List.nil_append, List.mem_append]; intro hn; grind)
  have d_0_3 : ∀ y ∈ f0, y ∉ t2 := by (intro y hy hy2; revert hn; simp only [List.nodup_append, List.append_nil, List.nil_append, List.mem_append]; intro hn; grind)
  have n_1 : f1.Nodup := by (revert hn; try simp only [List.nodup_append, List.append_nil, List.nil_append]; intro hn; grind)
  have d_1_0 : ∀ y ∈ f1, y ∉ f0 := by (intro y hy hy2; revert hn; simp only [List.nodup_append, List.append_nil, List.nil_append, List.mem_append]; intro hn; grind)
  have d_1_2 : ∀ y ∈ f1, y ∉ f2 := by (intro y hy hy2; revert hn; simp only [List.nodup_append, List.append_nil, List.nil_append, List.mem_append]; intro hn; grind)
  have d_1_3 : ∀ y ∈ f1, y ∉ t2 := by (intro y hy hy2; revert hn; simp only [List.nodup_append, List.append_nil, List.nil_append, List.mem_append]; intro hn; grind)
  have n_2 : f2.Nodup := by (revert hn; try simp only [List.nodup_append, List.append_nil, List.nil_append]; intro hn; grind)
  have d_2_0 : ∀ y ∈ f2, y ∉ f0 := by (intro y hy hy2; revert hn; simp only [List.nodup_append, List.append_nil, List.nil_append, List.mem_append]; intro hn; grind)
  have d_2_1 : ∀ y ∈ f2, y ∉ f1 := by (intro y hy hy2; revert hn; simp only [List.nodup_append, List.append_nil, List.nil_append, List.mem_append]; intro hn; grind)
  have d_2_3 : ∀ y ∈ f2, y ∉ t2 := by (intro y hy hy2; revert hn; simp only [List.nodup_append, List.append_nil, List.nil_append, List.mem_append]; intro hn; grind)
  have n_3 : t2.Nodup := by (revert hn; try simp only [List.nodup_append, List.append_nil, List.nil_append]; intro hn; grind)
  have d_3_0 : ∀ y ∈ t2, y ∉ f0 := by (intro y hy hy2; revert hn; simp only [List.nodup_append, List.append_nil, List.nil_append, List.mem_append]; intro hn; grind)
  have d_3_1 : ∀ y ∈ t2, y ∉ f1 := by (intro y hy hy2; revert hn; simp only [List.nodup_append, List.append_nil, List.nil_append, List.mem_append]; intro hn; grind)
  have d_3_2 : ∀ y ∈ t2, y ∉ f2 := by (intro y hy hy2; revert hn; simp only [List.nodup_append, List.append_nil, List.nil_append, List.mem_append]; intro hn; grind)
  go_wp2_with fail
  refine (C_laws_markKeyS _ _ _ f0 _ (Ty.ow_keep (fun y hy => Below.heap_alloc _ _ _ (Ty.ow_lt g0 y hy)) g0) n_0 (by omega) (by omega)).mono ?_
  rintro e u1 ⟨rfl, h0, k1_⟩
  have x1_1 := Ty.ow_keep (w' := u1) (fun y hy => (k1_.block y (by simp only [World.size_alloc]; exact Nat.lt_succ_of_lt (Ty.ow_lt g1 y hy)) (d_1_0 y hy)).trans (Below.heap_alloc _ _ _ (Ty.ow_lt g1 y hy))) g1
  have x2_1 := Ty.ow_keep (w' := u1) (fun y hy => (k1_.block y (by simp only [World.size_alloc]; exact Nat.lt_succ_of_lt (Ty.ow_lt g2 y hy)) (d_2_0 y hy)).trans (Below.heap_alloc _ _ _ (Ty.ow_lt g2 y hy))) g2
  have x3_1 := Ty.ow_keep (w' := u1) (fun y hy => (k1_.block y (by simp only [World.size_alloc]; exact Nat.lt_succ_of_lt (Ty.ow_lt g3 y hy)) (d_3_0 y hy)).trans (Below.heap_alloc _ _ _ (Ty.ow_lt g3 y hy))) g3
  have K1 : Kept (f0 ++ (f1 ++ (f2 ++ t2))) w u1 := (Kept.of_below (by repeat' (first | (with_reducible exact Below.refl _ _) | (with_reducible assumption) | (with_reducible refine bel_set ?_ (by (try dsimp only); omega) _) | (with_reducible refine bel_alloc ?_ _) | (with_reducible refine bel_drewN ?_ _) | (with_reducible refine bel_drew ?_)))).trans (k1_.mono (fun y hy => by simp [hy]))
  have hbx1 : u1.heap[w.heap.size]? = (w.alloc (.cells #[.slice A0 (List.length x.1) c0, .slice A1 (List.length x.2.1) c1, .slice A2 (List.length x.2.2.1) c2, .slice A3 (List.length x.2.2.2) c3] 43)).heap[w.heap.size]? := k1_.block _ (by simp) (fun hy => by have := Ty.ow_lt (Ty.ow_keep (w := w) (w' := w) (fun _ _ => rfl) g0) _ hy; omega)
  have hcl1 : ∀ o, u1.cell? ⟨w.heap.size, o, none⟩ = (w.alloc (.cells #[.slice A0 (List.length x.1) c0, .slice A1 (List.length x.2.1) c1, .slice A2 (List.length x.2.2.1) c2, .slice A3 (List.length x.2.2.2) c3] 43)).cell? ⟨w.heap.size, o, none⟩ := fun o => cell_of_heap hbx1 o
  go_wp2_with fail
  refine (C_laws_markRuleS _ _ _ f1 _ (x1_1) n_1 (by omega) (by omega)).mono ?_
  rintro e u2 ⟨rfl, h1, k2_⟩
  have x0_2 := Ty.ow_keep (w' := u2) (fun y hy => (k2_.block y (by exact Ty.ow_lt h0 y hy) (d_0_1 y hy))) h0
  have x2_2 := Ty.ow_keep (w' := u2) (fun y hy => (k2_.block y (by exact Ty.ow_lt x2_1 y hy) (d_2_1 y hy))) x2_1
  have x3_2 := Ty.ow_keep (w' := u2) (fun y hy => (k2_.block y (by exact Ty.ow_lt x3_1 y hy) (d_3_1 y hy))) x3_1
  have K2 : Kept (f0 ++ (f1 ++ (f2 ++ t2))) w u2 := K1.trans (k2_.mono (fun y hy => by simp [hy]))
  have hbx2 : u2.heap[w.heap.size]? = u1.heap[w.heap.size]? := k2_.block _ (by have := k1_.size; simp only [World.size_alloc] at *; omega) (fun hy => by have := Ty.ow_lt g1 _ hy; omega)
  have hcl2 : ∀ o, u2.cell? ⟨w.heap.size, o, none⟩ = (w.alloc (.cells #[.slice A0 (List.length x.1) c0, .slice A1 (List.length x.2.1) c1, .slice A2 (List.length x.2.2.1) c2, .slice A3 (List.length x.2.2.2) c3] 43)).cell? ⟨w.heap.size, o, none⟩ := fun o => (cell_of_heap hbx2 o).trans (hcl1 o)
  go_wp2_with fail
  refine (C_laws_markNameS _ _ _ f2 _ (x2_2) n_2 (by omega) (by omega)).mono ?_
  rintro e u3 ⟨rfl, h2, k3_⟩
  have x0_3 := Ty.ow_keep (w' := u3) (fun y hy => (k3_.block y (by exact Ty.ow_lt x0_2 y hy) (d_0_2 y hy))) x0_2
  have x1_3 := Ty.ow_keep (w' := u3) (fun y hy => (k3_.block y (by exact Ty.ow_lt h1 y hy) (d_1_2 y hy))) h1
  have x3_3 := Ty.ow_keep (w' := u3) (fun y hy => (k3_.block y (by exact Ty.ow_lt x3_2 y hy) (d_3_2 y hy))) x3_2
  have K3 : Kept (f0 ++ (f1 ++ (f2 ++ t2))) w u3 := K2.trans (k3_.mono (fun y hy => by simp [hy]))
  have hbx3 : u3.heap[w.heap.size]? = u2.heap[w.heap.size]? := k3_.block _ (by have := k1_.size; have := k2_.size; simp only [World.size_alloc] at *; omega) (fun hy => by have := Ty.ow_lt g2 _ hy; omega)
  have hcl3 : ∀ o, u3.cell? ⟨w.heap.size, o, none⟩ = (w.alloc (.cells #[.slice A0 (List.length x.1) c0, .slice A1 (List.length x.2.1) c1, .slice A2 (List.length x.2.2.1) c2, .slice A3 (List.length x.2.2.2) c3] 43)).cell? ⟨w.heap.size, o, none⟩ := fun o => (cell_of_heap hbx3 o).trans (hcl2 o)
  go_wp2_with fail
  refine (C_laws_markDataS _ _ _ t2 _ (x3_3) n_3 (by omega) (by omega)).mono ?_
  rintro e u4 ⟨rfl, h3, k4_⟩
  have x0_4 := Ty.ow_keep (w' := u4) (fun y hy => (k4_.block y (by exact Ty.ow_lt x0_3 y hy) (d_0_3 y hy))) x0_3
  have x1_4 := Ty.ow_keep (w' := u4) (fun y hy => (k4_.block y (by exact Ty.ow_lt x1_3 y hy) (d_1_3 y hy))) x1_3
  have x2_4 := Ty.ow_keep (w' := u4) (fun y hy => (k4_.block y (by exact Ty.ow_lt h2 y hy) (d_2_3 y hy))) h2
  have K4 : Kept (f0 ++ (f1 ++ (f2 ++ t2))) w u4 := K3.trans (k4_.mono (fun y hy => by simp [hy]))
  have hbx4 : u4.heap[w.heap.size]? = u3.heap[w.heap.size]? := k4_.block _ (by have := k1_.size; have := k2_.size; have := k3_.size; simp only [World.size_alloc] at *; omega) (fun hy => by have := Ty.ow_lt g3 _ hy; omega)
  have hcl4 : ∀ o, u4.cell? ⟨w.heap.size, o, none⟩ = (w.alloc (.cells #[.slice A0 (List.length x.1) c0, .slice A1 (List.length x.2.1) c1, .slice A2 (List.length x.2.2.1) c2, .slice A3 (List.length x.2.2.2) c3] 43)).cell? ⟨w.heap.size, o, none⟩ := fun o => (cell_of_heap hbx4 o).trans (hcl3 o)
  go_wp2
  go_ret
  refine ⟨ret_int (by show _ = k + (((Ty.cntv (.sl tKey) x.1 + (Ty.cntv (.sl tRule) x.2.1 + (Ty.cntv (.sl (.sl .str)) x.2.2.1 + Ty.cntv (.sl tData) x.2.2.2))) : Nat) : Int); omega), ?_, K4⟩
  exact ⟨[.slice A0 (List.length x.1) c0], [.slice A1 (List.length x.2.1) c1, .slice A2 (List.length x.2.2.1) c2, .slice A3 (List.length x.2.2.2) c3], f0, (f1 ++ (f2 ++ t2)), rfl, rfl, x0_4, ⟨[.slice A1 (List.length x.2.1) c1], [.slice A2 (List.length x.2.2.1) c2, .slice A3 (List.length x.2.2.2) c3], f1, (f2 ++ t2), rfl, rfl, x1_4, ⟨[.slice A2 (List.length x.2.2.1) c2], [.slice A3 (List.length x.2.2.2) c3], f2, t2, rfl, rfl, x2_4, h3⟩⟩⟩

end Go.Proofs.YtemicfeiejfdkaaGreat
