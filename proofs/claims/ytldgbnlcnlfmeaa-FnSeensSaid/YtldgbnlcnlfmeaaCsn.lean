/- Copies of seen nonces. -/
import Derived.Test.YtldgbnlcnlfmeaaCpy
namespace Go.Proofs.Ytldgbnlcnlfmeaa
open Go.RowKit
set_option linter.unusedVariables false
set_option linter.unusedSimpArgs false

theorem ow_SeenNonce_mk {w : World} {A : Option Addr} {c : Nat} {x : Ty.D tSeenNonce} {f : List Nat} (h : (Ty.sl .str).ow w [.slice A (List.length x.1) c] x.1 f) (b : -9223372036854775808 ≤ x.2 ∧ x.2 ≤ 9223372036854775807) :
    Ty.ow w tSeenNonce [.slice A (List.length x.1) c, .int .i64 x.2] x f := ⟨[_], [_], f, [], rfl, (List.append_nil _).symm, h, ⟨rfl, b⟩, rfl⟩
set_option maxHeartbeats 2000000 in
theorem C_impl_copySeen (w : World) (v : Value) (x : List (Ty.D tSeenNonce)) (h : (Ty.sl tSeenNonce).rd w [v] x) (s0 : Ty.bulk (.sl tSeenNonce) x ≤ 1000000000) :
    Calls Try.prog 70 #[v] w (RetDRow tSeenNonce w 38 x) := by
  obtain ⟨A, c, rfl, hc, hm, hn⟩ := Ty.rd_sl h
  have hxl := Ty.bulk_len s0
  go_enter Try.func70, Try.ntmps70
  go_wp2
  go_loopw [3, 9] (fun l i wr => ∃ k : Nat, k ≤ x.length ∧ i = .int .i64 k ∧ DRow tSeenNonce wr w.heap.size 38 l (x.take k) ∧ Below w.heap.size w wr) (fun _ i _ => x.length - (intOf i).toNat)
  case atStart => exact ⟨0, by omega, rfl, DRow.lit0 tSeenNonce w 38 (Nat.le_refl _), (by repeat' (first | (with_reducible exact Below.refl _ _) | (with_reducible assumption) | (with_reducible refine bel_set ?_ (by (try dsimp only); omega) _) | (with_reducible refine bel_alloc ?_ _) | (with_reducible refine bel_drewN ?_ _) | (with_reducible refine bel_drew ?_)))⟩
  case round =>
    obtain ⟨k, hk, rfl, hr, hb⟩ := hrel
    have HR := Lib.hid hr
    clear hr
    by_cases hlt : k < x.length
    · obtain ⟨b, o, ds, rfl, hl, hcell, hrd⟩ := Ty.rd_at (Ty.rd_below hb h) hlt
      obtain ⟨Aa0, ca0, rfl, sag0, sag1⟩ := rd_SeenNonce hrd
      have e0 : wr.cell? ⟨b, o + k * 2, none⟩ = some (.slice Aa0 (List.length x[k].1) ca0) := by simpa [Ty.sz] using hcell 0 (by decide)
      have e1 : wr.cell? ⟨b, o + k * 2 + 1, none⟩ = some (.int .i64 x[k].2) := by simpa [Ty.sz] using hcell 1 (by decide)
      clear hcell hl
      have hbk : Ty.bulk tSeenNonce x[k] ≤ 1000000000 := Ty.bulk_at s0 hlt
      have hbk2 : x[k].1.length ≤ 1000000000000 := by
        have h1 : Ty.bulk (.sl .str) x[k].1 + 0 ≤ 1000000000 := hbk
        have := Ty.bulk_len (e := .str) (x := x[k].1) (n := 1000000000) (by omega)
        omega
      have HP := Lib.hid (List.take_succ_eq_append_getElem hlt)
      have HL := Lib.hid (show (x.take k).length = k from by rw [List.length_take]; omega)
      have HS : Hid (∀ W, Below (wr.alloc (.cells #[.slice Aa0 (List.length x[k].1) ca0, .int .i64 x[k].2] 38)).heap.size (wr.alloc (.cells #[.slice Aa0 (List.length x[k].1) ca0, .int .i64 x[k].2] 38)) W →
          Below w.heap.size w W ∧ W.cell? ⟨wr.heap.size, 0, none⟩ = some (.slice Aa0 (List.length x[k].1) ca0) ∧ W.cell? ⟨wr.heap.size, 1, none⟩ = some (.int .i64 x[k].2)) := fun W hW =>
        ⟨bel_trans hb (bel_trans (by repeat' (first | (with_reducible exact Below.refl _ _) | (with_reducible assumption) | (with_reducible refine bel_set ?_ (by (try dsimp only); omega) _) | (with_reducible refine bel_alloc ?_ _) | (with_reducible refine bel_drewN ?_ _) | (with_reducible refine bel_drew ?_))) hW), (hW.cell (by simp only [World.size_alloc]; omega)).trans (cell_new wr _ _ 0 rfl), (hW.cell (by simp only [World.size_alloc]; omega)).trans (cell_new wr _ _ 1 rfl)⟩
      have hv0 : Below (wr.alloc (.cells #[.slice Aa0 (List.length x[k].1) ca0, .int .i64 x[k].2] 38)).heap.size (wr.alloc (.cells #[.slice Aa0 (List.length x[k].1) ca0, .int .i64 x[k].2] 38)) (wr.alloc (.cells #[.slice Aa0 (List.length x[k].1) ca0, .int .i64 x[k].2] 38)) := Below.refl _ _
      go_wp2_with fail
      set_option maxRecDepth 100000 in go_region_held3 (fun W => Below w.heap.size w W ∧ W.cell? ⟨wr.heap.size, 0, none⟩ = some (.slice Aa0 (List.length x[k].1) ca0) ∧ W.cell? ⟨wr.heap.size, 1, none⟩ = some (.int .i64 x[k].2)) (first | (exact hz) | (exact HS.out _ (by repeat' (first | (with_reducible exact Below.refl _ _) | (with_reducible assumption) | (with_reducible refine bel_set ?_ (by (try dsimp only); omega) _) | (with_reducible refine bel_alloc ?_ _) | (with_reducible refine bel_drewN ?_ _) | (with_reducible refine bel_drew ?_)))))
        (first
          | (go_at_call 71; (with_reducible refine (C_impl_copyName _ _ x[k].1 (Ty.rd_below (bel_trans (bel_alloc (Below.refl _ _) _) (by repeat' (first | (with_reducible exact Below.refl _ _) | (with_reducible assumption) | (with_reducible refine bel_set ?_ (by (try dsimp only); omega) _) | (with_reducible refine bel_alloc ?_ _) | (with_reducible refine bel_drewN ?_ _) | (with_reducible refine bel_drew ?_)))) sag0) hbk2).mono ?_); rintro e w1 ⟨cs1, fp1, rfl, how1, hfr1, hb1⟩; obtain ⟨A1, c1, rfl⟩ := Ty.ow_slv how1; have hv1 : Below (wr.alloc (.cells #[.slice Aa0 (List.length x[k].1) ca0, .int .i64 x[k].2] 38)).heap.size (wr.alloc (.cells #[.slice Aa0 (List.length x[k].1) ca0, .int .i64 x[k].2] 38)) w1 := bel_trans (by repeat' (first | (with_reducible exact Below.refl _ _) | (with_reducible assumption) | (with_reducible refine bel_set ?_ (by (try dsimp only); omega) _) | (with_reducible refine bel_alloc ?_ _) | (with_reducible refine bel_drewN ?_ _) | (with_reducible refine bel_drew ?_))) hb1)
          | ((refine step_append_drow (by rfl) _ _ 24 (by rfl) wr w.heap.size 38 info_SeenNonce rfl Try.underlying24 _ _ (x.take k) [x[k]] (by rfl) (by rfl) HR.out (bel_trans (bel_alloc (Below.refl _ _) _) (by repeat' (first | (with_reducible exact Below.refl _ _) | (with_reducible assumption) | (with_reducible refine bel_set ?_ (by (try dsimp only); omega) _) | (with_reducible refine bel_alloc ?_ _) | (with_reducible refine bel_drewN ?_ _) | (with_reducible refine bel_drew ?_)))) (Src.lit 38 (ow_SeenNonce_mk how1 sag1) (hfr1.mono (by simp only [size_drewN, World.size_drew, World.size_alloc]; omega) (Nat.le_refl _))) (by rw [HL.out, List.length_singleton]; omega) (by rw [HL.out, List.length_singleton]; unfold maxLen; omega) hb.size ?_); intro v' w' hr' hg'; have hq := HS.out _ (bel_alloc hv1 (.cells #[.slice A1 (List.length x[k].1) c1, .int .i64 x[k].2] 38)); have hne : some wr.heap.size ≠ u3.ownBlock := fun e => Nat.lt_irrefl _ (HR.out.block _ e.symm).2; have hz : Below w.heap.size w w' ∧ w'.cell? ⟨wr.heap.size, 0, none⟩ = some (.slice Aa0 (List.length x[k].1) ca0) ∧ w'.cell? ⟨wr.heap.size, 1, none⟩ = some (.int .i64 x[k].2) := ⟨bel_grown hq.1 hq.1.size hg' (fun g hg => (HR.out.block g hg).1), hg'.cell hq.2.1 hne, hg'.cell hq.2.2 hne⟩))
      have HR' := Lib.hid hr'
      clear hr'
      go_wp2
      go_roundw
      case rel => exact ⟨k + 1, by omega, by go_num, by rw [HP.out]; exact HR'.out, hz.1⟩
      case measure => simp [intOf]; omega
    · have HE : Hid (x.take k = x) := List.take_of_length_le (by omega)
      go_wp2
      go_ret
      exact ⟨_, rfl, by rw [HE.out] at HR; exact HR.out, hb⟩
set_option maxHeartbeats 2000000 in
theorem C_spec_l13Seen (w : World) (v : Value) (x : List (Ty.D tSeenNonce)) (h : (Ty.sl tSeenNonce).rd w [v] x) (s0 : Ty.bulk (.sl tSeenNonce) x ≤ 1000000000) :
    Calls Try.prog 72 #[v] w (RetDRow tSeenNonce w 38 x) := by
  obtain ⟨A, c, rfl, hc, hm, hn⟩ := Ty.rd_sl h
  have hxl := Ty.bulk_len s0
  go_enter Try.func72, Try.ntmps72
  go_wp2
  go_loopw [3, 4] (fun l i wr => ∃ k : Nat, k ≤ x.length ∧ i = .int .i64 k ∧ DRow tSeenNonce wr w.heap.size 38 l (x.take k) ∧ Below w.heap.size w wr) (fun _ i _ => x.length - (intOf i).toNat)
  case atStart => exact ⟨0, by omega, rfl, DRow.lit0 tSeenNonce w 38 (Nat.le_refl _), (by repeat' (first | (with_reducible exact Below.refl _ _) | (with_reducible assumption) | (with_reducible refine bel_set ?_ (by (try dsimp only); omega) _) | (with_reducible refine bel_alloc ?_ _) | (with_reducible refine bel_drewN ?_ _) | (with_reducible refine bel_drew ?_)))⟩
  case round =>
    obtain ⟨k, hk, rfl, hr, hb⟩ := hrel
    have HR := Lib.hid hr
    clear hr
    by_cases hlt : k < x.length
    · obtain ⟨b, o, ds, rfl, hl, hcell, hrd⟩ := Ty.rd_at (Ty.rd_below hb h) hlt
      obtain ⟨Aa0, ca0, rfl, sag0, sag1⟩ := rd_SeenNonce hrd
      have e0 : wr.cell? ⟨b, o + k * 2, none⟩ = some (.slice Aa0 (List.length x[k].1) ca0) := by simpa [Ty.sz] using hcell 0 (by decide)
      have e1 : wr.cell? ⟨b, o + k * 2 + 1, none⟩ = some (.int .i64 x[k].2) := by simpa [Ty.sz] using hcell 1 (by decide)
      clear hcell hl
      have hbk : Ty.bulk tSeenNonce x[k] ≤ 1000000000 := Ty.bulk_at s0 hlt
      have hbk2 : x[k].1.length ≤ 1000000000000 := by
        have h1 : Ty.bulk (.sl .str) x[k].1 + 0 ≤ 1000000000 := hbk
        have := Ty.bulk_len (e := .str) (x := x[k].1) (n := 1000000000) (by omega)
        omega
      have HP := Lib.hid (List.take_succ_eq_append_getElem hlt)
      have HL := Lib.hid (show (x.take k).length = k from by rw [List.length_take]; omega)
      go_wp2_with fail
      refine (C_spec_l4Copy _ _ x[k].1 sag0 hbk2).mono ?_
      rintro e w1 ⟨cs1, fp1, rfl, how1, hfr1, hb1⟩
      obtain ⟨A1, c1, rfl⟩ := Ty.ow_slv how1
      have hlb0 : b < w.heap.size := by
        obtain ⟨b', o', ds', he', hl', hc', _⟩ := Ty.rd_at h hlt
        injection he' with he'
        injection he' with he1 he2
        have := hc' 0 (by decide)
        rw [List.getElem?_eq_getElem (by rw [hl']; decide)] at this
        have := World.block_lt_of_cell? w _ this
        rw [he1]; exact this
      have hlb1 : b < wr.heap.size := Nat.lt_of_lt_of_le hlb0 hb.size
      have hlb : b < w1.heap.size := Nat.lt_of_lt_of_le hlb1 hb1.size
      have q1 : w1.cell? ⟨b, o + k * 2 + 1, none⟩ = some (.int .i64 x[k].2) := (hb1.cell (p := ⟨b, o + k * 2 + 1, none⟩) hlb1).trans e1
      have HS : Hid (∀ W, Below (w1.alloc (.cells #[.slice A1 (List.length x[k].1) c1] 27)).heap.size (w1.alloc (.cells #[.slice A1 (List.length x[k].1) c1] 27)) W →
          Below w.heap.size w W ∧ W.cell? ⟨w1.heap.size, 0, none⟩ = some (.slice A1 (List.length x[k].1) c1) ∧ W.cell? ⟨b, o + k * 2 + 1, none⟩ = some (.int .i64 x[k].2)) := fun W hW =>
        ⟨bel_trans hb (bel_trans hb1 (bel_trans (by repeat' (first | (with_reducible exact Below.refl _ _) | (with_reducible assumption) | (with_reducible refine bel_set ?_ (by (try dsimp only); omega) _) | (with_reducible refine bel_alloc ?_ _) | (with_reducible refine bel_drewN ?_ _) | (with_reducible refine bel_drew ?_))) hW)), (hW.cell (by simp only [World.size_alloc]; omega)).trans (cell_new w1 _ _ 0 rfl), (hW.cell (by simp only [World.size_alloc]; omega)).trans ((World.cell?_alloc_lt _ _ _ hlb).trans q1)⟩
      have hv0 : Below (w1.alloc (.cells #[.slice A1 (List.length x[k].1) c1] 27)).heap.size (w1.alloc (.cells #[.slice A1 (List.length x[k].1) c1] 27)) (w1.alloc (.cells #[.slice A1 (List.length x[k].1) c1] 27)) := Below.refl _ _
      have sag1' := sag1
      go_wp2_with fail
      set_option maxRecDepth 100000 in go_region_held3 (fun W => Below w.heap.size w W ∧ W.cell? ⟨w1.heap.size, 0, none⟩ = some (.slice A1 (List.length x[k].1) c1) ∧ W.cell? ⟨b, o + k * 2 + 1, none⟩ = some (.int .i64 x[k].2)) (first | (exact hz) | (exact HS.out _ (by repeat' (first | (with_reducible exact Below.refl _ _) | (with_reducible assumption) | (with_reducible refine bel_set ?_ (by (try dsimp only); omega) _) | (with_reducible refine bel_alloc ?_ _) | (with_reducible refine bel_drewN ?_ _) | (with_reducible refine bel_drew ?_)))))
        (first
          | ((refine step_append_drow (by rfl) _ _ 24 (by rfl) wr w.heap.size 38 info_SeenNonce rfl Try.underlying24 _ _ (x.take k) [x[k]] (by rfl) (by rfl) HR.out (bel_trans hb1 (bel_trans (bel_alloc (Below.refl _ _) _) (by repeat' (first | (with_reducible exact Below.refl _ _) | (with_reducible assumption) | (with_reducible refine bel_set ?_ (by (try dsimp only); omega) _) | (with_reducible refine bel_alloc ?_ _) | (with_reducible refine bel_drewN ?_ _) | (with_reducible refine bel_drew ?_))))) (Src.drew (Src.litE 38 (ow_SeenNonce_mk (Ty.ow_bel (by repeat' (first | (with_reducible exact Below.refl _ _) | (with_reducible assumption) | (with_reducible refine bel_set ?_ (by (try dsimp only); omega) _) | (with_reducible refine bel_alloc ?_ _) | (with_reducible refine bel_drewN ?_ _) | (with_reducible refine bel_drew ?_))) how1) sag1) (hfr1.mono (Nat.le_refl _) (by simp only [size_drewN, World.size_drew, World.size_alloc]; omega)) (by simp only [World.size_alloc]))) (by rw [HL.out, List.length_singleton]; omega) (by rw [HL.out, List.length_singleton]; unfold maxLen; omega) hb.size ?_); intro v' w' hr' hg'; have hq := HS.out _ (bel_drew (bel_alloc hv0 (.cells #[.slice A1 (List.length x[k].1) c1, .int .i64 x[k].2] 38))); have hne : some w1.heap.size ≠ u3.ownBlock := fun e => (by have := (HR.out.block _ e.symm).2; have := hb1.size; omega); have hne2 : some b ≠ u3.ownBlock := fun e => (by have := (HR.out.block _ e.symm).1; omega); have hz : Below w.heap.size w w' ∧ w'.cell? ⟨w1.heap.size, 0, none⟩ = some (.slice A1 (List.length x[k].1) c1) ∧ w'.cell? ⟨b, o + k * 2 + 1, none⟩ = some (.int .i64 x[k].2) := ⟨bel_grown hq.1 hq.1.size hg' (fun g hg => (HR.out.block g hg).1), hg'.cell hq.2.1 hne, hg'.cell hq.2.2 hne2⟩))
      have HR' := Lib.hid hr'
      clear hr'
      go_wp2
      go_roundw
      case rel => exact ⟨k + 1, by omega, by go_num, by rw [HP.out]; exact HR'.out, hz.1⟩
      case measure => simp [intOf]; omega
    · have HE : Hid (x.take k = x) := List.take_of_length_le (by omega)
      go_wp2
      go_ret
      exact ⟨_, rfl, by rw [HE.out] at HR; exact HR.out, hb⟩
end Go.Proofs.Ytldgbnlcnlfmeaa
