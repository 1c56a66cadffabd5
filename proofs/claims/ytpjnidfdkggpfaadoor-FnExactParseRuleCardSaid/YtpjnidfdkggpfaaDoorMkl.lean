/- Marks on slices of strings, bytes, integers. -/
import Derived.Test.YtpjnidfdkggpfaaDoorStr
import Derived.Test.YtpjnidfdkggpfaaDoorMkb
import Derived.Deep.RegionHeld3
namespace Go.Proofs.YtpjnidfdkggpfaaDoor
open Go.RowKit
set_option linter.unusedVariables false
set_option linter.unusedSimpArgs false

theorem byte_val (n : Int) : [Value.int .u8 ((UInt8.ofNat (n % 256).toNat).toNat : Int)] = [.int .u8 (n % 256)] := by
  rw [UInt8.toNat_ofNat']
  congr 2
  omega
set_option maxRecDepth 100000 in
set_option maxHeartbeats 1000000 in
theorem C_laws_markText (w : World) (k : Int) (h0 : 0 ≤ k) (h1 : k ≤ 4611686018427387904) :
    Calls Tryd.prog 56 #[.int .i64 k] w fun e w' => e = .returned (vS (mkText k)) ∧ Below w.heap.size w w' := by
  by_cases hk : k ≤ 0
  · have HT : Hid (mkText k = [109, 48]) := if_pos hk
    go_enter Tryd.func56, Tryd.ntmps56
    go_wp2
    go_ret
    rw [HT.out]
    exact ⟨rfl, Below.refl _ _⟩
  · have HT : Hid (mkText k = 109 :: digLoop 20 k []) := if_neg hk
    go_enter Tryd.func56, Tryd.ntmps56
    go_wp2
    go_loopw [0, 3] (fun kv ov wr => ∃ (f : Nat) (kk : Int) (out : List UInt8), kv = .int .i64 kk ∧ ov = vS out ∧ 0 ≤ kk ∧ kk ≤ k ∧ out.length + f ≤ 20 ∧ DigInv f kk out k ∧ Below w.heap.size w wr) (fun kv _ _ => (intOf kv).toNat)
    case atStart => exact ⟨20, k, [], rfl, rfl, h0, Int.le_refl _, by simp, DigInv.start h1, Below.refl _ _⟩
    case round =>
      obtain ⟨f, kk, out, rfl, rfl, g0, g1, g2, g3, hb⟩ := hrel
      by_cases hz : 0 < kk
      · have hcv : (convert 58 9 (.slice (some ⟨wr.heap.size, 0, none⟩) 1 1)).run Tryd.prog (wr.alloc (.cells #[.int .u8 (48 + kk % 10)] 5)) = .ok (vS [UInt8.ofNat (48 + kk % 10).toNat]) (wr.alloc (.cells #[.int .u8 (48 + kk % 10)] 5)) :=
          run_convert_bytes_back (P := Tryd.prog) (wr.alloc (.cells #[.int .u8 (48 + kk % 10)] 5)) 58 9 5 ⟨wr.heap.size, 0, none⟩ 1 [UInt8.ofNat (48 + kk % 10).toNat] Tryd.underlying58 Tryd.underlying5 Tryd.underlying9 (fun j hj => by
            obtain rfl : j = 0 := by simpa using hj
            simp [Addr.add, cell_one_new]
            omega)
        obtain ⟨g, rfl, hg⟩ := g3.step hz
        go_wp2
        go_roundw
        case rel => exact ⟨g, kk / 10, _, rfl, rfl, by omega, by omega, by simp; omega, hg, (by repeat' (first | (with_reducible exact Below.refl _ _) | (with_reducible assumption) | (with_reducible refine bel_set ?_ (by (try dsimp only); omega) _) | (with_reducible refine bel_alloc ?_ _) | (with_reducible refine bel_drewN ?_ _) | (with_reducible refine bel_drew ?_)))⟩
        case measure => simp [intOf]; omega
      · have HF : Hid (109 :: out = mkText k) := by rw [HT.out]; exact congrArg _ (g3.done (by omega)).symm
        go_wp2
        go_ret
        exact ⟨by rw [← HF.out]; rfl, hb⟩
set_option maxHeartbeats 1000000 in
theorem C_laws_markStringS (w : World) (v : Value) (x : List (List UInt8)) (fp : List Nat) (k : Int) (h : (Ty.sl .str).ow w [v] x fp) (hn : fp.Nodup) (h0 : 0 ≤ k) (h1 : k + (Ty.cnt (.sl .str) x : Nat) ≤ 4611686018427387904) :
    Calls Tryd.prog 46 #[v, .int .i64 k] w (RetMk w (.sl .str) [v] (Ty.mk (.sl .str) x k) fp (k + (Ty.cnt (.sl .str) x : Nat))) := by
  obtain ⟨A, c, rfl, hc, hm, hl⟩ := Ty.rd_sl (Ty.ow_rd h)
  have hcnt : Ty.cnt (.sl .str) x = x.length := Ty.cnt_one (e := .str) (fun _ => rfl) x
  have h1' : k + (x.length : Int) ≤ 4611686018427387904 := by rw [hcnt] at h1; exact h1
  rw [hcnt]
  clear hcnt h1
  go_enter Tryd.func46, Tryd.ntmps46
  go_wp2
  go_loopw [1, 5] (fun kv i wr => ∃ j : Nat, j ≤ x.length ∧ kv = .int .i64 (k + j) ∧ i = .int .i64 j ∧ MkInv .str A c x fp k w j wr) (fun _ i _ => x.length - (intOf i).toNat)
  case atStart => exact ⟨0, by omega, by simp, rfl, MkInv.zero h⟩
  case round =>
    obtain ⟨j, hj, rfl, rfl, hinv⟩ := hrel
    by_cases hlt : j < x.length
    · obtain ⟨b, o, fj, ds, rfl, q1, q2, q3, q4, q5, q6, hstep⟩ := hinv.el hn hlt
      obtain ⟨⟨rfl, _⟩, rfl⟩ := q1
      have e1 : wr.cell? ⟨b, o + j, none⟩ = some (vS x[j]) := by simpa [Ty.sz] using (q6 0 (by decide)).1
      have e2 : wr.frozen? ⟨b, o + j, none⟩ = false := by simpa [Ty.sz] using (q6 0 (by decide)).2
      have HS := Lib.hid hstep
      clear hstep q6 q3
      go_wp2_with fail
      refine (C_laws_markText _ _ (by omega) (by omega)).mono ?_
      rintro e w1 ⟨rfl, hb1⟩
      have e3 : w1.cell? ⟨b, o + j, none⟩ = some (vS x[j]) := (hb1.cell q5).trans e1
      have e4 : w1.frozen? ⟨b, o + j, none⟩ = false := (hb1.frozen q5).trans e2
      clear e1 e2
      go_wp2
      go_roundw
      case rel =>
        refine ⟨j + 1, by omega, by go_num, by go_num, HS.out _ [vS (mkText (k + j))] ?_ rfl ?_ ?_ ?_ ?_⟩
        · rw [kAt_one (c := fun d => Ty.cnt .str d) (fun _ => rfl) x (by omega)]
          exact ⟨⟨rfl, Nat.le_trans (mkText_len _) (by omega)⟩, rfl⟩
        · intro i hi
          obtain rfl : i = 0 := by have : (Ty.str).sz = 1 := rfl
                                   omega
          have hj1 : j * (Ty.str).sz = j := Nat.mul_one j
          rw [hj1, Nat.add_zero]
          exact ⟨by go_simp, by go_simp⟩
        · intro m hm
          have hj1 : j * (Ty.str).sz = j := Nat.mul_one j
          have hs1 : (Ty.str).sz = 1 := rfl
          rw [hj1, hs1] at hm
          exact ⟨(cell_set_ne _ (by omega) _).trans (hb1.cell q5), (frozen_set _ _ _ _).trans (hb1.frozen q5)⟩
        · intro y hy hyb _
          rw [Below.heap_setCell _ _ _ _ hyb]
          exact hb1.block y (Ty.ow_lt hinv.1 y hy)
        · exact (Kept.of_below hb1).set q2 _
      case measure => simp [intOf]; omega
    · go_wp2
      go_ret
      obtain rfl : j = x.length := by omega
      exact hinv.done
set_option maxRecDepth 100000 in
set_option maxHeartbeats 1000000 in
theorem C_laws_heldStringS (w : World) (v : Value) (x : List (List UInt8)) (k : Int) (h : (Ty.sl .str).rd w [v] (Ty.mk (.sl .str) x k)) (h0 : 0 ≤ k) (h1 : k + (Ty.cnt (.sl .str) x : Nat) ≤ 4611686018427387904) :
    Calls Tryd.prog 47 #[v, .int .i64 k] w (RetI w (k + (Ty.cnt (.sl .str) x : Nat))) := by
  obtain ⟨A, c, rfl, hc, hm, hl⟩ := Ty.rd_sl h
  have hcnt : Ty.cnt (.sl .str) x = x.length := Ty.cnt_one (e := .str) (fun _ => rfl) x
  have h1' : k + (x.length : Int) ≤ 4611686018427387904 := by rw [hcnt] at h1; exact h1
  rw [hcnt]
  have hlen : (Ty.mk (.sl .str) x k).length = x.length := length_mkSl _ _ _ _
  have hlt' : ∀ j, j < x.length → j < (Ty.mk (.sl .str) x k).length := fun j hj => by rw [hlen]; exact hj
  have hel : ∀ j (hj' : j < (Ty.mk (.sl .str) x k).length), (Ty.mk (.sl .str) x k)[j] = mkText (k + j) := fun j hj' => by
    have hj : j < x.length := by rw [← hlen]; exact hj'
    have := mkSl_get (fun d k => Ty.mk .str d k) (fun d => Ty.cnt .str d) x k j hj
    rw [kAt_one (c := fun d => Ty.cnt .str d) (fun _ => rfl) x (by omega)] at this
    exact (List.getElem?_eq_some_iff.1 this).2
  rw [hlen] at h hl
  rw [hlen]
  generalize Ty.mk (.sl .str) x k = y at *
  have HL := Lib.hid hlt'
  have HE := Lib.hid hel
  clear hcnt h1 hlen hlt' hel hc
  go_enter Tryd.func47, Tryd.ntmps47
  go_wp2
  go_loopw [1, 5] (fun kv i wr => ∃ j : Nat, j ≤ x.length ∧ kv = .int .i64 (k + j) ∧ i = .int .i64 j ∧ Below w.heap.size w wr) (fun _ i _ => x.length - (intOf i).toNat)
  case atStart => exact ⟨0, by omega, by simp, rfl, Below.refl _ _⟩
  case round =>
    obtain ⟨j, hj, rfl, rfl, hb⟩ := hrel
    by_cases hlt : j < x.length
    · obtain ⟨b, o, rfl, e1, _⟩ := Ty.rd_str_at (Ty.rd_below hb h) (HL.out j hlt)
      rw [HE.out j (HL.out j hlt)] at e1
      have hlb : b < wr.heap.size := World.block_lt_of_cell? wr _ e1
      have HS : Hid (∀ W, Below wr.heap.size wr W → Below wr.heap.size wr W ∧ W.cell? ⟨b, o + j, none⟩ = some (vS (mkText (k + j)))) := fun W hW => ⟨hW, (hW.cell hlb).trans e1⟩
      go_wp2_with fail
      go_region_held3 (fun W => Below wr.heap.size wr W ∧ W.cell? ⟨b, o + j, none⟩ = some (vS (mkText (k + j)))) (exact HS.out _ (by repeat' (first | (with_reducible exact Below.refl _ _) | (with_reducible assumption) | (with_reducible refine bel_set ?_ (by (try dsimp only); omega) _) | (with_reducible refine bel_alloc ?_ _) | (with_reducible refine bel_drewN ?_ _) | (with_reducible refine bel_drew ?_))))
        (first
          | (go_at_call 56; (with_reducible refine (C_laws_markText _ (k + j) (by omega) (by omega)).mono ?_); rintro e w1 ⟨rfl, hb1⟩; have hv1 : Below wr.heap.size wr w1 := bel_trans (by repeat' (first | (with_reducible exact Below.refl _ _) | (with_reducible assumption) | (with_reducible refine bel_set ?_ (by (try dsimp only); omega) _) | (with_reducible refine bel_alloc ?_ _) | (with_reducible refine bel_drewN ?_ _) | (with_reducible refine bel_drew ?_))) hb1))
      have hw1 : Below w.heap.size w w1 := bel_trans hb hv1
      have hne : (!mkText (k + j) == mkText (k + j)) = false := by simp
      go_wp2
      go_roundw
      case rel => exact ⟨j + 1, by omega, by go_num, by go_num, hw1⟩
      case measure => simp [intOf]; omega
    · go_wp2
      go_ret
      obtain rfl : j = x.length := by omega
      exact ⟨rfl, hb⟩

end Go.Proofs.YtpjnidfdkggpfaaDoor
