/- Seen nonces drawn. Printed by gen53.py. -/
import Derived.Test.YtldgbnlcnlfmeaaIdr
import Derived.Test.YtldgbnlcnlfmeaaAsr
import Derived.Deep.RegionHeld3
namespace Go.Proofs.Ytldgbnlcnlfmeaa
open Go.RowKit
set_option linter.unusedVariables false
set_option linter.unusedSimpArgs false

def okSees (s : List (Ty.D tSeenNonce)) : Prop := s.length ≤ 24 ∧ Ty.bulk (.sl tSeenNonce) s ≤ 2400
theorem bulk_seen (s : List (Ty.D tSeenNonce)) (n : List (List UInt8)) (a : Int) (h : Ty.bulk (.sl .str) n ≤ 90) : Ty.bulk (.sl tSeenNonce) (s ++ [(n, a)]) ≤ Ty.bulk (.sl tSeenNonce) s + 91 := by
  rw [bulk_app, bulk_one]
  have : Ty.bulk tSeenNonce (n, a) = Ty.bulk (.sl .str) n + 0 := rfl
  omega
set_option maxRecDepth 100000 in
set_option maxHeartbeats 2000000 in
theorem C_spec_l13Sees (w : World) (B : Nat) (hc : CurT w B) :
    Calls Try.prog 67 #[pB B] w (RetDT B w (DrS tSeenNonce w okSees)) := by
  have hB := hc.lt
  go_enter Try.func67, Try.ntmps67
  go_wp2_with fail
  refine (C_spec_l1Below _ B 5 (by repeat' (first | (with_reducible assumption) | (with_reducible refine Cur.far ?_ (by (try dsimp only); omega) _) | (with_reducible refine Cur.alloc ?_ _) | (with_reducible refine Cur.drewN ?_ _) | (with_reducible refine Cur.drew ?_))) (by decide) (by decide)).mono ?_
  rintro e w1 ⟨hd1, hc1, x, rfl, hx0, hx1⟩
  have z1 := hd1.size
  simp only [World.size_alloc] at z1
  have hD1 : Dr B w w1 := (by repeat' (first | (with_reducible exact Dr.refl _ _) | (with_reducible assumption) | (with_reducible refine Dr.set ?_ (by (try dsimp only); omega) _) | (with_reducible refine Dr.alloc ?_ _) | (with_reducible refine Dr.drewN ?_ _) | (with_reducible refine Dr.drew ?_) | (with_reducible refine Dr.trans ?_ (by assumption))))
  have HR1 := Lib.hid (DRow.dr (DRow.lit0 tSeenNonce w 38 (Nat.le_refl _)) hd1 hB)
  clear hd1
  go_wp2
  go_loopw [3, 4] (fun v i wr => ∃ (k : Int) (s : List (Ty.D tSeenNonce)), i = .int .i64 k ∧ 0 ≤ k ∧ k ≤ 4 ∧ (s.length : Int) ≤ 4 - k ∧ Ty.bulk (.sl tSeenNonce) s ≤ 91 * s.length ∧ CurT wr B ∧ Dr B w wr ∧ DRow tSeenNonce wr w.heap.size 38 v s) (fun _ i _ => (intOf i).toNat)
  case atStart => exact ⟨x, [], rfl, by omega, by omega, by simp; omega, Nat.le_refl _, hc1, hD1, HR1.out⟩
  case round =>
    obtain ⟨k, s, rfl, hk0, hk4, hsl, hsb, hcr, hdr, hR⟩ := hrel
    have zr := hdr.size
    obtain ⟨A, c, rfl⟩ := hR.form
    have HR := Lib.hid hR
    clear hR hD1 HR1 hc1
    by_cases hlt : 0 < k
    · go_wp2_with fail
      refine (C_spec_l7Draw _ B (by repeat' (first | (with_reducible assumption) | (with_reducible refine Cur.far ?_ (by (try dsimp only); omega) _) | (with_reducible refine Cur.alloc ?_ _) | (with_reducible refine Cur.drewN ?_ _) | (with_reducible refine Cur.drew ?_)))).mono ?_
      rintro e w3 ⟨hd3, hc3, cs3, q, fp3, rfl, how3, hfr3, hq⟩
      obtain ⟨A3, c3, rfl, hrs, iq, _, _⟩ := rd_Interest (Ty.ow_rd how3)
      have z3 := hd3.size
      (try simp only [World.size_drew, size_drewN] at z3)
      have E3 : Dr B wr w3 := (by repeat' (first | (with_reducible exact Dr.refl _ _) | (with_reducible assumption) | (with_reducible refine Dr.set ?_ (by (try dsimp only); omega) _) | (with_reducible refine Dr.alloc ?_ _) | (with_reducible refine Dr.drewN ?_ _) | (with_reducible refine Dr.drew ?_) | (with_reducible refine Dr.trans ?_ (by assumption))))
      have D3 : Dr B w w3 := hdr.trans E3
      have HR3 := Lib.hid (DRow.dr HR.out E3 hB)
      have hqb := name_bulk hq.1
      clear hd3
      go_wp2_with fail
      refine (C_spec_AddSeenNonceR _ _ s [.slice A3 (List.length q.1) c3] q.1 q.2.1 (Ty.rd_below (by repeat' (first | (with_reducible exact Below.refl _ _) | (with_reducible assumption) | (with_reducible refine bel_set ?_ (by (try dsimp only); omega) _) | (with_reducible refine bel_alloc ?_ _) | (with_reducible refine bel_drewN ?_ _) | (with_reducible refine bel_drew ?_))) HR3.out.rd) (Ty.rd_below (by repeat' (first | (with_reducible exact Below.refl _ _) | (with_reducible assumption) | (with_reducible refine bel_set ?_ (by (try dsimp only); omega) _) | (with_reducible refine bel_alloc ?_ _) | (with_reducible refine bel_drewN ?_ _) | (with_reducible refine bel_drew ?_))) hrs) (by omega) (by omega) (by omega) iq).mono ?_
      rintro e w4 ⟨v4, rfl, hr4, hb4⟩
      have z4 := hb4.size
      (try simp only [World.size_alloc] at z4)
      have hb34 : Below w3.heap.size w3 w4 := bel_trans (by repeat' (first | (with_reducible exact Below.refl _ _) | (with_reducible assumption) | (with_reducible refine bel_set ?_ (by (try dsimp only); omega) _) | (with_reducible refine bel_alloc ?_ _) | (with_reducible refine bel_drewN ?_ _) | (with_reducible refine bel_drew ?_))) hb4
      have D4 : Dr B w w4 := Dr.then_ D3 hb34
      have C4 : CurT w4 B := Cur.below hc3 hb34
      have HR4 := Lib.hid (hr4.mono (base' := w.heap.size) (by simp only [World.size_alloc]; omega))
      have hl4 := Lib.hid (snOut_len s q.1 q.2.1)
      have hb5 : Ty.bulk (.sl tSeenNonce) (snOut s q.1 q.2.1) ≤ _ := bulk_seen s q.1 q.2.1 (by omega)
      obtain ⟨A4, c4, rfl⟩ := hr4.form
      clear hr4
      go_wp2
      go_roundw
      case rel => exact ⟨k - 1, _, rfl, by omega, by omega, by rw [hl4.out]; omega, by rw [hl4.out]; omega, C4, D4, HR4.out⟩
      case measure => simp [intOf]; omega
    · go_wp2_with fail
      refine (C_spec_l1Once _ B 12 (by repeat' (first | (with_reducible assumption) | (with_reducible refine Cur.far ?_ (by (try dsimp only); omega) _) | (with_reducible refine Cur.alloc ?_ _) | (with_reducible refine Cur.drewN ?_ _) | (with_reducible refine Cur.drew ?_))) (by decide) (by decide)).mono ?_
      rintro e w3 ⟨hd3, hc3, yes, rfl⟩
      have z3 := hd3.size
      (try simp only [World.size_drew, size_drewN] at z3)
      have D3 : Dr B w w3 := hdr.trans (by repeat' (first | (with_reducible exact Dr.refl _ _) | (with_reducible assumption) | (with_reducible refine Dr.set ?_ (by (try dsimp only); omega) _) | (with_reducible refine Dr.alloc ?_ _) | (with_reducible refine Dr.drewN ?_ _) | (with_reducible refine Dr.drew ?_) | (with_reducible refine Dr.trans ?_ (by assumption))))
      have HR3 := Lib.hid (DRow.dr HR.out (show Dr B wr w3 from (by repeat' (first | (with_reducible exact Dr.refl _ _) | (with_reducible assumption) | (with_reducible refine Dr.set ?_ (by (try dsimp only); omega) _) | (with_reducible refine Dr.alloc ?_ _) | (with_reducible refine Dr.drewN ?_ _) | (with_reducible refine Dr.drew ?_) | (with_reducible refine Dr.trans ?_ (by assumption))))) hB)
      clear hd3
      cases yes with
      | false =>
        go_wp2
        go_ret
        obtain ⟨fp9, how9, hfr9⟩ := HR3.out.ow_
        exact ⟨D3, hc3, _, s, _, fp9, rfl, how9, hfr9, by omega, by omega⟩
      | true =>
        go_wp2
        go_loopw [3] (fun v wr => ∃ (s : List (Ty.D tSeenNonce)), s.length ≤ 24 ∧ Ty.bulk (.sl tSeenNonce) s ≤ 91 * s.length ∧ CurT wr B ∧ Dr B w wr ∧ DRow tSeenNonce wr w.heap.size 38 v s) (fun v _ => 24 - lenV v)
        case atStart => exact ⟨s, by omega, hsb, hc3, D3, HR3.out⟩
        case round =>
          obtain ⟨s, hsl, hsb, hcr, hdr, hR⟩ := hrel
          have zr := hdr.size
          obtain ⟨A, c, rfl⟩ := hR.form
          have HR := Lib.hid hR
          clear hR HR3 D3 hc3
          go_wp2_with fail
          refine (C_spec_l1Below _ B 2 (by repeat' (first | (with_reducible assumption) | (with_reducible refine Cur.far ?_ (by (try dsimp only); omega) _) | (with_reducible refine Cur.alloc ?_ _) | (with_reducible refine Cur.drewN ?_ _) | (with_reducible refine Cur.drew ?_))) (by decide) (by decide)).mono ?_
          rintro e w3 ⟨hd3, hc3, y, rfl, hy0, hy1⟩
          have z3 := hd3.size
          (try simp only [World.size_drew, size_drewN] at z3)
          have E3 : Dr B wr w3 := (by repeat' (first | (with_reducible exact Dr.refl _ _) | (with_reducible assumption) | (with_reducible refine Dr.set ?_ (by (try dsimp only); omega) _) | (with_reducible refine Dr.alloc ?_ _) | (with_reducible refine Dr.drewN ?_ _) | (with_reducible refine Dr.drew ?_) | (with_reducible refine Dr.trans ?_ (by assumption))))
          have D3 : Dr B w w3 := hdr.trans E3
          have HR3 := Lib.hid (DRow.dr HR.out E3 hB)
          clear hd3
          by_cases hlt : (s.length : Int) < 23 + y
          · go_wp2_with fail
            refine (C_spec_l4Of _ [47, 115] (by decide)).mono ?_
            rintro e w4 ⟨cs4, fp4, rfl, how4, hfr4, hb4⟩
            obtain ⟨A4, c4, rfl⟩ := Ty.ow_slv how4
            have z4 := hb4.size
            have hbk : Ty.bulk (.sl .str) (pnS [47, 115]).1 ≤ 90 := by decide
            obtain ⟨m, hm⟩ : ∃ m : List (List UInt8), m = (pnS [47, 115]).1 := ⟨_, rfl⟩
            rw [← hm] at how4 hbk ⊢
            clear hm
            have hb34 : Below w3.heap.size w3 w4 := bel_trans (by repeat' (first | (with_reducible exact Below.refl _ _) | (with_reducible assumption) | (with_reducible refine bel_set ?_ (by (try dsimp only); omega) _) | (with_reducible refine bel_alloc ?_ _) | (with_reducible refine bel_drewN ?_ _) | (with_reducible refine bel_drew ?_))) hb4
            have hsi : -9223372036854775808 ≤ (s.length : Int) ∧ (s.length : Int) ≤ 9223372036854775807 := ⟨by omega, by omega⟩
            set_option maxRecDepth 100000 in go_wp2_with (at_builtin; go_loud (refine wpList_append_drow (e := tSeenNonce) rfl _ _ 24 rfl w3 w.heap.size 38 info_SeenNonce rfl Try.underlying24 _ _ s [(m, (s.length : Int))] (by rfl) (by rfl) HR3.out (bel_alloc hb34 _) (Src.lit 38 (ow_SeenNonce_mk (x := (m, (s.length : Int))) how4 hsi) (hfr4.mono (by (try simp only [World.size_drew, size_drewN]); omega) (Nat.le_refl _))) ?_ ?_ ?_ ?_))
            case refine_1 => simp only [List.length_singleton]; omega
            case refine_2 => simp only [List.length_singleton]; unfold maxLen; omega
            case refine_3 => omega
            intro v' w' hr' hg'
            have hbl := HR3.out.block
            have D4 : Dr B w w' := Dr.grown (Dr.alloc (Dr.then_ D3 hb34) _) hg' (fun g hg => (hbl g hg).1)
            have C4 : CurT w' B := Cur.grown (Cur.alloc (Cur.below hc3 hb34) _) hg' (fun g hg => by have := (hbl g hg).1; omega)
            have HR' := Lib.hid (show DRow tSeenNonce w' w.heap.size 38 v' (s ++ [(m, (s.length : Int))]) from hr')
            have hl5 := Lib.hid (show (s ++ [(m, (s.length : Int))]).length = s.length + 1 by simp)
            have hb5 := bulk_seen s m (s.length : Int) hbk
            obtain ⟨A5, c5, rfl⟩ := HR'.out.form
            clear hr' hg' hbl
            go_wp2
            go_roundw
            case rel => exact ⟨_, by rw [hl5.out]; omega, by rw [hl5.out]; omega, C4, D4, HR'.out⟩
            case measure => simp [lenV, hl5.out]; omega
          · go_wp2
            go_ret
            obtain ⟨fp9, how9, hfr9⟩ := HR3.out.ow_
            exact ⟨D3, hc3, _, s, _, fp9, rfl, how9, hfr9, by omega, by omega⟩
set_option maxRecDepth 100000 in
set_option maxHeartbeats 2000000 in
theorem C_spec_DrawAddSeenNonce (w : World) (v : Value) (b : List UInt8) (h : (Ty.sl .byte).rd w [v] b) :
    Calls Try.prog 8 #[v] w (fun e w' => ∃ A s c An n cn a, e = .returned (.tuple #[.slice A (List.length s) c, .agg #[.slice An (List.length n) cn], .int .i64 a]) ∧ (Ty.sl tSeenNonce).rd w' [.slice A (List.length s) c] s ∧ (Ty.sl .str).rd w' [.slice An (List.length n) cn] n ∧ okSees s ∧ validName n = true ∧ (0 ≤ a ∧ a ≤ 8) ∧ Below w.heap.size w w') := by
  obtain ⟨Ac, cc, rfl, _, _, _⟩ := Ty.rd_sl h
  go_enter Try.func8, Try.ntmps8
  go_wp2_with fail
  refine (C_spec_l1New _ _ b (Ty.rd_below (by repeat' (first | (with_reducible exact Below.refl _ _) | (with_reducible assumption) | (with_reducible refine bel_set ?_ (by (try dsimp only); omega) _) | (with_reducible refine bel_alloc ?_ _) | (with_reducible refine bel_drewN ?_ _) | (with_reducible refine bel_drew ?_))) h)).mono ?_
  rintro e w1 ⟨rfl, hb1, hc1⟩
  simp only [World.size_alloc] at hc1
  have z1 := hc1.lt
  have hO1 : Blk w1 w.heap.size 27 #[.slice none 0 0] := (Blk.new w _ _).below hb1 (by rw [World.size_alloc]; omega)
  have D1 : Dr (w.heap.size + 1) w w1 := Dr.of (bel_trans (by repeat' (first | (with_reducible exact Below.refl _ _) | (with_reducible assumption) | (with_reducible refine bel_set ?_ (by (try dsimp only); omega) _) | (with_reducible refine bel_alloc ?_ _) | (with_reducible refine bel_drewN ?_ _) | (with_reducible refine bel_drew ?_))) hb1) _
  clear hb1
  simp only [World.size_alloc]
  go_wp2_with fail
  refine (C_spec_l13Sees _ (w.heap.size + 1) (by repeat' (first | (with_reducible assumption) | (with_reducible refine Cur.far ?_ (by (try dsimp only); omega) _) | (with_reducible refine Cur.alloc ?_ _) | (with_reducible refine Cur.drewN ?_ _) | (with_reducible refine Cur.drew ?_)))).mono ?_
  rintro e w2 ⟨hd2, hc2, A2, s, c2, fp2, rfl, how2, hfr2, hs⟩
  have D2 : Dr (w.heap.size + 1) w w2 := D1.trans hd2
  have hO2 := Dr.blk hd2 hO1 (by omega)
  have z2 := hd2.size
  clear hd2 hc1 hO1
  go_wp2_with fail
  refine (C_spec_l4Name _ (w.heap.size + 1) (by repeat' (first | (with_reducible assumption) | (with_reducible refine Cur.far ?_ (by (try dsimp only); omega) _) | (with_reducible refine Cur.alloc ?_ _) | (with_reducible refine Cur.drewN ?_ _) | (with_reducible refine Cur.drew ?_)))).mono ?_
  rintro e w3 ⟨hd3, hc3, v3, n, rfl, hR3, hV⟩
  have D3 : Dr (w.heap.size + 1) w w3 := D2.trans hd3
  have hO3 := Dr.blk hd3 hO2 (by omega)
  have z3 := hd3.size
  have how3 := owDr how2 hfr2 (by omega) hd3
  obtain ⟨A3, c3, rfl⟩ := hR3.form
  have HR3 := Lib.hid hR3
  clear hd3 hc2 hO2 hR3 how2
  have hN3 : Blk (w3.alloc (.cells #[.slice A3 n.length c3] 27)) w3.heap.size 27 #[.slice A3 n.length c3] := Blk.new _ _ _
  go_wp2_with fail
  refine wp_region_noPanic ?_
  refine wp_region_held_drew (S := (fun W => W.cell? ⟨w3.heap.size, 0, none⟩ = some (.slice A3 n.length c3))) (by kernel_rfl) ?_ (fun hHeld => ?_)
  · exact hN3.c1
  refine tk 0 (opN rfl) (by kernel_rfl) (by rfl) (by (intro w hSw; (try dsimp only at hSw); go_simp; first | done | with_reducible rfl)) (by assumption) ?_
  try simp only [Act.put, List.setIfInBounds_toArray, List.set_cons_zero, List.set_cons_succ]
  refine tk 1 (opN rfl) (by kernel_rfl) (by rfl) (by (intro w hSw; (try dsimp only at hSw); go_simp; first | done | with_reducible rfl)) (by assumption) ?_
  try simp only [Act.put, List.setIfInBounds_toArray, List.set_cons_zero, List.set_cons_succ]
  refine tk 2 (opN rfl) (by kernel_rfl) (by rfl) (by (intro w hSw; (try dsimp only at hSw); go_simp; first | done | with_reducible rfl)) (by assumption) ?_
  try simp only [Act.put, List.setIfInBounds_toArray, List.set_cons_zero, List.set_cons_succ]
  refine wpAnyH_ready (rs := [3]) (by kernel_rfl) (by simp) ?_
  refine (AllReadyH.cons (opN rfl) (fun K hK => ?_) AllReadyH.nil)
  go_simp
  go_at_call 69
  refine (C_spec_l1Below _ (w.heap.size + 1) 9 (by repeat' (first | (with_reducible assumption) | (with_reducible refine Cur.far ?_ (by (try dsimp only); omega) _) | (with_reducible refine Cur.alloc ?_ _) | (with_reducible refine Cur.drewN ?_ _) | (with_reducible refine Cur.drew ?_))) (by decide) (by decide)).mono ?_
  rintro e w4 ⟨hd4, hc4, x4, rfl, hx4, hy4⟩
  have E4 : Dr (w.heap.size + 1) w3 w4 := (by repeat' (first | (with_reducible exact Dr.refl _ _) | (with_reducible assumption) | (with_reducible refine Dr.set ?_ (by (try dsimp only); omega) _) | (with_reducible refine Dr.alloc ?_ _) | (with_reducible refine Dr.drewN ?_ _) | (with_reducible refine Dr.drew ?_) | (with_reducible refine Dr.trans ?_ (by assumption))))
  have z4 := hd4.size
  (try simp only [World.size_alloc, World.size_drew, size_drewN] at z4)
  have D4 : Dr (w.heap.size + 1) w w4 := D3.trans E4
  have hO4 : Blk w4 w.heap.size 27 #[.slice none 0 0] := Dr.blk E4 hO3 (by omega)
  have hN4 : Blk w4 w3.heap.size 27 #[.slice A3 n.length c3] := Dr.blk hd4 (by repeat' (first | (with_reducible assumption) | (with_reducible refine Blk.alloc ?_ _) | (with_reducible refine Blk.drewN ?_ _) | (with_reducible refine Blk.drew ?_))) (by omega)
  have how4 := owDr how3 hfr2 (by omega) E4
  have HR4 := Lib.hid (Row.dr HR3.out E4 (by omega))
  have k4 := hO4.c1
  have f4 : w4.frozen? ⟨w.heap.size, 0, none⟩ = false := hO4.f1
  refine hK.out _ _ ?_ (fun hHeld => ?_)
  · (try dsimp only)
    exact hN4.c1
  clear hK K
  try simp only [Act.put, List.setIfInBounds_toArray, List.set_cons_zero, List.set_cons_succ]
  refine tk 4 (opN rfl) (by kernel_rfl) (by rfl) (by (intro w hSw; (try dsimp only at hSw); go_simp; first | done | with_reducible rfl)) (by assumption) ?_
  try simp only [Act.put, List.setIfInBounds_toArray, List.set_cons_zero, List.set_cons_succ]
  refine wpAnyH_ready (rs := [5]) (by kernel_rfl) (by simp) ?_
  refine (AllReadyH.cons (opN rfl) (fun K hK => ?_) AllReadyH.nil)
  go_simp
  have hN5 := hN4.far (p := ⟨w.heap.size, 0, none⟩) (by dsimp only; omega) (.slice A3 n.length c3)
  have hO5 := hO4.set_ 0 (.slice A3 n.length c3)
  have D5 := D4.set (p := ⟨w.heap.size, 0, none⟩) (.inr (Nat.le_refl _)) (.slice A3 n.length c3)
  have how5 := owSet how4 hfr2 (p := ⟨w.heap.size, 0, none⟩) (by dsimp only; omega) (.slice A3 n.length c3)
  have HR5 := Lib.hid (row_setN HR4.out (p := ⟨w.heap.size, 0, none⟩) (by dsimp only; omega) (.slice A3 n.length c3))
  have z5 : (w4.setCell ⟨w.heap.size, 0, none⟩ (.slice A3 n.length c3)).heap.size = w4.heap.size := World.size_setCell ..
  generalize w4.setCell ⟨w.heap.size, 0, none⟩ (.slice A3 n.length c3) = w5 at hN5 hO5 D5 how5 HR5 z5 ⊢
  have k5 : w5.cell? ⟨w.heap.size, 0, none⟩ = some (.slice A3 n.length c3) := hO5.cell 0
  refine hK.out _ _ ?_ (fun hHeld => ?_)
  · (try dsimp only)
    exact hN5.c1
  clear hK K
  try simp only [Act.put, List.setIfInBounds_toArray, List.set_cons_zero, List.set_cons_succ]
  refine tk 6 (opN rfl) (by kernel_rfl) (by rfl) (by (intro w hSw; (try dsimp only at hSw); go_simp; first | done | with_reducible rfl)) (by assumption) ?_
  try simp only [Act.put, List.setIfInBounds_toArray, List.set_cons_zero, List.set_cons_succ]
  refine wpAnyH_done (by kernel_rfl) ?_ _
  refine NoPanic.normal ?_
  go_wp2
  refine bodyPost_ret (v := .tuple #[.slice A2 s.length c2, .agg #[.slice A3 n.length c3], .int .i64 x4]) (by simp [results, Try.results8, go_sem, k5]) rfl ?_
  exact ⟨_, s, _, _, n, _, x4, rfl, Ty.ow_rd how5, HR5.out.rd (by omega), hs, hV, by omega, Dr.below D5 (by omega) (Nat.le_refl _)⟩
end Go.Proofs.Ytldgbnlcnlfmeaa
