/- Proved here: the given statement FnKeysSaid: every key signs with its own secret only; the law returns true for all inputs. Conditions: none. -/
/- Texts of this claim, merged by a program: LFnKeys ClFnKeys. -/
import Derived.Test.YtldgbnlcnlfmeaaGreatMk8
import Derived.Test.YtldgbnlcnlfmeaaGreatMk9
import Derived.Test.YtldgbnlcnlfmeaaGreatMk10
import Derived.Deep.RegionHeld3
import Derived.Test.YtldgbnlcnlfmeaaGreatMk0
import Derived.ShutString
/- The law FnKeys, walked out of the contracts. Printed by gen70.py. -/
namespace Go.Proofs.YtldgbnlcnlfmeaaGreat
open Go.RowKit
set_option linter.unusedVariables false
set_option linter.unusedSimpArgs false

theorem decide_self {α : Type} [DecidableEq α] (x : α) : decide (x = x) = true := by simp
theorem eqData_self (x : Ty.D tData) : f_EqualData x x = true := by unfold f_EqualData; simp
theorem swk0_bulk (l : List (Ty.D tKey)) (by_ n : List (List UInt8)) (b : List UInt8) (till : Int) (h1 : Ty.bulk (.sl .str) by_ ≤ 70) (h2 : Ty.bulk (.sl .str) n ≤ 70) (h3 : b.length ≤ 3) : Ty.bulk tData (f0_SignWithKey l by_ n b till) ≤ 1048576 := by
  unfold f0_SignWithKey
  split
  · have hk2 : Ty.bulk tData (swkX l by_ n b till) = Ty.bulk (.sl .str) n + (Ty.bulk (.sl .byte) b + Ty.bulk (.sl .str) by_) := swk_bulk by_ n b till
    have h4 : Ty.bulk (.sl .byte) b = List.length b := Ty.bulk_flat (fun _ => rfl) _
    rw [hk2]; omega
  · exact Nat.zero_le _
theorem rd_zeroThing (w : World) : tData.rd w [.slice none 0 0, .slice none 0 0, .slice none 0 0, .int .i64 0, .int .i64 0] zeroData := Ty.ow_rd (ow_zeroData w)
theorem add_bulk {a : List (Ty.D tKey)} {k : Ty.D tKey} (h : Ty.bulk (.sl tKey) a ≤ 568) (hk : Ty.bulk tKey k ≤ 70) : Ty.bulk (.sl tKey) (f0_AddKey a k) ≤ 1048576 := by
  unfold f0_AddKey
  split
  · rw [bulk_app, bulk_one]; omega
  · omega
set_option maxRecDepth 100000 in
set_option maxHeartbeats 4000000 in
theorem L_FnKeys (w : World) (v0 : Value) (x0 : Ty.D (.sl .byte)) (h0 : Ty.rd w (.sl .byte) [v0] x0) :
    Calls Tryz.prog 5 #[v0] w (RetB w true) := by
  obtain ⟨A0, c0, rfl, hc0, hm0, hn0⟩ := Ty.rd_sl h0
  go_enter Tryz.func5, Tryz.ntmps5
  go_wp2_with fail
  refine (C_laws_bigG _ _ _ _).mono ?_
  rintro e w1 ⟨rfl, hw1⟩
  obtain rfl : w = w1 := hw1.symm
  by_cases hbig : (x0.length : Int) > 1048576
  · go_wp2
    go_ret
    exact ⟨rfl, (by repeat' (first | (with_reducible exact Below.refl _ _) | (with_reducible assumption) | (with_reducible refine bel_set ?_ (by (try dsimp only); omega) _) | (with_reducible refine bel_alloc ?_ _) | (with_reducible refine bel_drewN ?_ _) | (with_reducible refine bel_drew ?_)))⟩
  go_wp2_with fail
  refine Calls.mono (C_spec_DrawSignWithKey _ _ x0 (Ty.rd_below (by repeat' (first | (with_reducible exact Below.refl _ _) | (with_reducible assumption) | (with_reducible refine bel_set ?_ (by (try dsimp only); omega) _) | (with_reducible refine bel_alloc ?_ _) | (with_reducible refine bel_drewN ?_ _) | (with_reducible refine bel_drew ?_))) h0)) ?_
  rintro e w1 ⟨A, l, c, A1, n1, c1, A2, n2, c2, A3, s, c3, t, rfl, rl, r1, r2, r3, hokl, hok1, hok2, hsl, ht, hb1⟩
  have ti : -9223372036854775808 ≤ t ∧ t ≤ 9223372036854775807 := by omega
  have sbl := Nat.le_trans (keys_bulk hokl) (show 568 ≤ 1048576 by decide)
  have sb1 := Nat.le_trans (any_bulk hok1) (show 70 ≤ 1048576 by decide)
  have sb2 := Nat.le_trans (any_bulk hok2) (show 70 ≤ 1048576 by decide)
  have sb3 : Ty.bulk (.sl .byte) s ≤ 1048576 := by rw [Ty.bulk_flat (fun _ => rfl)]; omega
  have hbx := Lib.hid (swk0_bulk l n1 n2 s t (any_bulk hok1) (any_bulk hok2) hsl)
  have HPL := Lib.hid (@swk_signs l n1 n2 s t)
  have HNO := Lib.hid (@swk_none l n1 n2 s t)
  clear hokl hok1 hok2 hsl ht
  have r0 := Ty.rd_below hb1 h0
  have hW : Below w.heap.size w w1 := bel_trans (by repeat' (first | (with_reducible exact Below.refl _ _) | (with_reducible assumption) | (with_reducible refine bel_set ?_ (by (try dsimp only); omega) _) | (with_reducible refine bel_alloc ?_ _) | (with_reducible refine bel_drewN ?_ _) | (with_reducible refine bel_drew ?_))) hb1
  clear hb1
  go_wp2_with fail
  obtain ⟨V1, hV1⟩ : ∃ V, V = (w1.alloc (.cells #[.slice A1 (List.length n1) c1] 32)).alloc (.cells #[.slice A2 (List.length n2) c2] 32) := ⟨_, rfl⟩
  have bV1 : Below w1.heap.size w1 V1 := by rw [hV1]; exact (by (repeat' (first | (with_reducible exact Below.refl _ _) | (with_reducible assumption) | (with_reducible refine bel_set ?_ (by (try dsimp only); omega) _) | (with_reducible refine bel_alloc ?_ _) | (with_reducible refine bel_drewN ?_ _) | (with_reducible refine bel_drew ?_) | (with_reducible refine bel_trans ?_ (by assumption)))); done)
  have bN : Blk V1 (w1.heap.size) 32 #[.slice A1 (List.length n1) c1] := by rw [hV1]; exact (Blk.new _ _ _).alloc _
  have zbN := bN.lt
  have bM : Blk V1 (w1.heap.size + 1) 32 #[.slice A2 (List.length n2) c2] := by rw [hV1]; have := Blk.new (w1.alloc (.cells #[.slice A1 (List.length n1) c1] 32)) 32 #[.slice A2 (List.length n2) c2]; rw [World.size_alloc] at this; exact this
  have zbM := bM.lt
  rw [← hV1]
  clear hV1
  replace r0 := Ty.rd_below bV1 r0
  replace rl := Ty.rd_below bV1 rl
  replace r1 := Ty.rd_below bV1 r1
  replace r2 := Ty.rd_below bV1 r2
  replace r3 := Ty.rd_below bV1 r3
  replace hW := bel_trans hW bV1
  clear bV1
  refine Calls.mono (C_impl_SignWithKey _ _ l _ n1 _ n2 _ s t rl r1 r2 r3 sbl sb1 sb2 sb3 ti) ?_
  obtain ⟨x, hx⟩ : ∃ x, x = f0_SignWithKey l n1 n2 s t := ⟨_, rfl⟩
  obtain ⟨ok, hok⟩ : ∃ o, o = f1_SignWithKey l n1 n2 s t := ⟨_, rfl⟩
  rw [← hx] at hbx HPL HNO
  rw [← hok] at HPL HNO
  have HX := Lib.hid hx
  have HK := Lib.hid hok
  rw [← hx, ← hok]
  clear hx hok
  rintro e w2 ⟨cs2, fp2, rfl, how2, -, hb⟩
  obtain ⟨X0, Xa, X1, Xb, X2, Xc, rfl⟩ := ow_Data how2
  have rx := Ty.ow_rd how2
  clear how2
  replace r0 := Ty.rd_below hb r0
  replace rl := Ty.rd_below hb rl
  replace r1 := Ty.rd_below hb r1
  replace r2 := Ty.rd_below hb r2
  replace r3 := Ty.rd_below hb r3
  replace bN := Blk.below bN hb (Blk.lt bN)
  replace bM := Blk.below bM hb (Blk.lt bM)
  replace hW := bel_trans hW hb
  clear hb
  have kN0 : w2.cell? ⟨w1.heap.size, 0, none⟩ = some (.slice A1 (List.length n1) c1) := bN.cell 0
  have kM0 : w2.cell? ⟨w1.heap.size + 1, 0, none⟩ = some (.slice A2 (List.length n2) c2) := bM.cell 0
  have zz2 := bM.lt
  have zz3 := bN.lt
  go_wp2_with fail
  clear zz2 zz3
  clear kN0
  clear kM0
  obtain ⟨V2, hV2⟩ : ∃ V, V = w2.alloc (.cells #[.slice X0 (List.length x.1) Xa, .slice X1 (List.length x.2.1) Xb, .slice X2 (List.length x.2.2.1) Xc, .int .i64 x.2.2.2.1, .int .i64 x.2.2.2.2] 34) := ⟨_, rfl⟩
  have bV2 : Below w2.heap.size w2 V2 := by rw [hV2]; exact (by (repeat' (first | (with_reducible exact Below.refl _ _) | (with_reducible assumption) | (with_reducible refine bel_set ?_ (by (try dsimp only); omega) _) | (with_reducible refine bel_alloc ?_ _) | (with_reducible refine bel_drewN ?_ _) | (with_reducible refine bel_drew ?_) | (with_reducible refine bel_trans ?_ (by assumption)))); done)
  have bX : Blk V2 (w2.heap.size) 34 #[.slice X0 (List.length x.1) Xa, .slice X1 (List.length x.2.1) Xb, .slice X2 (List.length x.2.2.1) Xc, .int .i64 x.2.2.2.1, .int .i64 x.2.2.2.2] := by rw [hV2]; exact Blk.new _ _ _
  have zbX := bX.lt
  rw [← hV2]
  clear hV2
  replace r0 := Ty.rd_below bV2 r0
  replace rl := Ty.rd_below bV2 rl
  replace r1 := Ty.rd_below bV2 r1
  replace r2 := Ty.rd_below bV2 r2
  replace r3 := Ty.rd_below bV2 r3
  replace bN := Blk.below bN bV2 (Blk.lt bN)
  replace bM := Blk.below bM bV2 (Blk.lt bM)
  replace rx := Ty.rd_below bV2 rx
  replace hW := bel_trans hW bV2
  clear bV2
  refine Calls.mono (C_spec_SignWithKey _ _ l _ n1 _ n2 _ s t rl r1 r2 r3 sbl sb1 sb2 sb3 ti) ?_
  rw [← HX.out, ← HK.out]
  rintro e w3 ⟨cs3, fp3, rfl, how3, -, hb⟩
  obtain ⟨Y0, Ya, Y1, Yb, Y2, Yc, rfl⟩ := ow_Data how3
  have ry := Ty.ow_rd how3
  clear how3
  replace r0 := Ty.rd_below hb r0
  replace rl := Ty.rd_below hb rl
  replace r1 := Ty.rd_below hb r1
  replace r2 := Ty.rd_below hb r2
  replace r3 := Ty.rd_below hb r3
  replace bN := Blk.below bN hb (Blk.lt bN)
  replace bM := Blk.below bM hb (Blk.lt bM)
  replace rx := Ty.rd_below hb rx
  replace bX := Blk.below bX hb (Blk.lt bX)
  replace hW := bel_trans hW hb
  clear hb
  go_wp2_with fail
  obtain ⟨V3, hV3⟩ : ∃ V, V = w3.alloc (.cells #[.slice Y0 (List.length x.1) Ya, .slice Y1 (List.length x.2.1) Yb, .slice Y2 (List.length x.2.2.1) Yc, .int .i64 x.2.2.2.1, .int .i64 x.2.2.2.2] 34) := ⟨_, rfl⟩
  have bV3 : Below w3.heap.size w3 V3 := by rw [hV3]; exact (by (repeat' (first | (with_reducible exact Below.refl _ _) | (with_reducible assumption) | (with_reducible refine bel_set ?_ (by (try dsimp only); omega) _) | (with_reducible refine bel_alloc ?_ _) | (with_reducible refine bel_drewN ?_ _) | (with_reducible refine bel_drew ?_) | (with_reducible refine bel_trans ?_ (by assumption)))); done)
  have bY : Blk V3 (w3.heap.size) 34 #[.slice Y0 (List.length x.1) Ya, .slice Y1 (List.length x.2.1) Yb, .slice Y2 (List.length x.2.2.1) Yc, .int .i64 x.2.2.2.1, .int .i64 x.2.2.2.2] := by rw [hV3]; exact Blk.new _ _ _
  have zbY := bY.lt
  rw [← hV3]
  clear hV3
  replace r0 := Ty.rd_below bV3 r0
  replace rl := Ty.rd_below bV3 rl
  replace r1 := Ty.rd_below bV3 r1
  replace r2 := Ty.rd_below bV3 r2
  replace r3 := Ty.rd_below bV3 r3
  replace bN := Blk.below bN bV3 (Blk.lt bN)
  replace bM := Blk.below bM bV3 (Blk.lt bM)
  replace rx := Ty.rd_below bV3 rx
  replace bX := Blk.below bX bV3 (Blk.lt bX)
  replace ry := Ty.rd_below bV3 ry
  replace hW := bel_trans hW bV3
  clear bV3
  refine Calls.mono (C_spec_DrawVerifySignature _ _ x0 r0) ?_
  rintro e w4 ⟨Ap, p, cp, csq, q, rfl, rp, rq, hokp, hokq, hb⟩
  obtain ⟨Q0, Qa, Q1, Qb, Q2, Qc, rfl, -⟩ := rd_Data rq.rd
  replace rp := rp.rd
  replace rq := rq.rd
  have sbp := Nat.le_trans (keys_bulk hokp) (show 568 ≤ 1048576 by decide)
  have sbq := Nat.le_trans (thing_bulk hokq) (show 201 ≤ 1048576 by decide)
  clear hokp hokq
  replace r0 := Ty.rd_below hb r0
  replace rl := Ty.rd_below hb rl
  replace r1 := Ty.rd_below hb r1
  replace r2 := Ty.rd_below hb r2
  replace r3 := Ty.rd_below hb r3
  replace bN := Blk.below bN hb (Blk.lt bN)
  replace bM := Blk.below bM hb (Blk.lt bM)
  replace rx := Ty.rd_below hb rx
  replace bX := Blk.below bX hb (Blk.lt bX)
  replace ry := Ty.rd_below hb ry
  replace bY := Blk.below bY hb (Blk.lt bY)
  replace hW := bel_trans hW hb
  clear hb
  go_wp2_with fail
  obtain ⟨V4, hV4⟩ : ∃ V, V = w4.alloc (.cells #[.slice Q0 (List.length q.1) Qa, .slice Q1 (List.length q.2.1) Qb, .slice Q2 (List.length q.2.2.1) Qc, .int .i64 q.2.2.2.1, .int .i64 q.2.2.2.2] 34) := ⟨_, rfl⟩
  have bV4 : Below w4.heap.size w4 V4 := by rw [hV4]; exact (by (repeat' (first | (with_reducible exact Below.refl _ _) | (with_reducible assumption) | (with_reducible refine bel_set ?_ (by (try dsimp only); omega) _) | (with_reducible refine bel_alloc ?_ _) | (with_reducible refine bel_drewN ?_ _) | (with_reducible refine bel_drew ?_) | (with_reducible refine bel_trans ?_ (by assumption)))); done)
  have bQ : Blk V4 (w4.heap.size) 34 #[.slice Q0 (List.length q.1) Qa, .slice Q1 (List.length q.2.1) Qb, .slice Q2 (List.length q.2.2.1) Qc, .int .i64 q.2.2.2.1, .int .i64 q.2.2.2.2] := by rw [hV4]; exact Blk.new _ _ _
  have zbQ := bQ.lt
  rw [← hV4]
  clear hV4
  replace r0 := Ty.rd_below bV4 r0
  replace rl := Ty.rd_below bV4 rl
  replace r1 := Ty.rd_below bV4 r1
  replace r2 := Ty.rd_below bV4 r2
  replace r3 := Ty.rd_below bV4 r3
  replace bN := Blk.below bN bV4 (Blk.lt bN)
  replace bM := Blk.below bM bV4 (Blk.lt bM)
  replace rx := Ty.rd_below bV4 rx
  replace bX := Blk.below bX bV4 (Blk.lt bX)
  replace ry := Ty.rd_below bV4 ry
  replace bY := Blk.below bY bV4 (Blk.lt bY)
  replace rp := Ty.rd_below bV4 rp
  replace rq := Ty.rd_below bV4 rq
  replace hW := bel_trans hW bV4
  clear bV4
  refine Calls.mono (C_spec_DrawAddKey _ _ x0 r0) ?_
  rintro e w5 ⟨Aa, a, ca, K0, ka, k, rfl, ra, rk, hoka, hokk, hb⟩
  have sba := Nat.le_trans (keys_bulk hoka) (show 568 ≤ 1048576 by decide)
  have sbk := Nat.le_trans (key_bulk hokk) (show 70 ≤ 1048576 by decide)
  have sbc := Lib.hid (add_bulk (keys_bulk hoka) (key_bulk hokk))
  have sbkn := Nat.le_trans (any_bulk hokk.1) (show 70 ≤ 1048576 by decide)
  clear hoka hokk
  replace r0 := Ty.rd_below hb r0
  replace rl := Ty.rd_below hb rl
  replace r1 := Ty.rd_below hb r1
  replace r2 := Ty.rd_below hb r2
  replace r3 := Ty.rd_below hb r3
  replace bN := Blk.below bN hb (Blk.lt bN)
  replace bM := Blk.below bM hb (Blk.lt bM)
  replace rx := Ty.rd_below hb rx
  replace bX := Blk.below bX hb (Blk.lt bX)
  replace ry := Ty.rd_below hb ry
  replace bY := Blk.below bY hb (Blk.lt bY)
  replace rp := Ty.rd_below hb rp
  replace rq := Ty.rd_below hb rq
  replace bQ := Blk.below bQ hb (Blk.lt bQ)
  replace hW := bel_trans hW hb
  clear hb
  go_wp2_with fail
  obtain ⟨V5, hV5⟩ : ∃ V, V = w5.alloc (.cells #[.slice K0 (List.length k.1) ka, .int .i64 k.2] 68) := ⟨_, rfl⟩
  have bV5 : Below w5.heap.size w5 V5 := by rw [hV5]; exact (by (repeat' (first | (with_reducible exact Below.refl _ _) | (with_reducible assumption) | (with_reducible refine bel_set ?_ (by (try dsimp only); omega) _) | (with_reducible refine bel_alloc ?_ _) | (with_reducible refine bel_drewN ?_ _) | (with_reducible refine bel_drew ?_) | (with_reducible refine bel_trans ?_ (by assumption)))); done)
  have bK : Blk V5 (w5.heap.size) 68 #[.slice K0 (List.length k.1) ka, .int .i64 k.2] := by rw [hV5]; exact Blk.new _ _ _
  have zbK := bK.lt
  rw [← hV5]
  clear hV5
  replace r0 := Ty.rd_below bV5 r0
  replace rl := Ty.rd_below bV5 rl
  replace r1 := Ty.rd_below bV5 r1
  replace r2 := Ty.rd_below bV5 r2
  replace r3 := Ty.rd_below bV5 r3
  replace bN := Blk.below bN bV5 (Blk.lt bN)
  replace bM := Blk.below bM bV5 (Blk.lt bM)
  replace rx := Ty.rd_below bV5 rx
  replace bX := Blk.below bX bV5 (Blk.lt bX)
  replace ry := Ty.rd_below bV5 ry
  replace bY := Blk.below bY bV5 (Blk.lt bY)
  replace rp := Ty.rd_below bV5 rp
  replace rq := Ty.rd_below bV5 rq
  replace bQ := Blk.below bQ bV5 (Blk.lt bQ)
  replace ra := Ty.rd_below bV5 ra
  replace rk := Ty.rd_below bV5 rk
  replace hW := bel_trans hW bV5
  clear bV5
  refine Calls.mono (C_impl_AddKey _ _ a _ k ra rk sba sbk) ?_
  have HADD := Lib.hid (@add_keys a k)
  obtain ⟨ac, hac⟩ : ∃ y, y = f0_AddKey a k := ⟨_, rfl⟩
  obtain ⟨may, hmay⟩ : ∃ o, o = f1_AddKey a k := ⟨_, rfl⟩
  rw [← hac] at HADD sbc
  rw [← hmay] at HADD
  have HAC := Lib.hid hac
  have HMAY := Lib.hid hmay
  rw [← hac, ← hmay]
  clear hac hmay
  rintro e w6 ⟨Ac, cc, fp6, rfl, how6, -, hb⟩
  have rc := Ty.ow_rd how6
  clear how6
  replace r0 := Ty.rd_below hb r0
  replace rl := Ty.rd_below hb rl
  replace r1 := Ty.rd_below hb r1
  replace r2 := Ty.rd_below hb r2
  replace r3 := Ty.rd_below hb r3
  replace bN := Blk.below bN hb (Blk.lt bN)
  replace bM := Blk.below bM hb (Blk.lt bM)
  replace rx := Ty.rd_below hb rx
  replace bX := Blk.below bX hb (Blk.lt bX)
  replace ry := Ty.rd_below hb ry
  replace bY := Blk.below bY hb (Blk.lt bY)
  replace rp := Ty.rd_below hb rp
  replace rq := Ty.rd_below hb rq
  replace bQ := Blk.below bQ hb (Blk.lt bQ)
  replace ra := Ty.rd_below hb ra
  replace rk := Ty.rd_below hb rk
  replace bK := Blk.below bK hb (Blk.lt bK)
  replace hW := bel_trans hW hb
  clear hb
  have kK0 : w6.cell? ⟨w5.heap.size, 0, none⟩ = some (.slice K0 (List.length k.1) ka) := bK.cell 0
  have kK1 : w6.cell? ⟨w5.heap.size, 1, none⟩ = some (.int .i64 k.2) := bK.cell 1
  go_wp2_with fail
  clear kK0 kK1
  refine Calls.mono (C_spec_AddKey _ _ a _ k ra rk sba sbk) ?_
  rw [← HAC.out, ← HMAY.out]
  rintro e w7 ⟨Ad, cd, fp7, rfl, how7, -, hb⟩
  have rd_ := Ty.ow_rd how7
  clear how7
  replace r0 := Ty.rd_below hb r0
  replace rl := Ty.rd_below hb rl
  replace r1 := Ty.rd_below hb r1
  replace r2 := Ty.rd_below hb r2
  replace r3 := Ty.rd_below hb r3
  replace bN := Blk.below bN hb (Blk.lt bN)
  replace bM := Blk.below bM hb (Blk.lt bM)
  replace rx := Ty.rd_below hb rx
  replace bX := Blk.below bX hb (Blk.lt bX)
  replace ry := Ty.rd_below hb ry
  replace bY := Blk.below bY hb (Blk.lt bY)
  replace rp := Ty.rd_below hb rp
  replace rq := Ty.rd_below hb rq
  replace bQ := Blk.below bQ hb (Blk.lt bQ)
  replace ra := Ty.rd_below hb ra
  replace rk := Ty.rd_below hb rk
  replace bK := Blk.below bK hb (Blk.lt bK)
  replace rc := Ty.rd_below hb rc
  replace hW := bel_trans hW hb
  clear hb
  go_wp2_with fail
  refine Calls.mono (C_spec_DrawSecretOf _ _ x0 r0) ?_
  rintro e w8 ⟨As, ss, csx, M0, m, ma, rfl, rs, rm, hoks, hokm, hb⟩
  have sbs := Nat.le_trans (keys_bulk hoks) (show 568 ≤ 1048576 by decide)
  have sbm := Nat.le_trans (any_bulk hokm) (show 70 ≤ 1048576 by decide)
  clear hoks hokm
  replace r0 := Ty.rd_below hb r0
  replace rl := Ty.rd_below hb rl
  replace r1 := Ty.rd_below hb r1
  replace r2 := Ty.rd_below hb r2
  replace r3 := Ty.rd_below hb r3
  replace bN := Blk.below bN hb (Blk.lt bN)
  replace bM := Blk.below bM hb (Blk.lt bM)
  replace rx := Ty.rd_below hb rx
  replace bX := Blk.below bX hb (Blk.lt bX)
  replace ry := Ty.rd_below hb ry
  replace bY := Blk.below bY hb (Blk.lt bY)
  replace rp := Ty.rd_below hb rp
  replace rq := Ty.rd_below hb rq
  replace bQ := Blk.below bQ hb (Blk.lt bQ)
  replace ra := Ty.rd_below hb ra
  replace rk := Ty.rd_below hb rk
  replace bK := Blk.below bK hb (Blk.lt bK)
  replace rc := Ty.rd_below hb rc
  replace rd_ := Ty.rd_below hb rd_
  replace hW := bel_trans hW hb
  clear hb
  go_wp2_with fail
  obtain ⟨V8, hV8⟩ : ∃ V, V = w8.alloc (.cells #[.slice M0 (List.length m) ma] 32) := ⟨_, rfl⟩
  have bV8 : Below w8.heap.size w8 V8 := by rw [hV8]; exact (by (repeat' (first | (with_reducible exact Below.refl _ _) | (with_reducible assumption) | (with_reducible refine bel_set ?_ (by (try dsimp only); omega) _) | (with_reducible refine bel_alloc ?_ _) | (with_reducible refine bel_drewN ?_ _) | (with_reducible refine bel_drew ?_) | (with_reducible refine bel_trans ?_ (by assumption)))); done)
  have bS : Blk V8 (w8.heap.size) 32 #[.slice M0 (List.length m) ma] := by rw [hV8]; exact Blk.new _ _ _
  have zbS := bS.lt
  rw [← hV8]
  clear hV8
  replace r0 := Ty.rd_below bV8 r0
  replace rl := Ty.rd_below bV8 rl
  replace r1 := Ty.rd_below bV8 r1
  replace r2 := Ty.rd_below bV8 r2
  replace r3 := Ty.rd_below bV8 r3
  replace bN := Blk.below bN bV8 (Blk.lt bN)
  replace bM := Blk.below bM bV8 (Blk.lt bM)
  replace rx := Ty.rd_below bV8 rx
  replace bX := Blk.below bX bV8 (Blk.lt bX)
  replace ry := Ty.rd_below bV8 ry
  replace bY := Blk.below bY bV8 (Blk.lt bY)
  replace rp := Ty.rd_below bV8 rp
  replace rq := Ty.rd_below bV8 rq
  replace bQ := Blk.below bQ bV8 (Blk.lt bQ)
  replace ra := Ty.rd_below bV8 ra
  replace rk := Ty.rd_below bV8 rk
  replace bK := Blk.below bK bV8 (Blk.lt bK)
  replace rc := Ty.rd_below bV8 rc
  replace rd_ := Ty.rd_below bV8 rd_
  replace rs := Ty.rd_below bV8 rs
  replace rm := Ty.rd_below bV8 rm
  replace hW := bel_trans hW bV8
  clear bV8
  have HC : Hid (∀ V, Below V8.heap.size V8 V → V.cell? ⟨w2.heap.size, 0, none⟩ = some (.slice X0 (List.length x.1) Xa) ∧ V.cell? ⟨w2.heap.size, 1, none⟩ = some (.slice X1 (List.length x.2.1) Xb) ∧ V.cell? ⟨w2.heap.size, 2, none⟩ = some (.slice X2 (List.length x.2.2.1) Xc) ∧ V.cell? ⟨w2.heap.size, 3, none⟩ = some (.int .i64 x.2.2.2.1) ∧ V.cell? ⟨w2.heap.size, 4, none⟩ = some (.int .i64 x.2.2.2.2) ∧ V.cell? ⟨w3.heap.size, 0, none⟩ = some (.slice Y0 (List.length x.1) Ya) ∧ V.cell? ⟨w3.heap.size, 1, none⟩ = some (.slice Y1 (List.length x.2.1) Yb) ∧ V.cell? ⟨w3.heap.size, 2, none⟩ = some (.slice Y2 (List.length x.2.2.1) Yc) ∧ V.cell? ⟨w3.heap.size, 3, none⟩ = some (.int .i64 x.2.2.2.1) ∧ V.cell? ⟨w3.heap.size, 4, none⟩ = some (.int .i64 x.2.2.2.2) ∧ V.cell? ⟨w4.heap.size, 0, none⟩ = some (.slice Q0 (List.length q.1) Qa) ∧ V.cell? ⟨w4.heap.size, 1, none⟩ = some (.slice Q1 (List.length q.2.1) Qb) ∧ V.cell? ⟨w4.heap.size, 2, none⟩ = some (.slice Q2 (List.length q.2.2.1) Qc) ∧ V.cell? ⟨w4.heap.size, 3, none⟩ = some (.int .i64 q.2.2.2.1) ∧ V.cell? ⟨w4.heap.size, 4, none⟩ = some (.int .i64 q.2.2.2.2) ∧ V.cell? ⟨w5.heap.size, 0, none⟩ = some (.slice K0 (List.length k.1) ka) ∧ V.cell? ⟨w5.heap.size, 1, none⟩ = some (.int .i64 k.2) ∧ V.cell? ⟨w8.heap.size, 0, none⟩ = some (.slice M0 (List.length m) ma)) := fun V hV => ⟨(bX.below hV bX.lt).cell 0, (bX.below hV bX.lt).cell 1, (bX.below hV bX.lt).cell 2, (bX.below hV bX.lt).cell 3, (bX.below hV bX.lt).cell 4, (bY.below hV bY.lt).cell 0, (bY.below hV bY.lt).cell 1, (bY.below hV bY.lt).cell 2, (bY.below hV bY.lt).cell 3, (bY.below hV bY.lt).cell 4, (bQ.below hV bQ.lt).cell 0, (bQ.below hV bQ.lt).cell 1, (bQ.below hV bQ.lt).cell 2, (bQ.below hV bQ.lt).cell 3, (bQ.below hV bQ.lt).cell 4, (bK.below hV bK.lt).cell 0, (bK.below hV bK.lt).cell 1, (bS.below hV bS.lt).cell 0⟩
  go_wp2_with fail
  refine wp_region_noPanic ?_
  refine wp_region_held_drew (S := (fun V => V.cell? ⟨w2.heap.size, 0, none⟩ = some (.slice X0 (List.length x.1) Xa) ∧ V.cell? ⟨w2.heap.size, 1, none⟩ = some (.slice X1 (List.length x.2.1) Xb) ∧ V.cell? ⟨w2.heap.size, 2, none⟩ = some (.slice X2 (List.length x.2.2.1) Xc) ∧ V.cell? ⟨w2.heap.size, 3, none⟩ = some (.int .i64 x.2.2.2.1) ∧ V.cell? ⟨w2.heap.size, 4, none⟩ = some (.int .i64 x.2.2.2.2) ∧ V.cell? ⟨w3.heap.size, 0, none⟩ = some (.slice Y0 (List.length x.1) Ya) ∧ V.cell? ⟨w3.heap.size, 1, none⟩ = some (.slice Y1 (List.length x.2.1) Yb) ∧ V.cell? ⟨w3.heap.size, 2, none⟩ = some (.slice Y2 (List.length x.2.2.1) Yc) ∧ V.cell? ⟨w3.heap.size, 3, none⟩ = some (.int .i64 x.2.2.2.1) ∧ V.cell? ⟨w3.heap.size, 4, none⟩ = some (.int .i64 x.2.2.2.2) ∧ V.cell? ⟨w4.heap.size, 0, none⟩ = some (.slice Q0 (List.length q.1) Qa) ∧ V.cell? ⟨w4.heap.size, 1, none⟩ = some (.slice Q1 (List.length q.2.1) Qb) ∧ V.cell? ⟨w4.heap.size, 2, none⟩ = some (.slice Q2 (List.length q.2.2.1) Qc) ∧ V.cell? ⟨w4.heap.size, 3, none⟩ = some (.int .i64 q.2.2.2.1) ∧ V.cell? ⟨w4.heap.size, 4, none⟩ = some (.int .i64 q.2.2.2.2) ∧ V.cell? ⟨w5.heap.size, 0, none⟩ = some (.slice K0 (List.length k.1) ka) ∧ V.cell? ⟨w5.heap.size, 1, none⟩ = some (.int .i64 k.2) ∧ V.cell? ⟨w8.heap.size, 0, none⟩ = some (.slice M0 (List.length m) ma))) (by kernel_rfl) ?_ (fun hHeld => ?_)
  · exact HC.out _ (by (repeat' (first | (with_reducible exact Below.refl _ _) | (with_reducible assumption) | (with_reducible refine bel_set ?_ (by (try dsimp only); omega) _) | (with_reducible refine bel_alloc ?_ _) | (with_reducible refine bel_drewN ?_ _) | (with_reducible refine bel_drew ?_) | (with_reducible refine bel_trans ?_ (by assumption)))); done)
  refine tk 0 (opN rfl) (by kernel_rfl) (by rfl) (by (intro w hSw; (try dsimp only at hSw); go_simp; first | done | with_reducible rfl)) (by assumption) ?_
  try simp only [Act.put, List.setIfInBounds_toArray, List.set_cons_zero, List.set_cons_succ]
  refine tk 1 (opN rfl) (by kernel_rfl) (by rfl) (by (intro w hSw; (try dsimp only at hSw); go_simp; first | done | with_reducible rfl)) (by assumption) ?_
  try simp only [Act.put, List.setIfInBounds_toArray, List.set_cons_zero, List.set_cons_succ]
  refine wpAnyH_ready (rs := [2]) (by kernel_rfl) (by simp) ?_
  refine (AllReadyH.cons (opN rfl) (fun K hK => ?_) AllReadyH.nil)
  go_simp
  go_at_call 25
  refine Calls.mono (C_laws_sameThingG _ _ x _ x (Ty.rd_below (by (repeat' (first | (with_reducible exact Below.refl _ _) | (with_reducible assumption) | (with_reducible refine bel_set ?_ (by (try dsimp only); omega) _) | (with_reducible refine bel_alloc ?_ _) | (with_reducible refine bel_drewN ?_ _) | (with_reducible refine bel_drew ?_) | (with_reducible refine bel_trans ?_ (by assumption)))); done) rx) (Ty.rd_below (by (repeat' (first | (with_reducible exact Below.refl _ _) | (with_reducible assumption) | (with_reducible refine bel_set ?_ (by (try dsimp only); omega) _) | (with_reducible refine bel_alloc ?_ _) | (with_reducible refine bel_drewN ?_ _) | (with_reducible refine bel_drew ?_) | (with_reducible refine bel_trans ?_ (by assumption)))); done) ry) hbx.out hbx.out) ?_
  rw [eqData_self]
  rintro e u2 ⟨rfl, hu2⟩
  refine hK.out _ _ ?_ (fun hHeld => ?_)
  · (try dsimp only)
    exact HC.out _ (by (repeat' (first | (with_reducible exact Below.refl _ _) | (with_reducible assumption) | (with_reducible refine bel_set ?_ (by (try dsimp only); omega) _) | (with_reducible refine bel_alloc ?_ _) | (with_reducible refine bel_drewN ?_ _) | (with_reducible refine bel_drew ?_) | (with_reducible refine bel_trans ?_ (by assumption)))); done)
  clear hK K
  try simp only [Act.put, List.setIfInBounds_toArray, List.set_cons_zero, List.set_cons_succ]
  refine tk 3 (opN rfl) (by kernel_rfl) (by rfl) (by (intro w hSw; (try dsimp only at hSw); go_simp; first | done | with_reducible rfl)) (by assumption) ?_
  try simp only [Act.put, List.setIfInBounds_toArray, List.set_cons_zero, List.set_cons_succ]
  refine tk 4 (opN rfl) (by kernel_rfl) (by rfl) (by (intro w hSw; (try dsimp only at hSw); go_simp; first | done | with_reducible rfl)) (by assumption) ?_
  try simp only [Act.put, List.setIfInBounds_toArray, List.set_cons_zero, List.set_cons_succ]
  refine tk 5 (opN rfl) (by kernel_rfl) (by rfl) (by (intro w hSw; (try dsimp only at hSw); go_simp; first | done | with_reducible rfl)) (by assumption) ?_
  try simp only [Act.put, List.setIfInBounds_toArray, List.set_cons_zero, List.set_cons_succ]
  refine tk 6 (opN rfl) (by kernel_rfl) (by rfl) (by (intro w hSw; (try dsimp only at hSw); go_simp; first | done | with_reducible rfl)) (by assumption) ?_
  try simp only [Act.put, List.setIfInBounds_toArray, List.set_cons_zero, List.set_cons_succ]
  refine tk 7 (opN rfl) (by kernel_rfl) (by rfl) (by (intro w hSw; (try dsimp only at hSw); go_simp; first | done | with_reducible rfl)) (by assumption) ?_
  try simp only [Act.put, List.setIfInBounds_toArray, List.set_cons_zero, List.set_cons_succ]
  refine tk 8 (opN rfl) (by kernel_rfl) (by rfl) (by (intro w hSw; (try dsimp only at hSw); go_simp; first | done | with_reducible rfl)) (by assumption) ?_
  try simp only [Act.put, List.setIfInBounds_toArray, List.set_cons_zero, List.set_cons_succ]
  refine tk 9 (opN rfl) (by kernel_rfl) (by rfl) (by (intro w hSw; (try dsimp only at hSw); go_simp; first | done | with_reducible rfl)) (by assumption) ?_
  try simp only [Act.put, List.setIfInBounds_toArray, List.set_cons_zero, List.set_cons_succ]
  refine tk 10 (opN rfl) (by kernel_rfl) (by rfl) (by (intro w hSw; (try dsimp only at hSw); go_simp; first | done | with_reducible rfl)) (by assumption) ?_
  try simp only [Act.put, List.setIfInBounds_toArray, List.set_cons_zero, List.set_cons_succ]
  refine tk 11 (opN rfl) (by kernel_rfl) (by rfl) (by (intro w hSw; (try dsimp only at hSw); go_simp; first | done | with_reducible rfl)) (by assumption) ?_
  try simp only [Act.put, List.setIfInBounds_toArray, List.set_cons_zero, List.set_cons_succ]
  refine tk 13 (opN rfl) (by kernel_rfl) (by rfl) (by (intro w hSw; (try dsimp only at hSw); go_simp; first | done | with_reducible rfl)) (by assumption) ?_
  try simp only [Act.put, List.setIfInBounds_toArray, List.set_cons_zero, List.set_cons_succ]
  refine tk 14 (opN rfl) (by kernel_rfl) (by rfl) (by (intro w hSw; (try dsimp only at hSw); go_simp; first | done | with_reducible rfl)) (by assumption) ?_
  try simp only [Act.put, List.setIfInBounds_toArray, List.set_cons_zero, List.set_cons_succ]
  refine wpAnyH_ready (rs := [12]) (by kernel_rfl) (by simp) ?_
  refine (AllReadyH.cons (opN rfl) (fun K hK => ?_) AllReadyH.nil)
  go_simp
  go_at_call 31
  refine Calls.mono (C_impl_VerifySignature _ _ p _ q (Ty.rd_below (by (repeat' (first | (with_reducible exact Below.refl _ _) | (with_reducible assumption) | (with_reducible refine bel_set ?_ (by (try dsimp only); omega) _) | (with_reducible refine bel_alloc ?_ _) | (with_reducible refine bel_drewN ?_ _) | (with_reducible refine bel_drew ?_) | (with_reducible refine bel_trans ?_ (by assumption)))); done) rp) (Ty.rd_below (by (repeat' (first | (with_reducible exact Below.refl _ _) | (with_reducible assumption) | (with_reducible refine bel_set ?_ (by (try dsimp only); omega) _) | (with_reducible refine bel_alloc ?_ _) | (with_reducible refine bel_drewN ?_ _) | (with_reducible refine bel_drew ?_) | (with_reducible refine bel_trans ?_ (by assumption)))); done) rq) sbp sbq) ?_
  rintro e u12 ⟨rfl, hu12⟩
  refine hK.out _ _ ?_ (fun hHeld => ?_)
  · (try dsimp only)
    exact HC.out _ (by (repeat' (first | (with_reducible exact Below.refl _ _) | (with_reducible assumption) | (with_reducible refine bel_set ?_ (by (try dsimp only); omega) _) | (with_reducible refine bel_alloc ?_ _) | (with_reducible refine bel_drewN ?_ _) | (with_reducible refine bel_drew ?_) | (with_reducible refine bel_trans ?_ (by assumption)))); done)
  clear hK K
  try simp only [Act.put, List.setIfInBounds_toArray, List.set_cons_zero, List.set_cons_succ]
  refine wpAnyH_ready (rs := [15]) (by kernel_rfl) (by simp) ?_
  refine (AllReadyH.cons (opN rfl) (fun K hK => ?_) AllReadyH.nil)
  go_simp
  go_at_call 42
  refine Calls.mono (C_spec_VerifySignature _ _ p _ q (Ty.rd_below (by (repeat' (first | (with_reducible exact Below.refl _ _) | (with_reducible assumption) | (with_reducible refine bel_set ?_ (by (try dsimp only); omega) _) | (with_reducible refine bel_alloc ?_ _) | (with_reducible refine bel_drewN ?_ _) | (with_reducible refine bel_drew ?_) | (with_reducible refine bel_trans ?_ (by assumption)))); done) rp) (Ty.rd_below (by (repeat' (first | (with_reducible exact Below.refl _ _) | (with_reducible assumption) | (with_reducible refine bel_set ?_ (by (try dsimp only); omega) _) | (with_reducible refine bel_alloc ?_ _) | (with_reducible refine bel_drewN ?_ _) | (with_reducible refine bel_drew ?_) | (with_reducible refine bel_trans ?_ (by assumption)))); done) rq) sbp sbq) ?_
  rintro e u15 ⟨rfl, hu15⟩
  refine hK.out _ _ ?_ (fun hHeld => ?_)
  · (try dsimp only)
    exact HC.out _ (by (repeat' (first | (with_reducible exact Below.refl _ _) | (with_reducible assumption) | (with_reducible refine bel_set ?_ (by (try dsimp only); omega) _) | (with_reducible refine bel_alloc ?_ _) | (with_reducible refine bel_drewN ?_ _) | (with_reducible refine bel_drew ?_) | (with_reducible refine bel_trans ?_ (by assumption)))); done)
  clear hK K
  try simp only [Act.put, List.setIfInBounds_toArray, List.set_cons_zero, List.set_cons_succ]
  refine tk 16 (opN rfl) (by kernel_rfl) (by rfl) (by (intro w hSw; (try dsimp only at hSw); go_simp; first | done | with_reducible rfl)) (by assumption) ?_
  try simp only [Act.put, List.setIfInBounds_toArray, List.set_cons_zero, List.set_cons_succ]
  refine tk 17 (opN rfl) (by kernel_rfl) (by rfl) (by (intro w hSw; (try dsimp only at hSw); go_simp; first | done | with_reducible rfl)) (by assumption) ?_
  try simp only [Act.put, List.setIfInBounds_toArray, List.set_cons_zero, List.set_cons_succ]
  refine tk 18 (opN rfl) (by kernel_rfl) (by rfl) (by (intro w hSw; (try dsimp only at hSw); go_simp; first | done | with_reducible rfl)) (by assumption) ?_
  try simp only [Act.put, List.setIfInBounds_toArray, List.set_cons_zero, List.set_cons_succ]
  refine tk 19 (opN rfl) (by kernel_rfl) (by rfl) (by (intro w hSw; (try dsimp only at hSw); go_simp; first | done | with_reducible rfl)) (by assumption) ?_
  try simp only [Act.put, List.setIfInBounds_toArray, List.set_cons_zero, List.set_cons_succ]
  refine tk 20 (opN rfl) (by kernel_rfl) (by rfl) (by (intro w hSw; (try dsimp only at hSw); go_simp; first | done | with_reducible rfl)) (by assumption) ?_
  try simp only [Act.put, List.setIfInBounds_toArray, List.set_cons_zero, List.set_cons_succ]
  refine tk 22 (opN rfl) (by kernel_rfl) (by rfl) (by (intro w hSw; (try dsimp only at hSw); go_simp; first | done | with_reducible rfl)) (by assumption) ?_
  try simp only [Act.put, List.setIfInBounds_toArray, List.set_cons_zero, List.set_cons_succ]
  refine tk 23 (opN rfl) (by kernel_rfl) (by rfl) (by (intro w hSw; (try dsimp only at hSw); go_simp; first | done | with_reducible rfl)) (by assumption) ?_
  try simp only [Act.put, List.setIfInBounds_toArray, List.set_cons_zero, List.set_cons_succ]
  refine wpAnyH_ready (rs := [21]) (by kernel_rfl) (by simp) ?_
  refine (AllReadyH.cons (opN rfl) (fun K hK => ?_) AllReadyH.nil)
  go_simp
  go_at_call 44
  refine Calls.mono (C_impl_MatchingKeys _ _ p _ q (Ty.rd_below (by (repeat' (first | (with_reducible exact Below.refl _ _) | (with_reducible assumption) | (with_reducible refine bel_set ?_ (by (try dsimp only); omega) _) | (with_reducible refine bel_alloc ?_ _) | (with_reducible refine bel_drewN ?_ _) | (with_reducible refine bel_drew ?_) | (with_reducible refine bel_trans ?_ (by assumption)))); done) rp) (Ty.rd_below (by (repeat' (first | (with_reducible exact Below.refl _ _) | (with_reducible assumption) | (with_reducible refine bel_set ?_ (by (try dsimp only); omega) _) | (with_reducible refine bel_alloc ?_ _) | (with_reducible refine bel_drewN ?_ _) | (with_reducible refine bel_drew ?_) | (with_reducible refine bel_trans ?_ (by assumption)))); done) rq) sbp sbq) ?_
  rintro e u21 ⟨A21, c21, f21, rfl, how21, -, hu21⟩
  have r21 := Ty.ow_rd how21
  clear how21
  refine hK.out _ _ ?_ (fun hHeld => ?_)
  · (try dsimp only)
    exact HC.out _ (by (repeat' (first | (with_reducible exact Below.refl _ _) | (with_reducible assumption) | (with_reducible refine bel_set ?_ (by (try dsimp only); omega) _) | (with_reducible refine bel_alloc ?_ _) | (with_reducible refine bel_drewN ?_ _) | (with_reducible refine bel_drew ?_) | (with_reducible refine bel_trans ?_ (by assumption)))); done)
  clear hK K
  try simp only [Act.put, List.setIfInBounds_toArray, List.set_cons_zero, List.set_cons_succ]
  refine wpAnyH_ready (rs := [24]) (by kernel_rfl) (by simp) ?_
  refine (AllReadyH.cons (opN rfl) (fun K hK => ?_) AllReadyH.nil)
  go_simp
  go_at_call 45
  refine Calls.mono (C_spec_MatchingKeys _ _ p _ q (Ty.rd_below (by (repeat' (first | (with_reducible exact Below.refl _ _) | (with_reducible assumption) | (with_reducible refine bel_set ?_ (by (try dsimp only); omega) _) | (with_reducible refine bel_alloc ?_ _) | (with_reducible refine bel_drewN ?_ _) | (with_reducible refine bel_drew ?_) | (with_reducible refine bel_trans ?_ (by assumption)))); done) rp) (Ty.rd_below (by (repeat' (first | (with_reducible exact Below.refl _ _) | (with_reducible assumption) | (with_reducible refine bel_set ?_ (by (try dsimp only); omega) _) | (with_reducible refine bel_alloc ?_ _) | (with_reducible refine bel_drewN ?_ _) | (with_reducible refine bel_drew ?_) | (with_reducible refine bel_trans ?_ (by assumption)))); done) rq) sbp sbq) ?_
  rintro e u24 ⟨A24, c24, f24, rfl, how24, -, hu24⟩
  have r24 := Ty.ow_rd how24
  clear how24
  refine hK.out _ _ ?_ (fun hHeld => ?_)
  · (try dsimp only)
    exact HC.out _ (by (repeat' (first | (with_reducible exact Below.refl _ _) | (with_reducible assumption) | (with_reducible refine bel_set ?_ (by (try dsimp only); omega) _) | (with_reducible refine bel_alloc ?_ _) | (with_reducible refine bel_drewN ?_ _) | (with_reducible refine bel_drew ?_) | (with_reducible refine bel_trans ?_ (by assumption)))); done)
  clear hK K
  try simp only [Act.put, List.setIfInBounds_toArray, List.set_cons_zero, List.set_cons_succ]
  refine wpAnyH_ready (rs := [25]) (by kernel_rfl) (by simp) ?_
  refine (AllReadyH.cons (opN rfl) (fun K hK => ?_) AllReadyH.nil)
  go_simp
  go_at_call 43
  refine Calls.mono (C_laws_sameIntsG _ _ _ _ _ (Ty.rd_below (by (repeat' (first | (with_reducible exact Below.refl _ _) | (with_reducible assumption) | (with_reducible refine bel_set ?_ (by (try dsimp only); omega) _) | (with_reducible refine bel_alloc ?_ _) | (with_reducible refine bel_drewN ?_ _) | (with_reducible refine bel_drew ?_) | (with_reducible refine bel_trans ?_ (by assumption)))); done) r21) (Ty.rd_below (by (repeat' (first | (with_reducible exact Below.refl _ _) | (with_reducible assumption) | (with_reducible refine bel_set ?_ (by (try dsimp only); omega) _) | (with_reducible refine bel_alloc ?_ _) | (with_reducible refine bel_drewN ?_ _) | (with_reducible refine bel_drew ?_) | (with_reducible refine bel_trans ?_ (by assumption)))); done) r24)) ?_
  rw [decide_self]
  rintro e u25 ⟨rfl, hu25⟩
  refine hK.out _ _ ?_ (fun hHeld => ?_)
  · (try dsimp only)
    exact HC.out _ (by (repeat' (first | (with_reducible exact Below.refl _ _) | (with_reducible assumption) | (with_reducible refine bel_set ?_ (by (try dsimp only); omega) _) | (with_reducible refine bel_alloc ?_ _) | (with_reducible refine bel_drewN ?_ _) | (with_reducible refine bel_drew ?_) | (with_reducible refine bel_trans ?_ (by assumption)))); done)
  clear hK K
  try simp only [Act.put, List.setIfInBounds_toArray, List.set_cons_zero, List.set_cons_succ]
  refine tk 26 (opN rfl) (by kernel_rfl) (by rfl) (by (intro w hSw; (try dsimp only at hSw); go_simp; first | done | with_reducible rfl)) (by assumption) ?_
  try simp only [Act.put, List.setIfInBounds_toArray, List.set_cons_zero, List.set_cons_succ]
  refine tk 27 (opN rfl) (by kernel_rfl) (by rfl) (by (intro w hSw; (try dsimp only at hSw); go_simp; first | done | with_reducible rfl)) (by assumption) ?_
  try simp only [Act.put, List.setIfInBounds_toArray, List.set_cons_zero, List.set_cons_succ]
  refine tk 28 (opN rfl) (by kernel_rfl) (by rfl) (by (intro w hSw; (try dsimp only at hSw); go_simp; first | done | with_reducible rfl)) (by assumption) ?_
  try simp only [Act.put, List.setIfInBounds_toArray, List.set_cons_zero, List.set_cons_succ]
  refine tk 29 (opN rfl) (by kernel_rfl) (by rfl) (by (intro w hSw; (try dsimp only at hSw); go_simp; first | done | with_reducible rfl)) (by assumption) ?_
  try simp only [Act.put, List.setIfInBounds_toArray, List.set_cons_zero, List.set_cons_succ]
  refine tk 30 (opN rfl) (by kernel_rfl) (by rfl) (by (intro w hSw; (try dsimp only at hSw); go_simp; first | done | with_reducible rfl)) (by assumption) ?_
  try simp only [Act.put, List.setIfInBounds_toArray, List.set_cons_zero, List.set_cons_succ]
  refine wpAnyH_ready (rs := [31]) (by kernel_rfl) (by simp) ?_
  refine (AllReadyH.cons (opN rfl) (fun K hK => ?_) AllReadyH.nil)
  go_simp
  go_at_call 46
  refine Calls.mono (C_laws_sameKeys _ _ _ ac (Ty.rd_below (by (repeat' (first | (with_reducible exact Below.refl _ _) | (with_reducible assumption) | (with_reducible refine bel_set ?_ (by (try dsimp only); omega) _) | (with_reducible refine bel_alloc ?_ _) | (with_reducible refine bel_drewN ?_ _) | (with_reducible refine bel_drew ?_) | (with_reducible refine bel_trans ?_ (by assumption)))); done) rc) (Ty.rd_below (by (repeat' (first | (with_reducible exact Below.refl _ _) | (with_reducible assumption) | (with_reducible refine bel_set ?_ (by (try dsimp only); omega) _) | (with_reducible refine bel_alloc ?_ _) | (with_reducible refine bel_drewN ?_ _) | (with_reducible refine bel_drew ?_) | (with_reducible refine bel_trans ?_ (by assumption)))); done) rd_)) ?_
  rintro e u31 ⟨rfl, hu31⟩
  refine hK.out _ _ ?_ (fun hHeld => ?_)
  · (try dsimp only)
    exact HC.out _ (by (repeat' (first | (with_reducible exact Below.refl _ _) | (with_reducible assumption) | (with_reducible refine bel_set ?_ (by (try dsimp only); omega) _) | (with_reducible refine bel_alloc ?_ _) | (with_reducible refine bel_drewN ?_ _) | (with_reducible refine bel_drew ?_) | (with_reducible refine bel_trans ?_ (by assumption)))); done)
  clear hK K
  try simp only [Act.put, List.setIfInBounds_toArray, List.set_cons_zero, List.set_cons_succ]
  refine tk 32 (opN rfl) (by kernel_rfl) (by rfl) (by (intro w hSw; (try dsimp only at hSw); go_simp; first | done | with_reducible rfl)) (by assumption) ?_
  try simp only [Act.put, List.setIfInBounds_toArray, List.set_cons_zero, List.set_cons_succ]
  refine tk 33 (opN rfl) (by kernel_rfl) (by rfl) (by (intro w hSw; (try dsimp only at hSw); go_simp; first | done | with_reducible rfl)) (by assumption) ?_
  try simp only [Act.put, List.setIfInBounds_toArray, List.set_cons_zero, List.set_cons_succ]
  refine tk 34 (opN rfl) (by kernel_rfl) (by rfl) (by (intro w hSw; (try dsimp only at hSw); go_simp; first | done | with_reducible rfl)) (by assumption) ?_
  try simp only [Act.put, List.setIfInBounds_toArray, List.set_cons_zero, List.set_cons_succ]
  refine tk 35 (opN rfl) (by kernel_rfl) (by rfl) (by (intro w hSw; (try dsimp only at hSw); go_simp; first | done | with_reducible rfl)) (by assumption) ?_
  try simp only [Act.put, List.setIfInBounds_toArray, List.set_cons_zero, List.set_cons_succ]
  refine tk 36 (opN rfl) (by kernel_rfl) (by rfl) (by (intro w hSw; (try dsimp only at hSw); go_simp; first | done | with_reducible rfl)) (by assumption) ?_
  try simp only [Act.put, List.setIfInBounds_toArray, List.set_cons_zero, List.set_cons_succ]
  refine tk 37 (opN rfl) (by kernel_rfl) (by rfl) (by (intro w hSw; (try dsimp only at hSw); go_simp; first | done | with_reducible rfl)) (by assumption) ?_
  try simp only [Act.put, List.setIfInBounds_toArray, List.set_cons_zero, List.set_cons_succ]
  refine tk 38 (opN rfl) (by kernel_rfl) (by rfl) (by (intro w hSw; (try dsimp only at hSw); go_simp; first | done | with_reducible rfl)) (by assumption) ?_
  try simp only [Act.put, List.setIfInBounds_toArray, List.set_cons_zero, List.set_cons_succ]
  refine tk 39 (opN rfl) (by kernel_rfl) (by rfl) (by (intro w hSw; (try dsimp only at hSw); go_simp; first | done | with_reducible rfl)) (by assumption) ?_
  try simp only [Act.put, List.setIfInBounds_toArray, List.set_cons_zero, List.set_cons_succ]
  refine tk 40 (opN rfl) (by kernel_rfl) (by rfl) (by (intro w hSw; (try dsimp only at hSw); go_simp; first | done | with_reducible rfl)) (by assumption) ?_
  try simp only [Act.put, List.setIfInBounds_toArray, List.set_cons_zero, List.set_cons_succ]
  refine tk 41 (opN rfl) (by kernel_rfl) (by rfl) (by (intro w hSw; (try dsimp only at hSw); go_simp; first | done | with_reducible rfl)) (by assumption) ?_
  try simp only [Act.put, List.setIfInBounds_toArray, List.set_cons_zero, List.set_cons_succ]
  refine tk 43 (opN rfl) (by kernel_rfl) (by rfl) (by (intro w hSw; (try dsimp only at hSw); go_simp; first | done | with_reducible rfl)) (by assumption) ?_
  try simp only [Act.put, List.setIfInBounds_toArray, List.set_cons_zero, List.set_cons_succ]
  refine tk 44 (opN rfl) (by kernel_rfl) (by rfl) (by (intro w hSw; (try dsimp only at hSw); go_simp; first | done | with_reducible rfl)) (by assumption) ?_
  try simp only [Act.put, List.setIfInBounds_toArray, List.set_cons_zero, List.set_cons_succ]
  refine wpAnyH_ready (rs := [42]) (by kernel_rfl) (by simp) ?_
  refine (AllReadyH.cons (opN rfl) (fun K hK => ?_) AllReadyH.nil)
  go_simp
  go_at_call 47
  refine Calls.mono (C_impl_SecretOf _ _ ss _ m (Ty.rd_below (by (repeat' (first | (with_reducible exact Below.refl _ _) | (with_reducible assumption) | (with_reducible refine bel_set ?_ (by (try dsimp only); omega) _) | (with_reducible refine bel_alloc ?_ _) | (with_reducible refine bel_drewN ?_ _) | (with_reducible refine bel_drew ?_) | (with_reducible refine bel_trans ?_ (by assumption)))); done) rs) (Ty.rd_below (by (repeat' (first | (with_reducible exact Below.refl _ _) | (with_reducible assumption) | (with_reducible refine bel_set ?_ (by (try dsimp only); omega) _) | (with_reducible refine bel_alloc ?_ _) | (with_reducible refine bel_drewN ?_ _) | (with_reducible refine bel_drew ?_) | (with_reducible refine bel_trans ?_ (by assumption)))); done) rm) sbs sbm) ?_
  rintro e u42 ⟨rfl, hu42⟩
  refine hK.out _ _ ?_ (fun hHeld => ?_)
  · (try dsimp only)
    exact HC.out _ (by (repeat' (first | (with_reducible exact Below.refl _ _) | (with_reducible assumption) | (with_reducible refine bel_set ?_ (by (try dsimp only); omega) _) | (with_reducible refine bel_alloc ?_ _) | (with_reducible refine bel_drewN ?_ _) | (with_reducible refine bel_drew ?_) | (with_reducible refine bel_trans ?_ (by assumption)))); done)
  clear hK K
  try simp only [Act.put, List.setIfInBounds_toArray, List.set_cons_zero, List.set_cons_succ]
  refine wpAnyH_ready (rs := [45]) (by kernel_rfl) (by simp) ?_
  refine (AllReadyH.cons (opN rfl) (fun K hK => ?_) AllReadyH.nil)
  go_simp
  go_at_call 48
  refine Calls.mono (C_spec_SecretOf _ _ ss _ m (Ty.rd_below (by (repeat' (first | (with_reducible exact Below.refl _ _) | (with_reducible assumption) | (with_reducible refine bel_set ?_ (by (try dsimp only); omega) _) | (with_reducible refine bel_alloc ?_ _) | (with_reducible refine bel_drewN ?_ _) | (with_reducible refine bel_drew ?_) | (with_reducible refine bel_trans ?_ (by assumption)))); done) rs) (Ty.rd_below (by (repeat' (first | (with_reducible exact Below.refl _ _) | (with_reducible assumption) | (with_reducible refine bel_set ?_ (by (try dsimp only); omega) _) | (with_reducible refine bel_alloc ?_ _) | (with_reducible refine bel_drewN ?_ _) | (with_reducible refine bel_drew ?_) | (with_reducible refine bel_trans ?_ (by assumption)))); done) rm) sbs sbm) ?_
  rintro e u45 ⟨rfl, hu45⟩
  refine hK.out _ _ ?_ (fun hHeld => ?_)
  · (try dsimp only)
    exact HC.out _ (by (repeat' (first | (with_reducible exact Below.refl _ _) | (with_reducible assumption) | (with_reducible refine bel_set ?_ (by (try dsimp only); omega) _) | (with_reducible refine bel_alloc ?_ _) | (with_reducible refine bel_drewN ?_ _) | (with_reducible refine bel_drew ?_) | (with_reducible refine bel_trans ?_ (by assumption)))); done)
  clear hK K
  try simp only [Act.put, List.setIfInBounds_toArray, List.set_cons_zero, List.set_cons_succ]
  refine tk 46 (opN rfl) (by kernel_rfl) (by rfl) (by (intro w hSw; (try dsimp only at hSw); go_simp; first | done | with_reducible rfl)) (by assumption) ?_
  try simp only [Act.put, List.setIfInBounds_toArray, List.set_cons_zero, List.set_cons_succ]
  refine tk 47 (opN rfl) (by kernel_rfl) (by rfl) (by (intro w hSw; (try dsimp only at hSw); go_simp; first | done | with_reducible rfl)) (by assumption) ?_
  try simp only [Act.put, List.setIfInBounds_toArray, List.set_cons_zero, List.set_cons_succ]
  refine tk 48 (opN rfl) (by kernel_rfl) (by rfl) (by (intro w hSw; (try dsimp only at hSw); go_simp; first | done | with_reducible rfl)) (by assumption) ?_
  try simp only [Act.put, List.setIfInBounds_toArray, List.set_cons_zero, List.set_cons_succ]
  refine tk 49 (opN rfl) (by kernel_rfl) (by rfl) (by (intro w hSw; (try dsimp only at hSw); go_simp; first | done | with_reducible rfl)) (by assumption) ?_
  try simp only [Act.put, List.setIfInBounds_toArray, List.set_cons_zero, List.set_cons_succ]
  refine tk 51 (opN rfl) (by kernel_rfl) (by rfl) (by (intro w hSw; (try dsimp only at hSw); go_simp; first | done | with_reducible rfl)) (by assumption) ?_
  try simp only [Act.put, List.setIfInBounds_toArray, List.set_cons_zero, List.set_cons_succ]
  refine wpAnyH_ready (rs := [50]) (by kernel_rfl) (by simp) ?_
  refine (AllReadyH.cons (opN rfl) (fun K hK => ?_) AllReadyH.nil)
  go_simp
  go_at_call 49
  refine Calls.mono (C_impl_ValidKeys _ _ p (Ty.rd_below (by (repeat' (first | (with_reducible exact Below.refl _ _) | (with_reducible assumption) | (with_reducible refine bel_set ?_ (by (try dsimp only); omega) _) | (with_reducible refine bel_alloc ?_ _) | (with_reducible refine bel_drewN ?_ _) | (with_reducible refine bel_drew ?_) | (with_reducible refine bel_trans ?_ (by assumption)))); done) rp) sbp) ?_
  rintro e u50 ⟨rfl, hu50⟩
  refine hK.out _ _ ?_ (fun hHeld => ?_)
  · (try dsimp only)
    exact HC.out _ (by (repeat' (first | (with_reducible exact Below.refl _ _) | (with_reducible assumption) | (with_reducible refine bel_set ?_ (by (try dsimp only); omega) _) | (with_reducible refine bel_alloc ?_ _) | (with_reducible refine bel_drewN ?_ _) | (with_reducible refine bel_drew ?_) | (with_reducible refine bel_trans ?_ (by assumption)))); done)
  clear hK K
  try simp only [Act.put, List.setIfInBounds_toArray, List.set_cons_zero, List.set_cons_succ]
  refine wpAnyH_ready (rs := [52]) (by kernel_rfl) (by simp) ?_
  refine (AllReadyH.cons (opN rfl) (fun K hK => ?_) AllReadyH.nil)
  go_simp
  go_at_call 50
  refine Calls.mono (C_spec_ValidKeys _ _ p (Ty.rd_below (by (repeat' (first | (with_reducible exact Below.refl _ _) | (with_reducible assumption) | (with_reducible refine bel_set ?_ (by (try dsimp only); omega) _) | (with_reducible refine bel_alloc ?_ _) | (with_reducible refine bel_drewN ?_ _) | (with_reducible refine bel_drew ?_) | (with_reducible refine bel_trans ?_ (by assumption)))); done) rp) sbp) ?_
  rintro e u52 ⟨rfl, hu52⟩
  refine hK.out _ _ ?_ (fun hHeld => ?_)
  · (try dsimp only)
    exact HC.out _ (by (repeat' (first | (with_reducible exact Below.refl _ _) | (with_reducible assumption) | (with_reducible refine bel_set ?_ (by (try dsimp only); omega) _) | (with_reducible refine bel_alloc ?_ _) | (with_reducible refine bel_drewN ?_ _) | (with_reducible refine bel_drew ?_) | (with_reducible refine bel_trans ?_ (by assumption)))); done)
  clear hK K
  try simp only [Act.put, List.setIfInBounds_toArray, List.set_cons_zero, List.set_cons_succ]
  refine tk 53 (opN rfl) (by kernel_rfl) (by rfl) (by (intro w hSw; (try dsimp only at hSw); go_simp; first | done | with_reducible rfl)) (by assumption) ?_
  try simp only [Act.put, List.setIfInBounds_toArray, List.set_cons_zero, List.set_cons_succ]
  refine tk 54 (opN rfl) (by kernel_rfl) (by rfl) (by (intro w hSw; (try dsimp only at hSw); go_simp; first | done | with_reducible rfl)) (by assumption) ?_
  try simp only [Act.put, List.setIfInBounds_toArray, List.set_cons_zero, List.set_cons_succ]
  refine tk 55 (opN rfl) (by kernel_rfl) (by rfl) (by (intro w hSw; (try dsimp only at hSw); go_simp; first | done | with_reducible rfl)) (by assumption) ?_
  try simp only [Act.put, List.setIfInBounds_toArray, List.set_cons_zero, List.set_cons_succ]
  refine tk 56 (opN rfl) (by kernel_rfl) (by rfl) (by (intro w hSw; (try dsimp only at hSw); go_simp; first | done | with_reducible rfl)) (by assumption) ?_
  try simp only [Act.put, List.setIfInBounds_toArray, List.set_cons_zero, List.set_cons_succ]
  refine tk 58 (opN rfl) (by kernel_rfl) (by rfl) (by (intro w hSw; (try dsimp only at hSw); go_simp; first | done | with_reducible rfl)) (by assumption) ?_
  try simp only [Act.put, List.setIfInBounds_toArray, List.set_cons_zero, List.set_cons_succ]
  refine wpAnyH_ready (rs := [57]) (by kernel_rfl) (by simp) ?_
  refine (AllReadyH.cons (opN rfl) (fun K hK => ?_) AllReadyH.nil)
  go_simp
  go_at_call 51
  refine Calls.mono (C_impl_FormatKeys _ _ p (Ty.rd_below (by (repeat' (first | (with_reducible exact Below.refl _ _) | (with_reducible assumption) | (with_reducible refine bel_set ?_ (by (try dsimp only); omega) _) | (with_reducible refine bel_alloc ?_ _) | (with_reducible refine bel_drewN ?_ _) | (with_reducible refine bel_drew ?_) | (with_reducible refine bel_trans ?_ (by assumption)))); done) rp) sbp) ?_
  rintro e u57 ⟨rfl, hu57⟩
  refine hK.out _ _ ?_ (fun hHeld => ?_)
  · (try dsimp only)
    exact HC.out _ (by (repeat' (first | (with_reducible exact Below.refl _ _) | (with_reducible assumption) | (with_reducible refine bel_set ?_ (by (try dsimp only); omega) _) | (with_reducible refine bel_alloc ?_ _) | (with_reducible refine bel_drewN ?_ _) | (with_reducible refine bel_drew ?_) | (with_reducible refine bel_trans ?_ (by assumption)))); done)
  clear hK K
  try simp only [Act.put, List.setIfInBounds_toArray, List.set_cons_zero, List.set_cons_succ]
  refine wpAnyH_ready (rs := [59]) (by kernel_rfl) (by simp) ?_
  refine (AllReadyH.cons (opN rfl) (fun K hK => ?_) AllReadyH.nil)
  go_simp
  go_at_call 52
  refine Calls.mono (C_spec_FormatKeys _ _ p (Ty.rd_below (by (repeat' (first | (with_reducible exact Below.refl _ _) | (with_reducible assumption) | (with_reducible refine bel_set ?_ (by (try dsimp only); omega) _) | (with_reducible refine bel_alloc ?_ _) | (with_reducible refine bel_drewN ?_ _) | (with_reducible refine bel_drew ?_) | (with_reducible refine bel_trans ?_ (by assumption)))); done) rp) sbp) ?_
  rintro e u59 ⟨rfl, hu59⟩
  refine hK.out _ _ ?_ (fun hHeld => ?_)
  · (try dsimp only)
    exact HC.out _ (by (repeat' (first | (with_reducible exact Below.refl _ _) | (with_reducible assumption) | (with_reducible refine bel_set ?_ (by (try dsimp only); omega) _) | (with_reducible refine bel_alloc ?_ _) | (with_reducible refine bel_drewN ?_ _) | (with_reducible refine bel_drew ?_) | (with_reducible refine bel_trans ?_ (by assumption)))); done)
  clear hK K
  try simp only [Act.put, List.setIfInBounds_toArray, List.set_cons_zero, List.set_cons_succ]
  refine tk 60 (opN rfl) (by kernel_rfl) (by rfl) (by (intro w hSw; (try dsimp only at hSw); go_simp; first | done | with_reducible rfl)) (by assumption) ?_
  try simp only [Act.put, List.setIfInBounds_toArray, List.set_cons_zero, List.set_cons_succ]
  refine tk 61 (opN rfl) (by kernel_rfl) (by rfl) (by (intro w hSw; (try dsimp only at hSw); go_simp; first | done | with_reducible rfl)) (by assumption) ?_
  try simp only [Act.put, List.setIfInBounds_toArray, List.set_cons_zero, List.set_cons_succ]
  refine wpAnyH_done (by kernel_rfl) ?_ _
  refine NoPanic.normal ?_
  have hU : Below V8.heap.size V8 u59 := (by (repeat' (first | (with_reducible exact Below.refl _ _) | (with_reducible assumption) | (with_reducible refine bel_set ?_ (by (try dsimp only); omega) _) | (with_reducible refine bel_alloc ?_ _) | (with_reducible refine bel_drewN ?_ _) | (with_reducible refine bel_drew ?_) | (with_reducible refine bel_trans ?_ (by assumption)))); done)
  replace hW := bel_trans hW hU
  replace r0 := Ty.rd_below hU r0
  replace rl := Ty.rd_below hU rl
  replace r1 := Ty.rd_below hU r1
  replace r2 := Ty.rd_below hU r2
  replace r3 := Ty.rd_below hU r3
  replace bN := Blk.below bN hU (Blk.lt bN)
  replace bM := Blk.below bM hU (Blk.lt bM)
  replace rx := Ty.rd_below hU rx
  replace bX := Blk.below bX hU (Blk.lt bX)
  replace ry := Ty.rd_below hU ry
  replace bY := Blk.below bY hU (Blk.lt bY)
  replace rp := Ty.rd_below hU rp
  replace rq := Ty.rd_below hU rq
  replace bQ := Blk.below bQ hU (Blk.lt bQ)
  replace ra := Ty.rd_below hU ra
  replace rk := Ty.rd_below hU rk
  replace bK := Blk.below bK hU (Blk.lt bK)
  replace rc := Ty.rd_below hU rc
  replace rd_ := Ty.rd_below hU rd_
  replace rs := Ty.rd_below hU rs
  replace rm := Ty.rd_below hU rm
  replace bS := Blk.below bS hU (Blk.lt bS)
  cases may with
  | false =>
    go_wp2_with fail
    refine wp_region_noPanic ?_
    refine wp_region_held_drew (S := (fun V => V.cell? ⟨w2.heap.size, 0, none⟩ = some (.slice X0 (List.length x.1) Xa) ∧ V.cell? ⟨w2.heap.size, 1, none⟩ = some (.slice X1 (List.length x.2.1) Xb) ∧ V.cell? ⟨w2.heap.size, 2, none⟩ = some (.slice X2 (List.length x.2.2.1) Xc) ∧ V.cell? ⟨w2.heap.size, 3, none⟩ = some (.int .i64 x.2.2.2.1) ∧ V.cell? ⟨w2.heap.size, 4, none⟩ = some (.int .i64 x.2.2.2.2) ∧ V.cell? ⟨w3.heap.size, 0, none⟩ = some (.slice Y0 (List.length x.1) Ya) ∧ V.cell? ⟨w3.heap.size, 1, none⟩ = some (.slice Y1 (List.length x.2.1) Yb) ∧ V.cell? ⟨w3.heap.size, 2, none⟩ = some (.slice Y2 (List.length x.2.2.1) Yc) ∧ V.cell? ⟨w3.heap.size, 3, none⟩ = some (.int .i64 x.2.2.2.1) ∧ V.cell? ⟨w3.heap.size, 4, none⟩ = some (.int .i64 x.2.2.2.2) ∧ V.cell? ⟨w4.heap.size, 0, none⟩ = some (.slice Q0 (List.length q.1) Qa) ∧ V.cell? ⟨w4.heap.size, 1, none⟩ = some (.slice Q1 (List.length q.2.1) Qb) ∧ V.cell? ⟨w4.heap.size, 2, none⟩ = some (.slice Q2 (List.length q.2.2.1) Qc) ∧ V.cell? ⟨w4.heap.size, 3, none⟩ = some (.int .i64 q.2.2.2.1) ∧ V.cell? ⟨w4.heap.size, 4, none⟩ = some (.int .i64 q.2.2.2.2) ∧ V.cell? ⟨w5.heap.size, 0, none⟩ = some (.slice K0 (List.length k.1) ka) ∧ V.cell? ⟨w5.heap.size, 1, none⟩ = some (.int .i64 k.2) ∧ V.cell? ⟨w8.heap.size, 0, none⟩ = some (.slice M0 (List.length m) ma))) (by kernel_rfl) ?_ (fun hHeld => ?_)
    · exact HC.out _ (by (repeat' (first | (with_reducible exact Below.refl _ _) | (with_reducible assumption) | (with_reducible refine bel_set ?_ (by (try dsimp only); omega) _) | (with_reducible refine bel_alloc ?_ _) | (with_reducible refine bel_drewN ?_ _) | (with_reducible refine bel_drew ?_) | (with_reducible refine bel_trans ?_ (by assumption)))); done)
    refine tk 0 (opN rfl) (by kernel_rfl) (by rfl) (by (intro w hSw; (try dsimp only at hSw); go_simp; first | done | with_reducible rfl)) (by assumption) ?_
    try simp only [Act.put, List.setIfInBounds_toArray, List.set_cons_zero, List.set_cons_succ]
    refine tk 1 (opN rfl) (by kernel_rfl) (by rfl) (by (intro w hSw; (try dsimp only at hSw); go_simp; first | done | with_reducible rfl)) (by assumption) ?_
    try simp only [Act.put, List.setIfInBounds_toArray, List.set_cons_zero, List.set_cons_succ]
    refine sk 2 (opN rfl) (by kernel_rfl) (by rfl) (by assumption) ?_
    try simp only [Act.put, List.setIfInBounds_toArray, List.set_cons_zero, List.set_cons_succ]
    refine sk 3 (opN rfl) (by kernel_rfl) (by rfl) (by assumption) ?_
    try simp only [Act.put, List.setIfInBounds_toArray, List.set_cons_zero, List.set_cons_succ]
    refine sk 4 (opN rfl) (by kernel_rfl) (by rfl) (by assumption) ?_
    try simp only [Act.put, List.setIfInBounds_toArray, List.set_cons_zero, List.set_cons_succ]
    refine sk 5 (opN rfl) (by kernel_rfl) (by rfl) (by assumption) ?_
    try simp only [Act.put, List.setIfInBounds_toArray, List.set_cons_zero, List.set_cons_succ]
    refine sk 6 (opN rfl) (by kernel_rfl) (by rfl) (by assumption) ?_
    try simp only [Act.put, List.setIfInBounds_toArray, List.set_cons_zero, List.set_cons_succ]
    refine sk 7 (opN rfl) (by kernel_rfl) (by rfl) (by assumption) ?_
    try simp only [Act.put, List.setIfInBounds_toArray, List.set_cons_zero, List.set_cons_succ]
    refine sk 8 (opN rfl) (by kernel_rfl) (by rfl) (by assumption) ?_
    try simp only [Act.put, List.setIfInBounds_toArray, List.set_cons_zero, List.set_cons_succ]
    refine sk 9 (opN rfl) (by kernel_rfl) (by rfl) (by assumption) ?_
    try simp only [Act.put, List.setIfInBounds_toArray, List.set_cons_zero, List.set_cons_succ]
    refine sk 10 (opN rfl) (by kernel_rfl) (by rfl) (by assumption) ?_
    try simp only [Act.put, List.setIfInBounds_toArray, List.set_cons_zero, List.set_cons_succ]
    refine sk 11 (opN rfl) (by kernel_rfl) (by rfl) (by assumption) ?_
    try simp only [Act.put, List.setIfInBounds_toArray, List.set_cons_zero, List.set_cons_succ]
    refine sk 12 (opN rfl) (by kernel_rfl) (by rfl) (by assumption) ?_
    try simp only [Act.put, List.setIfInBounds_toArray, List.set_cons_zero, List.set_cons_succ]
    refine sk 13 (opN rfl) (by kernel_rfl) (by rfl) (by assumption) ?_
    try simp only [Act.put, List.setIfInBounds_toArray, List.set_cons_zero, List.set_cons_succ]
    refine tk 14 (opN rfl) (by kernel_rfl) (by rfl) (by (intro w hSw; (try dsimp only at hSw); go_simp; first | done | with_reducible rfl)) (by assumption) ?_
    try simp only [Act.put, List.setIfInBounds_toArray, List.set_cons_zero, List.set_cons_succ]
    refine wpAnyH_done (by kernel_rfl) ?_ _
    refine NoPanic.normal ?_
    have hT : Below u59.heap.size u59 u59.drew := bel_drew (Below.refl _ _)
    replace hW := bel_trans hW hT
    replace r0 := Ty.rd_below hT r0
    replace rl := Ty.rd_below hT rl
    replace r1 := Ty.rd_below hT r1
    replace r2 := Ty.rd_below hT r2
    replace r3 := Ty.rd_below hT r3
    replace bN := Blk.below bN hT (Blk.lt bN)
    replace bM := Blk.below bM hT (Blk.lt bM)
    replace rx := Ty.rd_below hT rx
    replace bX := Blk.below bX hT (Blk.lt bX)
    replace ry := Ty.rd_below hT ry
    replace bY := Blk.below bY hT (Blk.lt bY)
    replace rp := Ty.rd_below hT rp
    replace rq := Ty.rd_below hT rq
    replace bQ := Blk.below bQ hT (Blk.lt bQ)
    replace ra := Ty.rd_below hT ra
    replace rk := Ty.rd_below hT rk
    replace bK := Blk.below bK hT (Blk.lt bK)
    replace rc := Ty.rd_below hT rc
    replace rd_ := Ty.rd_below hT rd_
    replace rs := Ty.rd_below hT rs
    replace rm := Ty.rd_below hT rm
    replace bS := Blk.below bS hT (Blk.lt bS)
    cases ok with
    | false =>
      have kX0 : u59.drew.cell? ⟨w2.heap.size, 0, none⟩ = some (.slice X0 (List.length x.1) Xa) := bX.cell 0
      have kX1 : u59.drew.cell? ⟨w2.heap.size, 1, none⟩ = some (.slice X1 (List.length x.2.1) Xb) := bX.cell 1
      have kX2 : u59.drew.cell? ⟨w2.heap.size, 2, none⟩ = some (.slice X2 (List.length x.2.2.1) Xc) := bX.cell 2
      have kX3 : u59.drew.cell? ⟨w2.heap.size, 3, none⟩ = some (.int .i64 x.2.2.2.1) := bX.cell 3
      have kX4 : u59.drew.cell? ⟨w2.heap.size, 4, none⟩ = some (.int .i64 x.2.2.2.2) := bX.cell 4
      have zzX := bX.lt
      have hx0 := Lib.hid (HNO.out (by first | rfl | trivial))
      go_wp2_with fail
      refine Calls.mono (C_laws_sameThingG _ _ x _ x rx (by rw [hx0.out]; exact rd_zeroThing _) hbx.out hbx.out) ?_
      rw [eqData_self]
      rintro e t1 ⟨rfl, hb⟩
      go_wp2
      go_ret
      exact ⟨rfl, bel_trans hW hb⟩
    | true =>
      go_wp2_with fail
      refine Calls.mono (C_impl_ValidKeys _ _ l rl sbl) ?_
      cases hv : f_ValidKeys l with
      | false =>
        rintro e t1 ⟨rfl, hb⟩
        go_wp2
        go_ret
        exact ⟨rfl, bel_trans hW hb⟩
      | true =>
        have HP := Lib.hid (HPL.out (by first | rfl | trivial) hv)
        rintro e t1 ⟨rfl, hb⟩
        replace rl := Ty.rd_below hb rl
        replace r3 := Ty.rd_below hb r3
        replace rx := Ty.rd_below hb rx
        replace bX := Blk.below bX hb (Blk.lt bX)
        replace hW := bel_trans hW hb
        clear hb
        have kX0 : t1.cell? ⟨w2.heap.size, 0, none⟩ = some (.slice X0 (List.length x.1) Xa) := bX.cell 0
        have kX1 : t1.cell? ⟨w2.heap.size, 1, none⟩ = some (.slice X1 (List.length x.2.1) Xb) := bX.cell 1
        have kX2 : t1.cell? ⟨w2.heap.size, 2, none⟩ = some (.slice X2 (List.length x.2.2.1) Xc) := bX.cell 2
        have kX3 : t1.cell? ⟨w2.heap.size, 3, none⟩ = some (.int .i64 x.2.2.2.1) := bX.cell 3
        have kX4 : t1.cell? ⟨w2.heap.size, 4, none⟩ = some (.int .i64 x.2.2.2.2) := bX.cell 4
        have zzX := bX.lt
        go_wp2_with fail
        refine Calls.mono (C_impl_VerifySignature _ _ l _ x rl rx sbl hbx.out) ?_
        rw [HP.out.1]
        rintro e t2 ⟨rfl, hb⟩
        replace rl := Ty.rd_below hb rl
        replace r3 := Ty.rd_below hb r3
        replace rx := Ty.rd_below hb rx
        replace bX := Blk.below bX hb (Blk.lt bX)
        replace hW := bel_trans hW hb
        clear hb
        clear kX0 kX1 kX2 kX3 kX4
        have kX0 : t2.cell? ⟨w2.heap.size, 0, none⟩ = some (.slice X0 (List.length x.1) Xa) := bX.cell 0
        have kX1 : t2.cell? ⟨w2.heap.size, 1, none⟩ = some (.slice X1 (List.length x.2.1) Xb) := bX.cell 1
        have kX2 : t2.cell? ⟨w2.heap.size, 2, none⟩ = some (.slice X2 (List.length x.2.2.1) Xc) := bX.cell 2
        have kX3 : t2.cell? ⟨w2.heap.size, 3, none⟩ = some (.int .i64 x.2.2.2.1) := bX.cell 3
        have kX4 : t2.cell? ⟨w2.heap.size, 4, none⟩ = some (.int .i64 x.2.2.2.2) := bX.cell 4
        go_wp2_with fail
        refine Calls.mono (C_impl_MatchingKeys _ _ l _ x rl rx sbl hbx.out) ?_
        obtain ⟨mk, hmk⟩ : ∃ y, y = f_MatchingKeys l x := ⟨_, rfl⟩
        have hp2 := HP.out.2.1
        rw [← hmk] at hp2 ⊢
        rintro e t3 ⟨A9, c9, f9, rfl, -, -, hb⟩
        have hl1 : (1 : Int) ≤ (mk.length : Int) := by omega
        clear hmk hp2
        replace rl := Ty.rd_below hb rl
        replace r3 := Ty.rd_below hb r3
        replace rx := Ty.rd_below hb rx
        replace bX := Blk.below bX hb (Blk.lt bX)
        replace hW := bel_trans hW hb
        clear hb
        clear kX0 kX1 kX2 kX3 kX4
        have kX0 : t3.cell? ⟨w2.heap.size, 0, none⟩ = some (.slice X0 (List.length x.1) Xa) := bX.cell 0
        have kX1 : t3.cell? ⟨w2.heap.size, 1, none⟩ = some (.slice X1 (List.length x.2.1) Xb) := bX.cell 1
        have kX2 : t3.cell? ⟨w2.heap.size, 2, none⟩ = some (.slice X2 (List.length x.2.2.1) Xc) := bX.cell 2
        have kX3 : t3.cell? ⟨w2.heap.size, 3, none⟩ = some (.int .i64 x.2.2.2.1) := bX.cell 3
        have kX4 : t3.cell? ⟨w2.heap.size, 4, none⟩ = some (.int .i64 x.2.2.2.2) := bX.cell 4
        go_wp2_with fail
        refine Calls.mono (C_impl_ValidData _ _ x rx hbx.out) ?_
        rw [HP.out.2.2.1]
        rintro e t4 ⟨rfl, hb⟩
        replace rl := Ty.rd_below hb rl
        replace r3 := Ty.rd_below hb r3
        replace rx := Ty.rd_below hb rx
        replace bX := Blk.below bX hb (Blk.lt bX)
        replace hW := bel_trans hW hb
        clear hb
        clear kX0 kX1 kX2 kX3 kX4
        have kX0 : t4.cell? ⟨w2.heap.size, 0, none⟩ = some (.slice X0 (List.length x.1) Xa) := bX.cell 0
        have kX1 : t4.cell? ⟨w2.heap.size, 1, none⟩ = some (.slice X1 (List.length x.2.1) Xb) := bX.cell 1
        have kX2 : t4.cell? ⟨w2.heap.size, 2, none⟩ = some (.slice X2 (List.length x.2.2.1) Xc) := bX.cell 2
        have kX3 : t4.cell? ⟨w2.heap.size, 3, none⟩ = some (.int .i64 x.2.2.2.1) := bX.cell 3
        have kX4 : t4.cell? ⟨w2.heap.size, 4, none⟩ = some (.int .i64 x.2.2.2.2) := bX.cell 4
        obtain ⟨a0, b0, a1, b1, a2, b2, he, -, xg1, -⟩ := rd_Data rx
        simp only [List.cons.injEq, Value.slice.injEq, and_true, true_and] at he
        obtain ⟨⟨rfl, rfl⟩, ⟨rfl, rfl⟩, ⟨rfl, rfl⟩⟩ := he
        go_wp2_with fail
        refine Calls.mono (C_laws_sameG _ _ _ _ _ xg1 r3) ?_
        rw [HP.out.2.2.2, decide_self]
        rintro e t5 ⟨rfl, hb⟩
        go_wp2
        go_ret
        exact ⟨rfl, bel_trans hW hb⟩
  | true =>
    obtain ⟨a0, b0, he, rkn, -⟩ := rd_Key rk
    simp only [List.cons.injEq, Value.slice.injEq, and_true, true_and] at he
    obtain ⟨rfl, rfl⟩ := he
    go_wp2_with fail
    refine wp_region_noPanic ?_
    refine wp_region_held_drew (S := (fun V => V.cell? ⟨w2.heap.size, 0, none⟩ = some (.slice X0 (List.length x.1) Xa) ∧ V.cell? ⟨w2.heap.size, 1, none⟩ = some (.slice X1 (List.length x.2.1) Xb) ∧ V.cell? ⟨w2.heap.size, 2, none⟩ = some (.slice X2 (List.length x.2.2.1) Xc) ∧ V.cell? ⟨w2.heap.size, 3, none⟩ = some (.int .i64 x.2.2.2.1) ∧ V.cell? ⟨w2.heap.size, 4, none⟩ = some (.int .i64 x.2.2.2.2) ∧ V.cell? ⟨w3.heap.size, 0, none⟩ = some (.slice Y0 (List.length x.1) Ya) ∧ V.cell? ⟨w3.heap.size, 1, none⟩ = some (.slice Y1 (List.length x.2.1) Yb) ∧ V.cell? ⟨w3.heap.size, 2, none⟩ = some (.slice Y2 (List.length x.2.2.1) Yc) ∧ V.cell? ⟨w3.heap.size, 3, none⟩ = some (.int .i64 x.2.2.2.1) ∧ V.cell? ⟨w3.heap.size, 4, none⟩ = some (.int .i64 x.2.2.2.2) ∧ V.cell? ⟨w4.heap.size, 0, none⟩ = some (.slice Q0 (List.length q.1) Qa) ∧ V.cell? ⟨w4.heap.size, 1, none⟩ = some (.slice Q1 (List.length q.2.1) Qb) ∧ V.cell? ⟨w4.heap.size, 2, none⟩ = some (.slice Q2 (List.length q.2.2.1) Qc) ∧ V.cell? ⟨w4.heap.size, 3, none⟩ = some (.int .i64 q.2.2.2.1) ∧ V.cell? ⟨w4.heap.size, 4, none⟩ = some (.int .i64 q.2.2.2.2) ∧ V.cell? ⟨w5.heap.size, 0, none⟩ = some (.slice K0 (List.length k.1) ka) ∧ V.cell? ⟨w5.heap.size, 1, none⟩ = some (.int .i64 k.2) ∧ V.cell? ⟨w8.heap.size, 0, none⟩ = some (.slice M0 (List.length m) ma))) (by kernel_rfl) ?_ (fun hHeld => ?_)
    · exact HC.out _ (by (repeat' (first | (with_reducible exact Below.refl _ _) | (with_reducible assumption) | (with_reducible refine bel_set ?_ (by (try dsimp only); omega) _) | (with_reducible refine bel_alloc ?_ _) | (with_reducible refine bel_drewN ?_ _) | (with_reducible refine bel_drew ?_) | (with_reducible refine bel_trans ?_ (by assumption)))); done)
    refine tk 0 (opN rfl) (by kernel_rfl) (by rfl) (by (intro w hSw; (try dsimp only at hSw); go_simp; first | done | with_reducible rfl)) (by assumption) ?_
    try simp only [Act.put, List.setIfInBounds_toArray, List.set_cons_zero, List.set_cons_succ]
    refine tk 1 (opN rfl) (by kernel_rfl) (by rfl) (by (intro w hSw; (try dsimp only at hSw); go_simp; first | done | with_reducible rfl)) (by assumption) ?_
    try simp only [Act.put, List.setIfInBounds_toArray, List.set_cons_zero, List.set_cons_succ]
    refine tk 2 (opN rfl) (by kernel_rfl) (by rfl) (by (intro w hSw; (try dsimp only at hSw); go_simp; first | done | with_reducible rfl)) (by assumption) ?_
    try simp only [Act.put, List.setIfInBounds_toArray, List.set_cons_zero, List.set_cons_succ]
    refine tk 3 (opN rfl) (by kernel_rfl) (by rfl) (by (intro w hSw; (try dsimp only at hSw); go_simp; first | done | with_reducible rfl)) (by assumption) ?_
    try simp only [Act.put, List.setIfInBounds_toArray, List.set_cons_zero, List.set_cons_succ]
    refine tk 6 (opN rfl) (by kernel_rfl) (by rfl) (by (intro w hSw; (try dsimp only at hSw); go_simp; first | done | with_reducible rfl)) (by assumption) ?_
    try simp only [Act.put, List.setIfInBounds_toArray, List.set_cons_zero, List.set_cons_succ]
    refine tk 4 (opN rfl) (by kernel_rfl) (by rfl) (by (intro w hSw; (try dsimp only at hSw); go_simp; first | done | with_reducible rfl)) (by assumption) ?_
    try simp only [Act.put, List.setIfInBounds_toArray, List.set_cons_zero, List.set_cons_succ]
    refine tk 7 (opN rfl) (by kernel_rfl) (by rfl) (by (intro w hSw; (try dsimp only at hSw); go_simp; first | done | with_reducible rfl)) (by assumption) ?_
    try simp only [Act.put, List.setIfInBounds_toArray, List.set_cons_zero, List.set_cons_succ]
    refine wpAnyH_ready (rs := [5]) (by kernel_rfl) (by simp) ?_
    refine (AllReadyH.cons (opN rfl) (fun K hK => ?_) AllReadyH.nil)
    go_simp
    go_at_call 47
    refine Calls.mono (C_impl_SecretOf _ _ ac _ k.1 (Ty.rd_below (by (repeat' (first | (with_reducible exact Below.refl _ _) | (with_reducible assumption) | (with_reducible refine bel_set ?_ (by (try dsimp only); omega) _) | (with_reducible refine bel_alloc ?_ _) | (with_reducible refine bel_drewN ?_ _) | (with_reducible refine bel_drew ?_) | (with_reducible refine bel_trans ?_ (by assumption)))); done) rc) (Ty.rd_below (by (repeat' (first | (with_reducible exact Below.refl _ _) | (with_reducible assumption) | (with_reducible refine bel_set ?_ (by (try dsimp only); omega) _) | (with_reducible refine bel_alloc ?_ _) | (with_reducible refine bel_drewN ?_ _) | (with_reducible refine bel_drew ?_) | (with_reducible refine bel_trans ?_ (by assumption)))); done) rkn) sbc.out sbkn) ?_
    rw [(HADD.out (by first | rfl | trivial)).1]
    rintro e v5 ⟨rfl, hv5⟩
    refine hK.out _ _ ?_ (fun hHeld => ?_)
    · (try dsimp only)
      exact HC.out _ (by (repeat' (first | (with_reducible exact Below.refl _ _) | (with_reducible assumption) | (with_reducible refine bel_set ?_ (by (try dsimp only); omega) _) | (with_reducible refine bel_alloc ?_ _) | (with_reducible refine bel_drewN ?_ _) | (with_reducible refine bel_drew ?_) | (with_reducible refine bel_trans ?_ (by assumption)))); done)
    clear hK K
    try simp only [Act.put, List.setIfInBounds_toArray, List.set_cons_zero, List.set_cons_succ]
    refine tk 8 (opN rfl) (by kernel_rfl) (by rfl) (by (intro w hSw; (try dsimp only at hSw); go_simp; first | done | with_reducible rfl)) (by assumption) ?_
    try simp only [Act.put, List.setIfInBounds_toArray, List.set_cons_zero, List.set_cons_succ]
    refine tk 9 (opN rfl) (by kernel_rfl) (by rfl) (by (intro w hSw; (try dsimp only at hSw); go_simp; first | done | with_reducible rfl)) (by assumption) ?_
    try simp only [Act.put, List.setIfInBounds_toArray, List.set_cons_zero, List.set_cons_succ]
    refine tk 10 (opN rfl) (by kernel_rfl) (by rfl) (by (intro w hSw; (try dsimp only at hSw); go_simp; first | done | with_reducible rfl)) (by assumption) ?_
    try simp only [Act.put, List.setIfInBounds_toArray, List.set_cons_zero, List.set_cons_succ]
    refine wpAnyH_ready (rs := [11]) (by kernel_rfl) (by simp) ?_
    refine (AllReadyH.cons (opN rfl) (fun K hK => ?_) AllReadyH.nil)
    go_simp
    go_at_call 49
    refine Calls.mono (C_impl_ValidKeys _ _ ac (Ty.rd_below (by (repeat' (first | (with_reducible exact Below.refl _ _) | (with_reducible assumption) | (with_reducible refine bel_set ?_ (by (try dsimp only); omega) _) | (with_reducible refine bel_alloc ?_ _) | (with_reducible refine bel_drewN ?_ _) | (with_reducible refine bel_drew ?_) | (with_reducible refine bel_trans ?_ (by assumption)))); done) rc) sbc.out) ?_
    rw [(HADD.out (by first | rfl | trivial)).2]
    rintro e v11 ⟨rfl, hv11⟩
    refine hK.out _ _ ?_ (fun hHeld => ?_)
    · (try dsimp only)
      exact HC.out _ (by (repeat' (first | (with_reducible exact Below.refl _ _) | (with_reducible assumption) | (with_reducible refine bel_set ?_ (by (try dsimp only); omega) _) | (with_reducible refine bel_alloc ?_ _) | (with_reducible refine bel_drewN ?_ _) | (with_reducible refine bel_drew ?_) | (with_reducible refine bel_trans ?_ (by assumption)))); done)
    clear hK K
    try simp only [Act.put, List.setIfInBounds_toArray, List.set_cons_zero, List.set_cons_succ]
    refine tk 12 (opN rfl) (by kernel_rfl) (by rfl) (by (intro w hSw; (try dsimp only at hSw); go_simp; first | done | with_reducible rfl)) (by assumption) ?_
    try simp only [Act.put, List.setIfInBounds_toArray, List.set_cons_zero, List.set_cons_succ]
    refine tk 13 (opN rfl) (by kernel_rfl) (by rfl) (by (intro w hSw; (try dsimp only at hSw); go_simp; first | done | with_reducible rfl)) (by assumption) ?_
    try simp only [Act.put, List.setIfInBounds_toArray, List.set_cons_zero, List.set_cons_succ]
    refine tk 14 (opN rfl) (by kernel_rfl) (by rfl) (by (intro w hSw; (try dsimp only at hSw); go_simp; first | done | with_reducible rfl)) (by assumption) ?_
    try simp only [Act.put, List.setIfInBounds_toArray, List.set_cons_zero, List.set_cons_succ]
    refine wpAnyH_done (by kernel_rfl) ?_ _
    refine NoPanic.normal ?_
    have hT : Below u59.heap.size u59 v11 := (by (repeat' (first | (with_reducible exact Below.refl _ _) | (with_reducible assumption) | (with_reducible refine bel_set ?_ (by (try dsimp only); omega) _) | (with_reducible refine bel_alloc ?_ _) | (with_reducible refine bel_drewN ?_ _) | (with_reducible refine bel_drew ?_) | (with_reducible refine bel_trans ?_ (by assumption)))); done)
    replace hW := bel_trans hW hT
    replace r0 := Ty.rd_below hT r0
    replace rl := Ty.rd_below hT rl
    replace r1 := Ty.rd_below hT r1
    replace r2 := Ty.rd_below hT r2
    replace r3 := Ty.rd_below hT r3
    replace bN := Blk.below bN hT (Blk.lt bN)
    replace bM := Blk.below bM hT (Blk.lt bM)
    replace rx := Ty.rd_below hT rx
    replace bX := Blk.below bX hT (Blk.lt bX)
    replace ry := Ty.rd_below hT ry
    replace bY := Blk.below bY hT (Blk.lt bY)
    replace rp := Ty.rd_below hT rp
    replace rq := Ty.rd_below hT rq
    replace bQ := Blk.below bQ hT (Blk.lt bQ)
    replace ra := Ty.rd_below hT ra
    replace rk := Ty.rd_below hT rk
    replace bK := Blk.below bK hT (Blk.lt bK)
    replace rc := Ty.rd_below hT rc
    replace rd_ := Ty.rd_below hT rd_
    replace rs := Ty.rd_below hT rs
    replace rm := Ty.rd_below hT rm
    replace bS := Blk.below bS hT (Blk.lt bS)
    cases ok with
    | false =>
      have kX0 : v11.cell? ⟨w2.heap.size, 0, none⟩ = some (.slice X0 (List.length x.1) Xa) := bX.cell 0
      have kX1 : v11.cell? ⟨w2.heap.size, 1, none⟩ = some (.slice X1 (List.length x.2.1) Xb) := bX.cell 1
      have kX2 : v11.cell? ⟨w2.heap.size, 2, none⟩ = some (.slice X2 (List.length x.2.2.1) Xc) := bX.cell 2
      have kX3 : v11.cell? ⟨w2.heap.size, 3, none⟩ = some (.int .i64 x.2.2.2.1) := bX.cell 3
      have kX4 : v11.cell? ⟨w2.heap.size, 4, none⟩ = some (.int .i64 x.2.2.2.2) := bX.cell 4
      have zzX := bX.lt
      have hx0 := Lib.hid (HNO.out (by first | rfl | trivial))
      go_wp2_with fail
      refine Calls.mono (C_laws_sameThingG _ _ x _ x rx (by rw [hx0.out]; exact rd_zeroThing _) hbx.out hbx.out) ?_
      rw [eqData_self]
      rintro e t1 ⟨rfl, hb⟩
      go_wp2
      go_ret
      exact ⟨rfl, bel_trans hW hb⟩
    | true =>
      go_wp2_with fail
      refine Calls.mono (C_impl_ValidKeys _ _ l rl sbl) ?_
      cases hv : f_ValidKeys l with
      | false =>
        rintro e t1 ⟨rfl, hb⟩
        go_wp2
        go_ret
        exact ⟨rfl, bel_trans hW hb⟩
      | true =>
        have HP := Lib.hid (HPL.out (by first | rfl | trivial) hv)
        rintro e t1 ⟨rfl, hb⟩
        replace rl := Ty.rd_below hb rl
        replace r3 := Ty.rd_below hb r3
        replace rx := Ty.rd_below hb rx
        replace bX := Blk.below bX hb (Blk.lt bX)
        replace hW := bel_trans hW hb
        clear hb
        have kX0 : t1.cell? ⟨w2.heap.size, 0, none⟩ = some (.slice X0 (List.length x.1) Xa) := bX.cell 0
        have kX1 : t1.cell? ⟨w2.heap.size, 1, none⟩ = some (.slice X1 (List.length x.2.1) Xb) := bX.cell 1
        have kX2 : t1.cell? ⟨w2.heap.size, 2, none⟩ = some (.slice X2 (List.length x.2.2.1) Xc) := bX.cell 2
        have kX3 : t1.cell? ⟨w2.heap.size, 3, none⟩ = some (.int .i64 x.2.2.2.1) := bX.cell 3
        have kX4 : t1.cell? ⟨w2.heap.size, 4, none⟩ = some (.int .i64 x.2.2.2.2) := bX.cell 4
        have zzX := bX.lt
        go_wp2_with fail
        refine Calls.mono (C_impl_VerifySignature _ _ l _ x rl rx sbl hbx.out) ?_
        rw [HP.out.1]
        rintro e t2 ⟨rfl, hb⟩
        replace rl := Ty.rd_below hb rl
        replace r3 := Ty.rd_below hb r3
        replace rx := Ty.rd_below hb rx
        replace bX := Blk.below bX hb (Blk.lt bX)
        replace hW := bel_trans hW hb
        clear hb
        clear kX0 kX1 kX2 kX3 kX4
        have kX0 : t2.cell? ⟨w2.heap.size, 0, none⟩ = some (.slice X0 (List.length x.1) Xa) := bX.cell 0
        have kX1 : t2.cell? ⟨w2.heap.size, 1, none⟩ = some (.slice X1 (List.length x.2.1) Xb) := bX.cell 1
        have kX2 : t2.cell? ⟨w2.heap.size, 2, none⟩ = some (.slice X2 (List.length x.2.2.1) Xc) := bX.cell 2
        have kX3 : t2.cell? ⟨w2.heap.size, 3, none⟩ = some (.int .i64 x.2.2.2.1) := bX.cell 3
        have kX4 : t2.cell? ⟨w2.heap.size, 4, none⟩ = some (.int .i64 x.2.2.2.2) := bX.cell 4
        go_wp2_with fail
        refine Calls.mono (C_impl_MatchingKeys _ _ l _ x rl rx sbl hbx.out) ?_
        obtain ⟨mk, hmk⟩ : ∃ y, y = f_MatchingKeys l x := ⟨_, rfl⟩
        have hp2 := HP.out.2.1
        rw [← hmk] at hp2 ⊢
        rintro e t3 ⟨A9, c9, f9, rfl, -, -, hb⟩
        have hl1 : (1 : Int) ≤ (mk.length : Int) := by omega
        clear hmk hp2
        replace rl := Ty.rd_below hb rl
        replace r3 := Ty.rd_below hb r3
        replace rx := Ty.rd_below hb rx
        replace bX := Blk.below bX hb (Blk.lt bX)
        replace hW := bel_trans hW hb
        clear hb
        clear kX0 kX1 kX2 kX3 kX4
        have kX0 : t3.cell? ⟨w2.heap.size, 0, none⟩ = some (.slice X0 (List.length x.1) Xa) := bX.cell 0
        have kX1 : t3.cell? ⟨w2.heap.size, 1, none⟩ = some (.slice X1 (List.length x.2.1) Xb) := bX.cell 1
        have kX2 : t3.cell? ⟨w2.heap.size, 2, none⟩ = some (.slice X2 (List.length x.2.2.1) Xc) := bX.cell 2
        have kX3 : t3.cell? ⟨w2.heap.size, 3, none⟩ = some (.int .i64 x.2.2.2.1) := bX.cell 3
        have kX4 : t3.cell? ⟨w2.heap.size, 4, none⟩ = some (.int .i64 x.2.2.2.2) := bX.cell 4
        go_wp2_with fail
        refine Calls.mono (C_impl_ValidData _ _ x rx hbx.out) ?_
        rw [HP.out.2.2.1]
        rintro e t4 ⟨rfl, hb⟩
        replace rl := Ty.rd_below hb rl
        replace r3 := Ty.rd_below hb r3
        replace rx := Ty.rd_below hb rx
        replace bX := Blk.below bX hb (Blk.lt bX)
        replace hW := bel_trans hW hb
        clear hb
        clear kX0 kX1 kX2 kX3 kX4
        have kX0 : t4.cell? ⟨w2.heap.size, 0, none⟩ = some (.slice X0 (List.length x.1) Xa) := bX.cell 0
        have kX1 : t4.cell? ⟨w2.heap.size, 1, none⟩ = some (.slice X1 (List.length x.2.1) Xb) := bX.cell 1
        have kX2 : t4.cell? ⟨w2.heap.size, 2, none⟩ = some (.slice X2 (List.length x.2.2.1) Xc) := bX.cell 2
        have kX3 : t4.cell? ⟨w2.heap.size, 3, none⟩ = some (.int .i64 x.2.2.2.1) := bX.cell 3
        have kX4 : t4.cell? ⟨w2.heap.size, 4, none⟩ = some (.int .i64 x.2.2.2.2) := bX.cell 4
        obtain ⟨a0, b0, a1, b1, a2, b2, he, -, xg1, -⟩ := rd_Data rx
        simp only [List.cons.injEq, Value.slice.injEq, and_true, true_and] at he
        obtain ⟨⟨rfl, rfl⟩, ⟨rfl, rfl⟩, ⟨rfl, rfl⟩⟩ := he
        go_wp2_with fail
        refine Calls.mono (C_laws_sameG _ _ _ _ _ xg1 r3) ?_
        rw [HP.out.2.2.2, decide_self]
        rintro e t5 ⟨rfl, hb⟩
        go_wp2
        go_ret
        exact ⟨rfl, bel_trans hW hb⟩
end Go.Proofs.YtldgbnlcnlfmeaaGreat

/- Proved here: the given statement FnKeysSaid: every key signs with its own secret only; the law returns true for all inputs. Conditions: none. -/
namespace Go.Proofs.YtldgbnlcnlfmeaaGreat.clFnKeys
open Go.ChangeShapes Go.WideShapes Go.ChangeAt Go.RowKit
set_option linter.unusedVariables false

theorem own : ownKnob Tryz.prog.godebug = none := by kernel_rfl
theorem laidOut : laidOutB Tryz.prog = true := by kernel_rfl
section
variable {H : Type} {enc : TypeId × Value → H} {w : World} {base : Nat} {spare : Nat → Bool} {held : Bool}
theorem o_byte : Opens enc Tryz.prog w base spare held 5 .byte := opens_byte Tryz.underlying5
theorem o_ByteS : Opens enc Tryz.prog w base spare held 22 (.sl .byte) := opens_sl Tryz.underlying22 (by kernel_rfl) (by decide) o_byte
end

set_option maxRecDepth 100000 in
theorem lifted (os : Os) (started : os.Started) (H : Type) (enc : TypeId × Value → H) :
    ReturnsInHanded {} Tryz.checked os 5 .any (Rows.fnKeysSpec.pre6 enc Tryz.prog Tryz.f5 Rows.fnKeysRow.domain false) (Rows.fnKeysSpec.post enc Tryz.prog Tryz.f5 false true false false) := by
  refine returnsInHanded_of_change (C := Tryz.checked) own started (by kernel_rfl) Tryz.func5
    (ChangeSpec.witness6 (enc := enc) (C := Tryz.checked) false ⟨#[], #[.slice none 0 0], []⟩ 8 (by kernel_rfl) (by kernel_rfl) (by kernel_rfl) (by kernel_rfl)) ?_
  intro W base args ds gs before hval0 hW hcnd _
  have hval : ∀ (j : Nat) t v, Tryz.f5.params[j]? = some t → args[j]? = some v → Value.okWide Tryz.prog W .any base t v := hval0
  have hW' := hW
  obtain ⟨p, q, hA0, hV, rfl, hfz, hnd⟩ := hW
  have hA : DataW.TrodAll enc Tryz.prog W 0 (fun _ => true) true Tryz.f5.params.toList args.toList ds p := hA0
  rw [Tryz.params5] at hA hval
  obtain ⟨v0, vs0, d0, ds0, p0, q0, hargs, rfl, rfl, h0, r0⟩ := trodAll_cons hA
  obtain ⟨rfl, rfl, rfl⟩ := trodAll_nil r0
  obtain rfl : args = #[v0] := by cases args; simp_all
  obtain ⟨rfl, rfl⟩ := trodVars_none hV
  have k0 := h0
  have lt0 : ∀ x ∈ p0, x.block < W.heap.size := by obtain ⟨m, hm⟩ := k0; exact DataW.trod_lt m _ _ _ hm
  obtain ⟨A0, n0, c0, rfl⟩ := okWide_slice Tryz.underlying22 (hval 0 22 v0 rfl rfl)
  obtain ⟨f0, g0⟩ := h0
  obtain ⟨x0, xh0⟩ := o_ByteS _ _ _ g0
  clear hA0 hval0
  refine (L_FnKeys W _ x0 xh0).mono fun e W' ⟨he, bel⟩ => ?_
  subst he
  exact ⟨_, rfl, _, _, _, [], _, [], hW', trodAll_mk1 (shut_bool Tryz.underlying4 _), (trodAll_cons_mk (Below.trod laidOut (by kernel_rfl) (of_decide_eq_true (by kernel_rfl)) k0 bel lt0) trodAll_mk0), rfl, bel.frame _, fun h => by cases h⟩

theorem proved : Rows.FnKeysSaid :=
  OpenClaim.holds_of_wide 5 Tryz.f5 rfl rfl rfl rfl rfl rfl rfl ⟨rfl, rfl, rfl, rfl, rfl⟩ rfl rfl rfl rfl rfl (by kernel_rfl) Tryz.func5 (by kernel_rfl)
    (of_decide_eq_true (by kernel_rfl)) (by unfold Func.isWrapper; first | (rw [if_pos (by decide +kernel)]; kernel_rfl) | (rw [if_neg (by decide +kernel)]; exact ⟨rfl, rfl⟩))
    (fun os started H enc _ => lifted os started H enc)
end Go.Proofs.YtldgbnlcnlfmeaaGreat.clFnKeys
