/- Texts of this claim, merged by a program: LFnRules. -/
import Derived.Test.YtidnahocnhcoiaaGreatDoorQrP
import Derived.Test.YtidnahocnhcoiaaGreatDoorQr7
import Derived.Test.YtidnahocnhcoiaaGreatDoorQr9
import Derived.Deep.RegionHeld3
import Derived.Deep.DeepCutAuto
namespace Go.Proofs.YtidnahocnhcoiaaGreatDoor
open Go.RowKit
set_option linter.unusedVariables false
set_option linter.unusedSimpArgs false
set_option maxRecDepth 100000 in
set_option maxHeartbeats 8000000 in
theorem L_FnRules (w : World) (v0 : Value) (x0 : Ty.D (.sl .byte)) (h0 : Ty.rd w (.sl .byte) [v0] x0) (hm : MaxI w) :
  Calls Tryz.prog 3 #[v0] w (RetB w true) := by
 obtain ⟨A0, c0, rfl, hc0, hm0, hn0⟩ := Ty.rd_sl h0
 go_enter Tryz.func3, Tryz.ntmps3
 go_wp2_with fail
 refine (C_laws_bigG _ _ _ _).mono ?_
 rintro e w1 ⟨rfl, hw1⟩
 obtain rfl : w = w1 := hw1.symm
 by_cases hbig : (x0.length : Int) > 1048576
 ·go_wp2
  go_ret
  exact ⟨rfl, b_2⟩
 go_wp2_with fail
 refine Calls.mono (C_spec_DrawRuleAllows _ _ x0 (Ty.rd_below b_2 h0)) ?_
 rintro e w1 ⟨⟨csr, r, N0, n, Na, K0, k, Ka, rfl, rr, hokr, rn, hokn, rk, hokk⟩, hb⟩
 obtain ⟨R0, Ra, R1, Rb, rfl, -, -⟩ := rd_Rule rr
 have sbr := Nat.le_trans (rule_bulk hokr) (show 140 ≤ 1048576 by decide)
 have sbn := Nat.le_trans (any_bulk hokn) (show 70 ≤ 1048576 by decide)
 have sbk := Nat.le_trans (any_bulk hokk) (show 70 ≤ 1048576 by decide)
 clear hokr hokn hokk
 have r0 := Ty.rd_below hb h0
 have hW := bel_trans b_2 hb
 clear hb
 go_wp2_with fail
 obtain ⟨V1, hV1⟩ : ∃ V, V = (((w1.alloc (.cells #[.slice R0 (List.length r.1) Ra, .slice R1 (List.length r.2) Rb] 28)).alloc (.cells #[.slice N0 (List.length n) Na] 29)).alloc (.cells #[.slice K0 (List.length k) Ka] 29)) := ⟨_, rfl⟩
 have bV1 : Below w1.heap.size w1 V1 := by rw [hV1]; exact b_0
 have bR : Blk V1 (w1.heap.size) 28 #[.slice R0 (List.length r.1) Ra, .slice R1 (List.length r.2) Rb] := by rw [hV1]; have := Blk.new w1 28 #[.slice R0 (List.length r.1) Ra, .slice R1 (List.length r.2) Rb]; (try simp only [World.size_alloc] at this); exact ((this).alloc _).alloc _
 have zbR := bR.lt
 have bN : Blk V1 (w1.heap.size + 1) 29 #[.slice N0 (List.length n) Na] := by rw [hV1]; have := Blk.new (w1.alloc (.cells #[.slice R0 (List.length r.1) Ra, .slice R1 (List.length r.2) Rb] 28)) 29 #[.slice N0 (List.length n) Na]; (try simp only [World.size_alloc] at this); exact (this).alloc _
 have zbN := bN.lt
 have bK : Blk V1 (w1.heap.size + 1 + 1) 29 #[.slice K0 (List.length k) Ka] := by rw [hV1]; have := Blk.new ((w1.alloc (.cells #[.slice R0 (List.length r.1) Ra, .slice R1 (List.length r.2) Rb] 28)).alloc (.cells #[.slice N0 (List.length n) Na] 29)) 29 #[.slice K0 (List.length k) Ka]; (try simp only [World.size_alloc] at this); exact this
 have zbK := bK.lt
 rw [← hV1]
 clear hV1
 replace r0 := Ty.rd_below bV1 r0
 replace rr := Ty.rd_below bV1 rr
 replace rn := Ty.rd_below bV1 rn
 replace rk := Ty.rd_below bV1 rk
 replace hW := bel_trans hW bV1
 clear bV1
 refine Calls.mono (C_spec_DrawAllowed _ _ x0 r0) ?_
 rintro e w2 ⟨⟨L0, l, La, M0, m, Ma, Q0, q, Qa, rfl, rl, hokl, rm, hokm, rq, hokq⟩, hb⟩
 have sbl := Nat.le_trans (rules_bulk hokl) (show 1269 ≤ 1048576 by decide)
 have sbm := Nat.le_trans (any_bulk hokm) (show 70 ≤ 1048576 by decide)
 have sbq := Nat.le_trans (any_bulk hokq) (show 70 ≤ 1048576 by decide)
 have hll : List.length l ≤ 9 := hokl.1
 clear hokl hokm hokq
 replace r0 := Ty.rd_below hb r0
 replace rr := Ty.rd_below hb rr
 replace rn := Ty.rd_below hb rn
 replace rk := Ty.rd_below hb rk
 replace bR := Blk.below bR hb (Blk.lt bR)
 replace bN := Blk.below bN hb (Blk.lt bN)
 replace bK := Blk.below bK hb (Blk.lt bK)
 replace hW := bel_trans hW hb
 clear hb
 go_wp2_with fail
 obtain ⟨V2, hV2⟩ : ∃ V, V = ((w2.alloc (.cells #[.slice M0 (List.length m) Ma] 29)).alloc (.cells #[.slice Q0 (List.length q) Qa] 29)) := ⟨_, rfl⟩
 have bV2 : Below w2.heap.size w2 V2 := by rw [hV2]; exact b_0
 have bM : Blk V2 (w2.heap.size) 29 #[.slice M0 (List.length m) Ma] := by rw [hV2]; have := Blk.new w2 29 #[.slice M0 (List.length m) Ma]; (try simp only [World.size_alloc] at this); exact (this).alloc _
 have zbM := bM.lt
 have bQ : Blk V2 (w2.heap.size + 1) 29 #[.slice Q0 (List.length q) Qa] := by rw [hV2]; have := Blk.new (w2.alloc (.cells #[.slice M0 (List.length m) Ma] 29)) 29 #[.slice Q0 (List.length q) Qa]; (try simp only [World.size_alloc] at this); exact this
 have zbQ := bQ.lt
 rw [← hV2]
 clear hV2
 replace r0 := Ty.rd_below bV2 r0
 replace rr := Ty.rd_below bV2 rr
 replace rn := Ty.rd_below bV2 rn
 replace rk := Ty.rd_below bV2 rk
 replace bR := Blk.below bR bV2 (Blk.lt bR)
 replace bN := Blk.below bN bV2 (Blk.lt bN)
 replace bK := Blk.below bK bV2 (Blk.lt bK)
 replace rl := Ty.rd_below bV2 rl
 replace rm := Ty.rd_below bV2 rm
 replace rq := Ty.rd_below bV2 rq
 replace hW := bel_trans hW bV2
 clear bV2
 refine Calls.mono (C_spec_DrawParseRule _ _ x0 r0) ?_
 rintro e w3 ⟨⟨s, rfl, hls⟩, hb⟩
 replace r0 := Ty.rd_below hb r0
 replace rr := Ty.rd_below hb rr
 replace rn := Ty.rd_below hb rn
 replace rk := Ty.rd_below hb rk
 replace bR := Blk.below bR hb (Blk.lt bR)
 replace bN := Blk.below bN hb (Blk.lt bN)
 replace bK := Blk.below bK hb (Blk.lt bK)
 replace rl := Ty.rd_below hb rl
 replace rm := Ty.rd_below hb rm
 replace rq := Ty.rd_below hb rq
 replace bM := Blk.below bM hb (Blk.lt bM)
 replace bQ := Blk.below bQ hb (Blk.lt bQ)
 replace hW := bel_trans hW hb
 clear hb
 go_wp2_with fail
 refine Calls.mono (S_impl_ParseRule _ s b_22 (maxI_bel hm (bel_trans hW b_0))) ?_
 obtain ⟨x, hx⟩ : ∃ y, y = f0_ParseRule s := ⟨_, rfl⟩
 obtain ⟨ok, hok⟩ : ∃ o, o = f1_ParseRule s := ⟨_, rfl⟩
 have HP := @parse_yes s
 have sbx : Ty.bulk tRule x ≤ 1048576 := by rw [hx]; exact Nat.le_trans (prI_bulk s) b_21
 rw [← hx, ← hok] at HP
 replace HP := Lib.hid HP
 have HX := Lib.hid hx
 have HK := Lib.hid hok
 rw [← hx, ← hok]
 clear hx hok
 rintro e w4 ⟨cs4, fp4, rfl, how4, -, hb⟩
 have rx := Ty.ow_rd how4
 obtain ⟨X0, Xa, X1, Xb, rfl, -, -⟩ := rd_Rule rx
 clear how4
 replace r0 := Ty.rd_below hb r0
 replace rr := Ty.rd_below hb rr
 replace rn := Ty.rd_below hb rn
 replace rk := Ty.rd_below hb rk
 replace bR := Blk.below bR hb (Blk.lt bR)
 replace bN := Blk.below bN hb (Blk.lt bN)
 replace bK := Blk.below bK hb (Blk.lt bK)
 replace rl := Ty.rd_below hb rl
 replace rm := Ty.rd_below hb rm
 replace rq := Ty.rd_below hb rq
 replace bM := Blk.below bM hb (Blk.lt bM)
 replace bQ := Blk.below bQ hb (Blk.lt bQ)
 replace hW := bel_trans hW hb
 clear hb
 go_wp2_with fail
 obtain ⟨V4, hV4⟩ : ∃ V, V = (w4.alloc (.cells #[.slice X0 (List.length x.1) Xa, .slice X1 (List.length x.2) Xb] 28)) := ⟨_, rfl⟩
 have bV4 : Below w4.heap.size w4 V4 := by rw [hV4]; exact b_0
 have bX : Blk V4 (w4.heap.size) 28 #[.slice X0 (List.length x.1) Xa, .slice X1 (List.length x.2) Xb] := by rw [hV4]; have := Blk.new w4 28 #[.slice X0 (List.length x.1) Xa, .slice X1 (List.length x.2) Xb]; (try simp only [World.size_alloc] at this); exact this
 have zbX := bX.lt
 rw [← hV4]
 clear hV4
 replace r0 := Ty.rd_below bV4 r0
 replace rr := Ty.rd_below bV4 rr
 replace rn := Ty.rd_below bV4 rn
 replace rk := Ty.rd_below bV4 rk
 replace bR := Blk.below bR bV4 (Blk.lt bR)
 replace bN := Blk.below bN bV4 (Blk.lt bN)
 replace bK := Blk.below bK bV4 (Blk.lt bK)
 replace rl := Ty.rd_below bV4 rl
 replace rm := Ty.rd_below bV4 rm
 replace rq := Ty.rd_below bV4 rq
 replace bM := Blk.below bM bV4 (Blk.lt bM)
 replace bQ := Blk.below bQ bV4 (Blk.lt bQ)
 replace rx := Ty.rd_below bV4 rx
 replace hW := bel_trans hW bV4
 clear bV4
 refine Calls.mono (S_spec_ParseRule _ s b_22) ?_
 rw [← HX.out, ← HK.out]
 rintro e w5 ⟨cs5, fp5, rfl, how5, -, hb⟩
 have ry := Ty.ow_rd how5
 obtain ⟨Y0, Ya, Y1, Yb, rfl, -, -⟩ := rd_Rule ry
 clear how5
 replace r0 := Ty.rd_below hb r0
 replace rr := Ty.rd_below hb rr
 replace rn := Ty.rd_below hb rn
 replace rk := Ty.rd_below hb rk
 replace bR := Blk.below bR hb (Blk.lt bR)
 replace bN := Blk.below bN hb (Blk.lt bN)
 replace bK := Blk.below bK hb (Blk.lt bK)
 replace rl := Ty.rd_below hb rl
 replace rm := Ty.rd_below hb rm
 replace rq := Ty.rd_below hb rq
 replace bM := Blk.below bM hb (Blk.lt bM)
 replace bQ := Blk.below bQ hb (Blk.lt bQ)
 replace rx := Ty.rd_below hb rx
 replace bX := Blk.below bX hb (Blk.lt bX)
 replace hW := bel_trans hW hb
 clear hb
 go_wp2_with fail
 obtain ⟨V5, hV5⟩ : ∃ V, V = (w5.alloc (.cells #[.slice Y0 (List.length x.1) Ya, .slice Y1 (List.length x.2) Yb] 28)) := ⟨_, rfl⟩
 have bV5 : Below w5.heap.size w5 V5 := by rw [hV5]; exact b_0
 have bY : Blk V5 (w5.heap.size) 28 #[.slice Y0 (List.length x.1) Ya, .slice Y1 (List.length x.2) Yb] := by rw [hV5]; have := Blk.new w5 28 #[.slice Y0 (List.length x.1) Ya, .slice Y1 (List.length x.2) Yb]; (try simp only [World.size_alloc] at this); exact this
 have zbY := bY.lt
 rw [← hV5]
 clear hV5
 replace r0 := Ty.rd_below bV5 r0
 replace rr := Ty.rd_below bV5 rr
 replace rn := Ty.rd_below bV5 rn
 replace rk := Ty.rd_below bV5 rk
 replace bR := Blk.below bR bV5 (Blk.lt bR)
 replace bN := Blk.below bN bV5 (Blk.lt bN)
 replace bK := Blk.below bK bV5 (Blk.lt bK)
 replace rl := Ty.rd_below bV5 rl
 replace rm := Ty.rd_below bV5 rm
 replace rq := Ty.rd_below bV5 rq
 replace bM := Blk.below bM bV5 (Blk.lt bM)
 replace bQ := Blk.below bQ bV5 (Blk.lt bQ)
 replace rx := Ty.rd_below bV5 rx
 replace bX := Blk.below bX bV5 (Blk.lt bX)
 replace ry := Ty.rd_below bV5 ry
 replace hW := bel_trans hW bV5
 clear bV5
 refine Calls.mono (C_spec_DrawFormatRule _ _ x0 r0) ?_
 rintro e w6 ⟨⟨cst, t, rfl, rt, hokt⟩, hb⟩
 obtain ⟨T0, Ta, T1, Tb, rfl, -, -⟩ := rd_Rule rt
 have sbt := Nat.le_trans (rule_bulk hokt) (show 140 ≤ 1048576 by decide)
 have hft := Lib.hid (fmt_okRule hokt)
 clear hokt
 replace r0 := Ty.rd_below hb r0
 replace rr := Ty.rd_below hb rr
 replace rn := Ty.rd_below hb rn
 replace rk := Ty.rd_below hb rk
 replace bR := Blk.below bR hb (Blk.lt bR)
 replace bN := Blk.below bN hb (Blk.lt bN)
 replace bK := Blk.below bK hb (Blk.lt bK)
 replace rl := Ty.rd_below hb rl
 replace rm := Ty.rd_below hb rm
 replace rq := Ty.rd_below hb rq
 replace bM := Blk.below bM hb (Blk.lt bM)
 replace bQ := Blk.below bQ hb (Blk.lt bQ)
 replace rx := Ty.rd_below hb rx
 replace bX := Blk.below bX hb (Blk.lt bX)
 replace ry := Ty.rd_below hb ry
 replace bY := Blk.below bY hb (Blk.lt bY)
 replace hW := bel_trans hW hb
 clear hb
 go_wp2_with fail
 obtain ⟨V6, hV6⟩ : ∃ V, V = (w6.alloc (.cells #[.slice T0 (List.length t.1) Ta, .slice T1 (List.length t.2) Tb] 28)) := ⟨_, rfl⟩
 have bV6 : Below w6.heap.size w6 V6 := by rw [hV6]; exact b_0
 have bT : Blk V6 (w6.heap.size) 28 #[.slice T0 (List.length t.1) Ta, .slice T1 (List.length t.2) Tb] := by rw [hV6]; have := Blk.new w6 28 #[.slice T0 (List.length t.1) Ta, .slice T1 (List.length t.2) Tb]; (try simp only [World.size_alloc] at this); exact this
 have zbT := bT.lt
 rw [← hV6]
 clear hV6
 replace r0 := Ty.rd_below bV6 r0
 replace rr := Ty.rd_below bV6 rr
 replace rn := Ty.rd_below bV6 rn
 replace rk := Ty.rd_below bV6 rk
 replace bR := Blk.below bR bV6 (Blk.lt bR)
 replace bN := Blk.below bN bV6 (Blk.lt bN)
 replace bK := Blk.below bK bV6 (Blk.lt bK)
 replace rl := Ty.rd_below bV6 rl
 replace rm := Ty.rd_below bV6 rm
 replace rq := Ty.rd_below bV6 rq
 replace bM := Blk.below bM bV6 (Blk.lt bM)
 replace bQ := Blk.below bQ bV6 (Blk.lt bQ)
 replace rx := Ty.rd_below bV6 rx
 replace bX := Blk.below bX bV6 (Blk.lt bX)
 replace ry := Ty.rd_below bV6 ry
 replace bY := Blk.below bY bV6 (Blk.lt bY)
 replace rt := Ty.rd_below bV6 rt
 replace hW := bel_trans hW bV6
 clear bV6
 refine Calls.mono (C_spec_DrawEqualRules _ _ x0 r0) ?_
 rintro e w7 ⟨⟨csa, a, csb, b, rfl, ra, hoka, rb, hokb⟩, hb⟩
 obtain ⟨A0, Aa, A1, Ab, rfl, -, -⟩ := rd_Rule ra
 obtain ⟨B0, Ba, B1, Bb, rfl, -, -⟩ := rd_Rule rb
 clear hoka hokb
 replace r0 := Ty.rd_below hb r0
 replace rr := Ty.rd_below hb rr
 replace rn := Ty.rd_below hb rn
 replace rk := Ty.rd_below hb rk
 replace bR := Blk.below bR hb (Blk.lt bR)
 replace bN := Blk.below bN hb (Blk.lt bN)
 replace bK := Blk.below bK hb (Blk.lt bK)
 replace rl := Ty.rd_below hb rl
 replace rm := Ty.rd_below hb rm
 replace rq := Ty.rd_below hb rq
 replace bM := Blk.below bM hb (Blk.lt bM)
 replace bQ := Blk.below bQ hb (Blk.lt bQ)
 replace rx := Ty.rd_below hb rx
 replace bX := Blk.below bX hb (Blk.lt bX)
 replace ry := Ty.rd_below hb ry
 replace bY := Blk.below bY hb (Blk.lt bY)
 replace rt := Ty.rd_below hb rt
 replace bT := Blk.below bT hb (Blk.lt bT)
 replace hW := bel_trans hW hb
 clear hb
 go_upto_region 10 with fail
 obtain ⟨V7, hV7⟩ : ∃ V, V = ((w7.alloc (.cells #[.slice A0 (List.length a.1) Aa, .slice A1 (List.length a.2) Ab] 28)).alloc (.cells #[.slice B0 (List.length b.1) Ba, .slice B1 (List.length b.2) Bb] 28)) := ⟨_, rfl⟩
 have bV7 : Below w7.heap.size w7 V7 := by rw [hV7]; exact b_0
 have bA : Blk V7 (w7.heap.size) 28 #[.slice A0 (List.length a.1) Aa, .slice A1 (List.length a.2) Ab] := by rw [hV7]; have := Blk.new w7 28 #[.slice A0 (List.length a.1) Aa, .slice A1 (List.length a.2) Ab]; (try simp only [World.size_alloc] at this); exact (this).alloc _
 have zbA := bA.lt
 have bB : Blk V7 (w7.heap.size + 1) 28 #[.slice B0 (List.length b.1) Ba, .slice B1 (List.length b.2) Bb] := by rw [hV7]; have := Blk.new (w7.alloc (.cells #[.slice A0 (List.length a.1) Aa, .slice A1 (List.length a.2) Ab] 28)) 28 #[.slice B0 (List.length b.1) Ba, .slice B1 (List.length b.2) Bb]; (try simp only [World.size_alloc] at this); exact this
 have zbB := bB.lt
 rw [← hV7]
 clear hV7
 replace r0 := Ty.rd_below bV7 r0
 replace rr := Ty.rd_below bV7 rr
 replace rn := Ty.rd_below bV7 rn
 replace rk := Ty.rd_below bV7 rk
 replace bR := Blk.below bR bV7 (Blk.lt bR)
 replace bN := Blk.below bN bV7 (Blk.lt bN)
 replace bK := Blk.below bK bV7 (Blk.lt bK)
 replace rl := Ty.rd_below bV7 rl
 replace rm := Ty.rd_below bV7 rm
 replace rq := Ty.rd_below bV7 rq
 replace bM := Blk.below bM bV7 (Blk.lt bM)
 replace bQ := Blk.below bQ bV7 (Blk.lt bQ)
 replace rx := Ty.rd_below bV7 rx
 replace bX := Blk.below bX bV7 (Blk.lt bX)
 replace ry := Ty.rd_below bV7 ry
 replace bY := Blk.below bY bV7 (Blk.lt bY)
 replace rt := Ty.rd_below bV7 rt
 replace bT := Blk.below bT bV7 (Blk.lt bT)
 replace ra := Ty.rd_below bV7 ra
 replace rb := Ty.rd_below bV7 rb
 replace hW := bel_trans hW bV7
 clear bV7
 have kbM0 : V7.cell? ⟨w2.heap.size, 0, none⟩ = some (.slice M0 (List.length m) Ma) := bM.cell 0
 have zkbM := bM.lt
 have kbQ0 : V7.cell? ⟨w2.heap.size + 1, 0, none⟩ = some (.slice Q0 (List.length q) Qa) := bQ.cell 0
 have zkbQ := bQ.lt
 go_wp2_with fail
 clear kbM0 zkbM
 clear kbQ0 zkbQ
 refine Calls.mono (C_impl_FirstAllowingRule _ _ l _ m _ q rl rm rq sbl sbm sbq) ?_
 have HAL := allowed_sign l m q
 have HF := first_no_or l m q
 obtain ⟨kk, hkk⟩ : ∃ y, y = f_FirstAllowingRule l m q := ⟨_, rfl⟩
 rw [← hkk] at HAL HF
 replace HAL := Lib.hid HAL
 have hkr : -1 ≤ kk ∧ kk ≤ 9 := by rcases HF with h | ⟨jj, h1, h2, -⟩ <;> omega
 replace HF := Lib.hid HF
 have HKK := Lib.hid hkk
 rw [← hkk]
 clear hkk
 rintro e w8 ⟨rfl, hb⟩
 replace r0 := Ty.rd_below hb r0
 replace rr := Ty.rd_below hb rr
 replace rn := Ty.rd_below hb rn
 replace rk := Ty.rd_below hb rk
 replace bR := Blk.below bR hb (Blk.lt bR)
 replace bN := Blk.below bN hb (Blk.lt bN)
 replace bK := Blk.below bK hb (Blk.lt bK)
 replace rl := Ty.rd_below hb rl
 replace rm := Ty.rd_below hb rm
 replace rq := Ty.rd_below hb rq
 replace bM := Blk.below bM hb (Blk.lt bM)
 replace bQ := Blk.below bQ hb (Blk.lt bQ)
 replace rx := Ty.rd_below hb rx
 replace bX := Blk.below bX hb (Blk.lt bX)
 replace ry := Ty.rd_below hb ry
 replace bY := Blk.below bY hb (Blk.lt bY)
 replace rt := Ty.rd_below hb rt
 replace bT := Blk.below bT hb (Blk.lt bT)
 replace ra := Ty.rd_below hb ra
 replace rb := Ty.rd_below hb rb
 replace bA := Blk.below bA hb (Blk.lt bA)
 replace bB := Blk.below bB hb (Blk.lt bB)
 replace hW := bel_trans hW hb
 clear hb
 go_upto_region 11 with fail
 have HC : Hid (∀ V, Below w8.heap.size w8 V → V.cell? ⟨w1.heap.size, 0, none⟩ = some (.slice R0 (List.length r.1) Ra) ∧ V.cell? ⟨w1.heap.size, 1, none⟩ = some (.slice R1 (List.length r.2) Rb) ∧ V.cell? ⟨w1.heap.size + 1, 0, none⟩ = some (.slice N0 (List.length n) Na) ∧ V.cell? ⟨w1.heap.size + 1 + 1, 0, none⟩ = some (.slice K0 (List.length k) Ka) ∧ V.cell? ⟨w2.heap.size, 0, none⟩ = some (.slice M0 (List.length m) Ma) ∧ V.cell? ⟨w2.heap.size + 1, 0, none⟩ = some (.slice Q0 (List.length q) Qa) ∧ V.cell? ⟨w4.heap.size, 0, none⟩ = some (.slice X0 (List.length x.1) Xa) ∧ V.cell? ⟨w4.heap.size, 1, none⟩ = some (.slice X1 (List.length x.2) Xb) ∧ V.cell? ⟨w5.heap.size, 0, none⟩ = some (.slice Y0 (List.length x.1) Ya) ∧ V.cell? ⟨w5.heap.size, 1, none⟩ = some (.slice Y1 (List.length x.2) Yb) ∧ V.cell? ⟨w6.heap.size, 0, none⟩ = some (.slice T0 (List.length t.1) Ta) ∧ V.cell? ⟨w6.heap.size, 1, none⟩ = some (.slice T1 (List.length t.2) Tb) ∧ V.cell? ⟨w7.heap.size, 0, none⟩ = some (.slice A0 (List.length a.1) Aa) ∧ V.cell? ⟨w7.heap.size, 1, none⟩ = some (.slice A1 (List.length a.2) Ab) ∧ V.cell? ⟨w7.heap.size + 1, 0, none⟩ = some (.slice B0 (List.length b.1) Ba) ∧ V.cell? ⟨w7.heap.size + 1, 1, none⟩ = some (.slice B1 (List.length b.2) Bb)) := fun V hV => ⟨(bR.below hV bR.lt).cell 0, (bR.below hV bR.lt).cell 1, (bN.below hV bN.lt).cell 0, (bK.below hV bK.lt).cell 0, (bM.below hV bM.lt).cell 0, (bQ.below hV bQ.lt).cell 0, (bX.below hV bX.lt).cell 0, (bX.below hV bX.lt).cell 1, (bY.below hV bY.lt).cell 0, (bY.below hV bY.lt).cell 1, (bT.below hV bT.lt).cell 0, (bT.below hV bT.lt).cell 1, (bA.below hV bA.lt).cell 0, (bA.below hV bA.lt).cell 1, (bB.below hV bB.lt).cell 0, (bB.below hV bB.lt).cell 1⟩
 refine wp_region_noPanic ?_
 refine wp_region_held_drew (S := (fun V => V.cell? ⟨w1.heap.size, 0, none⟩ = some (.slice R0 (List.length r.1) Ra) ∧ V.cell? ⟨w1.heap.size, 1, none⟩ = some (.slice R1 (List.length r.2) Rb) ∧ V.cell? ⟨w1.heap.size + 1, 0, none⟩ = some (.slice N0 (List.length n) Na) ∧ V.cell? ⟨w1.heap.size + 1 + 1, 0, none⟩ = some (.slice K0 (List.length k) Ka) ∧ V.cell? ⟨w2.heap.size, 0, none⟩ = some (.slice M0 (List.length m) Ma) ∧ V.cell? ⟨w2.heap.size + 1, 0, none⟩ = some (.slice Q0 (List.length q) Qa) ∧ V.cell? ⟨w4.heap.size, 0, none⟩ = some (.slice X0 (List.length x.1) Xa) ∧ V.cell? ⟨w4.heap.size, 1, none⟩ = some (.slice X1 (List.length x.2) Xb) ∧ V.cell? ⟨w5.heap.size, 0, none⟩ = some (.slice Y0 (List.length x.1) Ya) ∧ V.cell? ⟨w5.heap.size, 1, none⟩ = some (.slice Y1 (List.length x.2) Yb) ∧ V.cell? ⟨w6.heap.size, 0, none⟩ = some (.slice T0 (List.length t.1) Ta) ∧ V.cell? ⟨w6.heap.size, 1, none⟩ = some (.slice T1 (List.length t.2) Tb) ∧ V.cell? ⟨w7.heap.size, 0, none⟩ = some (.slice A0 (List.length a.1) Aa) ∧ V.cell? ⟨w7.heap.size, 1, none⟩ = some (.slice A1 (List.length a.2) Ab) ∧ V.cell? ⟨w7.heap.size + 1, 0, none⟩ = some (.slice B0 (List.length b.1) Ba) ∧ V.cell? ⟨w7.heap.size + 1, 1, none⟩ = some (.slice B1 (List.length b.2) Bb))) b_17 ?_ (fun hHeld => ?_)
 ·exact HC.out _ b_0
 refine tk 0 (opN rfl) b_17 b_24 b_9 b_19 ?_
 try simp only [layz]
 refine tk 1 (opN rfl) b_17 b_24 b_9 b_19 ?_
 try simp only [layz]
 refine tk 2 (opN rfl) b_17 b_24 b_9 b_19 ?_
 try simp only [layz]
 refine tk 4 (opN rfl) b_17 b_24 b_9 b_19 ?_
 try simp only [layz]
 refine tk 5 (opN rfl) b_17 b_24 b_9 b_19 ?_
 try simp only [layz]
 refine tk 6 (opN rfl) b_17 b_24 b_9 b_19 ?_
 try simp only [layz]
 refine wpAnyH_ready (rs := [3]) b_17 b_23 ?_
 refine (AllReadyH.cons (opN rfl) (fun K hK => ?_) AllReadyH.nil)
 go_simp
 go_at_call 13
 refine Calls.mono (C_impl_RuleAllows _ _ r _ n _ k (Ty.rd_below b_0 rr) (Ty.rd_below b_0 rn) (Ty.rd_below b_0 rk) sbr sbn sbk) ?_
 rintro e u3 ⟨rfl, hu3⟩
 refine hK.out _ _ (HC.out _ b_0) (fun hHeld => ?_)
 clear hK K
 try simp only [layz]
 refine wpAnyH_ready (rs := [7]) b_17 b_23 ?_
 refine (AllReadyH.cons (opN rfl) (fun K hK => ?_) AllReadyH.nil)
 go_simp
 go_at_call 14
 refine Calls.mono (C_spec_RuleAllows _ _ r _ n _ k (Ty.rd_below b_0 rr) (Ty.rd_below b_0 rn) (Ty.rd_below b_0 rk) sbr sbn sbk) ?_
 rintro e u7 ⟨rfl, hu7⟩
 refine hK.out _ _ (HC.out _ b_0) (fun hHeld => ?_)
 clear hK K
 try simp only [layz]
 refine tk 8 (opN rfl) b_17 b_24 b_9 b_19 ?_
 try simp only [layz]
 refine tk 9 (opN rfl) b_17 b_24 b_9 b_19 ?_
 try simp only [layz]
 refine tk 10 (opN rfl) b_17 b_24 b_9 b_19 ?_
 try simp only [layz]
 refine tk 11 (opN rfl) b_17 b_24 b_9 b_19 ?_
 try simp only [layz]
 refine tk 12 (opN rfl) b_17 b_24 b_9 b_19 ?_
 try simp only [layz]
 refine tk 14 (opN rfl) b_17 b_24 b_9 b_19 ?_
 try simp only [layz]
 refine tk 15 (opN rfl) b_17 b_24 b_9 b_19 ?_
 try simp only [layz]
 refine tk 16 (opN rfl) b_17 b_24 b_9 b_19 ?_
 try simp only [layz]
 refine wpAnyH_ready (rs := [13]) b_17 b_23 ?_
 refine (AllReadyH.cons (opN rfl) (fun K hK => ?_) AllReadyH.nil)
 go_simp
 go_at_call 15
 refine Calls.mono (C_impl_Allowed _ _ l _ m _ q (Ty.rd_below b_0 rl) (Ty.rd_below b_0 rm) (Ty.rd_below b_0 rq) sbl sbm sbq) ?_
 rintro e u13 ⟨rfl, hu13⟩
 refine hK.out _ _ (HC.out _ b_0) (fun hHeld => ?_)
 clear hK K
 try simp only [layz]
 refine wpAnyH_ready (rs := [17]) b_17 b_23 ?_
 refine (AllReadyH.cons (opN rfl) (fun K hK => ?_) AllReadyH.nil)
 go_simp
 go_at_call 16
 refine Calls.mono (C_spec_Allowed _ _ l _ m _ q (Ty.rd_below b_0 rl) (Ty.rd_below b_0 rm) (Ty.rd_below b_0 rq) sbl sbm sbq) ?_
 rintro e u17 ⟨rfl, hu17⟩
 refine hK.out _ _ (HC.out _ b_0) (fun hHeld => ?_)
 clear hK K
 try simp only [layz]
 refine tk 18 (opN rfl) b_17 b_24 b_9 b_19 ?_
 try simp only [layz]
 refine tk 19 (opN rfl) b_17 b_24 b_9 b_19 ?_
 try simp only [layz]
 refine tk 20 (opN rfl) b_17 b_24 b_9 b_19 ?_
 try simp only [layz]
 refine tk 21 (opN rfl) b_17 b_24 b_9 b_19 ?_
 try simp only [layz]
 refine tk 22 (opN rfl) b_17 b_24 b_9 b_19 ?_
 try simp only [layz]
 refine tk 23 (opN rfl) b_17 b_24 b_9 b_19 ?_
 try simp only [layz]
 refine tk 24 (opN rfl) b_17 b_24 b_9 b_19 ?_
 try simp only [layz]
 refine wpAnyH_ready (rs := [25]) b_17 b_23 ?_
 refine (AllReadyH.cons (opN rfl) (fun K hK => ?_) AllReadyH.nil)
 go_simp
 go_at_call 17
 refine Calls.mono (C_spec_FirstAllowingRule _ _ l _ m _ q (Ty.rd_below b_0 rl) (Ty.rd_below b_0 rm) (Ty.rd_below b_0 rq) sbl sbm sbq) ?_
 rw [← HKK.out]
 rintro e u25 ⟨rfl, hu25⟩
 refine hK.out _ _ (HC.out _ b_0) (fun hHeld => ?_)
 clear hK K
 try simp only [layz]
 refine tk 26 (opN rfl) b_17 b_24 b_9 b_19 ?_
 try simp only [layz]
 refine tk 27 (opN rfl) b_17 b_24 b_9 b_19 ?_
 try simp only [layz]
 refine tk 28 (opN rfl) b_17 b_24 b_9 b_19 ?_
 try simp only [layz]
 refine tk 29 (opN rfl) b_17 b_24 b_9 b_19 ?_
 try simp only [layz]
 refine tk 31 (opN rfl) b_17 b_24 b_9 b_19 ?_
 try simp only [layz]
 refine wpAnyH_ready (rs := [30]) b_17 b_23 ?_
 refine (AllReadyH.cons (opN rfl) (fun K hK => ?_) AllReadyH.nil)
 go_simp
 go_at_call 18
 refine Calls.mono (C_impl_FormatRule _ _ x (Ty.rd_below b_0 rx) sbx) ?_
 rintro e u30 ⟨rfl, hu30⟩
 refine hK.out _ _ (HC.out _ b_0) (fun hHeld => ?_)
 clear hK K
 try simp only [layz]
 refine wpAnyH_ready (rs := [32]) b_17 b_23 ?_
 refine (AllReadyH.cons (opN rfl) (fun K hK => ?_) AllReadyH.nil)
 go_simp
 go_at_call 19
 refine Calls.mono (C_spec_FormatRule _ _ x (Ty.rd_below b_0 rx) sbx) ?_
 rintro e u32 ⟨rfl, hu32⟩
 refine hK.out _ _ (HC.out _ b_0) (fun hHeld => ?_)
 clear hK K
 try simp only [layz]
 refine tk 33 (opN rfl) b_17 b_24 b_9 b_19 ?_
 try simp only [layz]
 refine tk 34 (opN rfl) b_17 b_24 b_9 b_19 ?_
 try simp only [layz]
 refine tk 35 (opN rfl) b_17 b_24 b_9 b_19 ?_
 try simp only [layz]
 refine tk 36 (opN rfl) b_17 b_24 b_9 b_19 ?_
 try simp only [layz]
 refine tk 37 (opN rfl) b_17 b_24 b_9 b_19 ?_
 try simp only [layz]
 refine tk 38 (opN rfl) b_17 b_24 b_9 b_19 ?_
 try simp only [layz]
 refine tk 39 (opN rfl) b_17 b_24 b_9 b_19 ?_
 try simp only [layz]
 refine tk 40 (opN rfl) b_17 b_24 b_9 b_19 ?_
 try simp only [layz]
 refine tk 41 (opN rfl) b_17 b_24 b_9 b_19 ?_
 try simp only [layz]
 refine tk 43 (opN rfl) b_17 b_24 b_9 b_19 ?_
 try simp only [layz]
 refine wpAnyH_ready (rs := [42]) b_17 b_23 ?_
 refine (AllReadyH.cons (opN rfl) (fun K hK => ?_) AllReadyH.nil)
 go_simp
 go_at_call 18
 refine Calls.mono (C_impl_FormatRule _ _ x (Ty.rd_below b_0 ry) sbx) ?_
 rintro e u42 ⟨rfl, hu42⟩
 refine hK.out _ _ (HC.out _ b_0) (fun hHeld => ?_)
 clear hK K
 try simp only [layz]
 refine wpAnyH_ready (rs := [44]) b_17 b_23 ?_
 refine (AllReadyH.cons (opN rfl) (fun K hK => ?_) AllReadyH.nil)
 go_simp
 go_at_call 18
 refine Calls.mono (C_impl_FormatRule _ _ x (Ty.rd_below b_0 rx) sbx) ?_
 rintro e u44 ⟨rfl, hu44⟩
 refine hK.out _ _ (HC.out _ b_0) (fun hHeld => ?_)
 clear hK K
 try simp only [layz]
 refine tk 45 (opN rfl) b_17 b_24 b_9 b_19 ?_
 try simp only [layz]
 refine tk 46 (opN rfl) b_17 b_24 b_9 b_19 ?_
 try simp only [layz]
 refine tk 47 (opN rfl) b_17 b_24 b_9 b_19 ?_
 try simp only [layz]
 refine tk 48 (opN rfl) b_17 b_24 b_9 b_19 ?_
 try simp only [layz]
 refine tk 50 (opN rfl) b_17 b_24 b_9 b_19 ?_
 try simp only [layz]
 refine wpAnyH_ready (rs := [49]) b_17 b_23 ?_
 refine (AllReadyH.cons (opN rfl) (fun K hK => ?_) AllReadyH.nil)
 go_simp
 go_at_call 18
 refine Calls.mono (C_impl_FormatRule _ _ t (Ty.rd_below b_0 rt) sbt) ?_
 rintro e u49 ⟨rfl, hu49⟩
 refine hK.out _ _ (HC.out _ b_0) (fun hHeld => ?_)
 clear hK K
 try simp only [layz]
 refine wpAnyH_ready (rs := [51]) b_17 b_23 ?_
 refine (AllReadyH.cons (opN rfl) (fun K hK => ?_) AllReadyH.nil)
 go_simp
 go_at_call 19
 refine Calls.mono (C_spec_FormatRule _ _ t (Ty.rd_below b_0 rt) sbt) ?_
 rintro e u51 ⟨rfl, hu51⟩
 refine hK.out _ _ (HC.out _ b_0) (fun hHeld => ?_)
 clear hK K
 try simp only [layz]
 refine tk 52 (opN rfl) b_17 b_24 b_9 b_19 ?_
 try simp only [layz]
 refine tk 53 (opN rfl) b_17 b_24 b_9 b_19 ?_
 try simp only [layz]
 refine tk 54 (opN rfl) b_17 b_24 b_9 b_19 ?_
 try simp only [layz]
 refine tk 55 (opN rfl) b_17 b_24 b_9 b_19 ?_
 try simp only [layz]
 refine tk 56 (opN rfl) b_17 b_24 b_9 b_19 ?_
 try simp only [layz]
 refine tk 58 (opN rfl) b_17 b_24 b_9 b_19 ?_
 try simp only [layz]
 refine tk 59 (opN rfl) b_17 b_24 b_9 b_19 ?_
 try simp only [layz]
 refine wpAnyH_ready (rs := [57]) b_17 b_23 ?_
 refine (AllReadyH.cons (opN rfl) (fun K hK => ?_) AllReadyH.nil)
 go_simp
 go_at_call 20
 refine Calls.mono (C_impl_EqualRules _ _ _ a b (Ty.rd_below b_0 ra) (Ty.rd_below b_0 rb)) ?_
 rintro e u57 ⟨rfl, hu57⟩
 refine hK.out _ _ (HC.out _ b_0) (fun hHeld => ?_)
 clear hK K
 try simp only [layz]
 refine wpAnyH_ready (rs := [60]) b_17 b_23 ?_
 refine (AllReadyH.cons (opN rfl) (fun K hK => ?_) AllReadyH.nil)
 go_simp
 go_at_call 21
 refine Calls.mono (C_spec_EqualRules _ _ _ a b (Ty.rd_below b_0 ra) (Ty.rd_below b_0 rb)) ?_
 rintro e u60 ⟨rfl, hu60⟩
 refine hK.out _ _ (HC.out _ b_0) (fun hHeld => ?_)
 clear hK K
 try simp only [layz]
 refine tk 61 (opN rfl) b_17 b_24 b_9 b_19 ?_
 try simp only [layz]
 refine tk 62 (opN rfl) b_17 b_24 b_9 b_19 ?_
 try simp only [layz]
 refine tk 63 (opN rfl) b_17 b_24 b_9 b_19 ?_
 try simp only [layz]
 refine tk 64 (opN rfl) b_17 b_24 b_9 b_19 ?_
 try simp only [layz]
 refine tk 66 (opN rfl) b_17 b_24 b_9 b_19 ?_
 try simp only [layz]
 refine wpAnyH_ready (rs := [65]) b_17 b_23 ?_
 refine (AllReadyH.cons (opN rfl) (fun K hK => ?_) AllReadyH.nil)
 go_simp
 go_at_call 22
 refine Calls.mono (C_impl_ValidRules _ _ l (Ty.rd_below b_0 rl) sbl) ?_
 rintro e u65 ⟨rfl, hu65⟩
 refine hK.out _ _ (HC.out _ b_0) (fun hHeld => ?_)
 clear hK K
 try simp only [layz]
 refine wpAnyH_ready (rs := [67]) b_17 b_23 ?_
 refine (AllReadyH.cons (opN rfl) (fun K hK => ?_) AllReadyH.nil)
 go_simp
 go_at_call 23
 refine Calls.mono (C_spec_ValidRules _ _ l (Ty.rd_below b_0 rl) sbl) ?_
 rintro e u67 ⟨rfl, hu67⟩
 refine hK.out _ _ (HC.out _ b_0) (fun hHeld => ?_)
 clear hK K
 try simp only [layz]
 refine tk 68 (opN rfl) b_17 b_24 b_9 b_19 ?_
 try simp only [layz]
 refine tk 69 (opN rfl) b_17 b_24 b_9 b_19 ?_
 try simp only [layz]
 refine tk 70 (opN rfl) b_17 b_24 b_9 b_19 ?_
 try simp only [layz]
 refine tk 71 (opN rfl) b_17 b_24 b_9 b_19 ?_
 try simp only [layz]
 refine tk 73 (opN rfl) b_17 b_24 b_9 b_19 ?_
 try simp only [layz]
 refine wpAnyH_ready (rs := [72]) b_17 b_23 ?_
 refine (AllReadyH.cons (opN rfl) (fun K hK => ?_) AllReadyH.nil)
 go_simp
 go_at_call 24
 refine Calls.mono (C_impl_ValidRule _ _ t (Ty.rd_below b_0 rt) sbt) ?_
 rintro e u72 ⟨rfl, hu72⟩
 refine hK.out _ _ (HC.out _ b_0) (fun hHeld => ?_)
 clear hK K
 try simp only [layz]
 refine wpAnyH_ready (rs := [74]) b_17 b_23 ?_
 refine (AllReadyH.cons (opN rfl) (fun K hK => ?_) AllReadyH.nil)
 go_simp
 go_at_call 25
 refine Calls.mono (C_spec_ValidRule _ _ t (Ty.rd_below b_0 rt) sbt) ?_
 rintro e u74 ⟨rfl, hu74⟩
 refine hK.out _ _ (HC.out _ b_0) (fun hHeld => ?_)
 clear hK K
 try simp only [layz]
 refine tk 75 (opN rfl) b_17 b_24 b_9 b_19 ?_
 try simp only [layz]
 refine tk 76 (opN rfl) b_17 b_24 b_9 b_19 ?_
 try simp only [layz]
 refine wpAnyH_done b_17 ?_ _
 refine NoPanic.normal ?_
 as_aux_lemma =>
  have hU : Below w8.heap.size w8 u74 := b_0
  replace hW := bel_trans hW hU
  replace rl := Ty.rd_below hU rl
  replace rm := Ty.rd_below hU rm
  replace rq := Ty.rd_below hU rq
  replace rx := Ty.rd_below hU rx
  replace rt := Ty.rd_below hU rt
  replace bM := Blk.below bM hU (Blk.lt bM)
  replace bQ := Blk.below bQ hU (Blk.lt bQ)
  replace bX := Blk.below bX hU (Blk.lt bX)
  replace bT := Blk.below bT hU (Blk.lt bT)
  clear hU HC HX HK HKK r0 rr rn rk ry ra rb bR bN bK bY bA bB
  obtain ⟨VY, hVY⟩ : ∃ V, V = u74 := ⟨_, rfl⟩
  subst hVY
  cases ok
  case' false =>
   clear HP
   have kbT0 : VY.cell? ⟨w6.heap.size, 0, none⟩ = some (.slice T0 (List.length t.1) Ta) := bT.cell 0
   have kbT1 : VY.cell? ⟨w6.heap.size, 1, none⟩ = some (.slice T1 (List.length t.2) Tb) := bT.cell 1
   have zkbT := bT.lt
   go_wp2_with fail
   clear kbT0 kbT1 zkbT
   refine Calls.mono (C_impl_FormatRule _ _ t rt sbt) ?_
   rintro e q1 ⟨rfl, hb⟩
   replace rl := Ty.rd_below hb rl
   replace rm := Ty.rd_below hb rm
   replace rq := Ty.rd_below hb rq
   replace rx := Ty.rd_below hb rx
   replace rt := Ty.rd_below hb rt
   replace bM := Blk.below bM hb (Blk.lt bM)
   replace bQ := Blk.below bQ hb (Blk.lt bQ)
   replace bX := Blk.below bX hb (Blk.lt bX)
   replace bT := Blk.below bT hb (Blk.lt bT)
   replace hW := bel_trans hW hb
   clear hb
   go_wp2_with fail
   cases hv : validRule t with
   | false =>
    refine Calls.mono (S_impl_ParseRule _ (f_FormatRule t) (by have := hft.out; omega) (maxI_bel hm (bel_trans hW b_0))) ?_
    generalize f0_ParseRule (f_FormatRule t) = z
    generalize f1_ParseRule (f_FormatRule t) = back
    have hvt := Lib.hid hv
    clear hv
    rintro e q2 ⟨cq2, fq2, rfl, how, -, hb⟩
    have rz := Ty.ow_rd how
    obtain ⟨Z0, Za, Z1, Zb, rfl, -, -⟩ := rd_Rule rz
    clear how
    replace rl := Ty.rd_below hb rl
    replace rm := Ty.rd_below hb rm
    replace rq := Ty.rd_below hb rq
    replace rx := Ty.rd_below hb rx
    replace rt := Ty.rd_below hb rt
    replace bM := Blk.below bM hb (Blk.lt bM)
    replace bQ := Blk.below bQ hb (Blk.lt bQ)
    replace bX := Blk.below bX hb (Blk.lt bX)
    replace bT := Blk.below bT hb (Blk.lt bT)
    replace hW := bel_trans hW hb
    clear hb
    go_upto_region 16 with fail
    obtain ⟨Q2, hQ2⟩ : ∃ V, V = (q2.alloc (.cells #[.slice Z0 (List.length z.1) Za, .slice Z1 (List.length z.2) Zb] 28)) := ⟨_, rfl⟩
    have bQ2 : Below q2.heap.size q2 Q2 := by rw [hQ2]; exact b_0
    have bZ : Blk Q2 (q2.heap.size) 28 #[.slice Z0 (List.length z.1) Za, .slice Z1 (List.length z.2) Zb] := by rw [hQ2]; have := Blk.new q2 28 #[.slice Z0 (List.length z.1) Za, .slice Z1 (List.length z.2) Zb]; (try simp only [World.size_alloc] at this); exact this
    have zbZ := bZ.lt
    rw [← hQ2]
    clear hQ2
    replace rl := Ty.rd_below bQ2 rl
    replace rm := Ty.rd_below bQ2 rm
    replace rq := Ty.rd_below bQ2 rq
    replace rx := Ty.rd_below bQ2 rx
    replace rt := Ty.rd_below bQ2 rt
    replace bM := Blk.below bM bQ2 (Blk.lt bM)
    replace bQ := Blk.below bQ bQ2 (Blk.lt bQ)
    replace bX := Blk.below bX bQ2 (Blk.lt bX)
    replace bT := Blk.below bT bQ2 (Blk.lt bT)
    replace rz := Ty.rd_below bQ2 rz
    replace hW := bel_trans hW bQ2
    clear bQ2
    rcases HF.out with hk0 | ⟨jj, hjl, hk0, hja0⟩
    ·subst hk0
     have hal : Hid (f_Allowed l m q = false) := Lib.hid (HAL.out.trans b_21)
     clear HF HAL
     have HC2 : Hid (∀ V, Below Q2.heap.size Q2 V → V.cell? ⟨w2.heap.size, 0, none⟩ = some (.slice M0 (List.length m) Ma) ∧ V.cell? ⟨w2.heap.size + 1, 0, none⟩ = some (.slice Q0 (List.length q) Qa) ∧ V.cell? ⟨w6.heap.size, 0, none⟩ = some (.slice T0 (List.length t.1) Ta) ∧ V.cell? ⟨w6.heap.size, 1, none⟩ = some (.slice T1 (List.length t.2) Tb) ∧ V.cell? ⟨q2.heap.size, 0, none⟩ = some (.slice Z0 (List.length z.1) Za) ∧ V.cell? ⟨q2.heap.size, 1, none⟩ = some (.slice Z1 (List.length z.2) Zb)) := fun V hV => ⟨(bM.below hV bM.lt).cell 0, (bQ.below hV bQ.lt).cell 0, (bT.below hV bT.lt).cell 0, (bT.below hV bT.lt).cell 1, (bZ.below hV bZ.lt).cell 0, (bZ.below hV bZ.lt).cell 1⟩
     refine wp_region_noPanic ?_
     refine wp_region_held_drew (S := (fun V => V.cell? ⟨w2.heap.size, 0, none⟩ = some (.slice M0 (List.length m) Ma) ∧ V.cell? ⟨w2.heap.size + 1, 0, none⟩ = some (.slice Q0 (List.length q) Qa) ∧ V.cell? ⟨w6.heap.size, 0, none⟩ = some (.slice T0 (List.length t.1) Ta) ∧ V.cell? ⟨w6.heap.size, 1, none⟩ = some (.slice T1 (List.length t.2) Tb) ∧ V.cell? ⟨q2.heap.size, 0, none⟩ = some (.slice Z0 (List.length z.1) Za) ∧ V.cell? ⟨q2.heap.size, 1, none⟩ = some (.slice Z1 (List.length z.2) Zb))) b_17 ?_ (fun hHeld => ?_)
     ·exact HC2.out _ b_0
     refine tk 0 (opN rfl) b_17 b_24 b_9 b_19 ?_
     try simp only [layz]
     refine tk 1 (opN rfl) b_17 b_24 b_9 b_19 ?_
     try simp only [layz]
     refine tk 2 (opN rfl) b_17 b_24 b_9 b_19 ?_
     try simp only [layz]
     refine tk 4 (opN rfl) b_17 b_24 b_9 b_19 ?_
     try simp only [layz]
     refine tk 5 (opN rfl) b_17 b_24 b_9 b_19 ?_
     try simp only [layz]
     refine wpAnyH_ready (rs := [3]) b_17 b_23 ?_
     refine (AllReadyH.cons (opN rfl) (fun K hK => ?_) AllReadyH.nil)
     go_simp
     go_at_call 15
     refine Calls.mono (C_impl_Allowed _ _ l _ m _ q (Ty.rd_below b_0 rl) (Ty.rd_below b_0 rm) (Ty.rd_below b_0 rq) sbl sbm sbq) ?_
     rw [hal.out]
     rintro e u3 ⟨rfl, hu3⟩
     refine hK.out _ _ (HC2.out _ b_0) (fun hHeld => ?_)
     clear hK K
     try simp only [layz]
     refine tk 6 (opN rfl) b_17 b_24 b_9 b_19 ?_
     try simp only [layz]
     refine tk 7 (opN rfl) b_17 b_24 b_9 b_19 ?_
     try simp only [layz]
     refine tk 8 (opN rfl) b_17 b_24 b_9 b_19 ?_
     try simp only [layz]
     refine tk 9 (opN rfl) b_17 b_24 b_9 b_19 ?_
     try simp only [layz]
     refine tk 10 (opN rfl) b_17 b_24 b_9 b_19 ?_
     try simp only [layz]
     refine sk 11 (opN rfl) b_17 b_24 b_19 ?_
     try simp only [layz]
     refine sk 12 (opN rfl) b_17 b_24 b_19 ?_
     try simp only [layz]
     refine sk 15 (opN rfl) b_17 b_24 b_19 ?_
     try simp only [layz]
     refine sk 16 (opN rfl) b_17 b_24 b_19 ?_
     try simp only [layz]
     refine sk 13 (opN rfl) b_17 b_24 b_19 ?_
     try simp only [layz]
     refine sk 14 (opN rfl) b_17 b_24 b_19 ?_
     try simp only [layz]
     refine sk 17 (opN rfl) b_17 b_24 b_19 ?_
     try simp only [layz]
     refine tk 18 (opN rfl) b_17 b_24 b_9 b_19 ?_
     try simp only [layz]
     refine tk 19 (opN rfl) b_17 b_24 b_9 b_19 ?_
     try simp only [layz]
     refine tk 20 (opN rfl) b_17 b_24 b_9 b_19 ?_
     try simp only [layz]
     refine tk 21 (opN rfl) b_17 b_24 b_9 b_19 ?_
     try simp only [layz]
     refine wpAnyH_ready (rs := [22]) b_17 b_23 ?_
     refine (AllReadyH.cons (opN rfl) (fun K hK => ?_) AllReadyH.nil)
     go_simp
     go_at_call 24
     refine Calls.mono (C_impl_ValidRule _ _ t (Ty.rd_below b_0 rt) sbt) ?_
     rw [hvt.out]
     rintro e u22 ⟨rfl, hu22⟩
     refine hK.out _ _ (HC2.out _ b_0) (fun hHeld => ?_)
     clear hK K
     try simp only [layz]
     refine tk 23 (opN rfl) b_17 b_24 b_9 b_19 ?_
     try simp only [layz]
     refine tk 24 (opN rfl) b_17 b_24 b_9 b_19 ?_
     try simp only [layz]
     refine sk 25 (opN rfl) b_17 b_24 b_19 ?_
     try simp only [layz]
     refine sk 26 (opN rfl) b_17 b_24 b_19 ?_
     try simp only [layz]
     refine sk 27 (opN rfl) b_17 b_24 b_19 ?_
     try simp only [layz]
     refine sk 28 (opN rfl) b_17 b_24 b_19 ?_
     try simp only [layz]
     refine sk 29 (opN rfl) b_17 b_24 b_19 ?_
     try simp only [layz]
     refine sk 30 (opN rfl) b_17 b_24 b_19 ?_
     try simp only [layz]
     refine tk 31 (opN rfl) b_17 b_24 b_9 b_19 ?_
     try simp only [layz]
     refine tk 32 (opN rfl) b_17 b_24 b_9 b_19 ?_
     try simp only [layz]
     refine tk 33 (opN rfl) b_17 b_24 b_9 b_19 ?_
     try simp only [layz]
     refine wpAnyH_done b_17 ?_ _
     refine NoPanic.normal ?_
     have hT : Below Q2.heap.size Q2 u22 := b_0
     go_wp2
     go_ret
     exact ⟨rfl, bel_trans hW hT⟩
    ·subst hk0
     have hal : Hid (f_Allowed l m q = true) := Lib.hid (HAL.out.trans (decide_eq_true b_22))
     have hja := Lib.hid hja0
     clear HF HAL hja0
     obtain ⟨eb, eo, ds, rfl, hle, hcell, hrd⟩ := Ty.rd_at rl (k := jj) hjl
     have rj := hrd
     obtain ⟨C0, Ca, C1, Cb, rfl, -, -⟩ := rd_Rule hrd
     have e0 : Q2.cell? ⟨eb, eo + jj * 2, none⟩ = some (.slice C0 (List.length (l[jj]).1) Ca) := by simpa [Ty.sz] using hcell 0 b_21
     have e1 : Q2.cell? ⟨eb, eo + jj * 2 + 1, none⟩ = some (.slice C1 (List.length (l[jj]).2) Cb) := by simpa [Ty.sz] using hcell 1 b_21
     clear hcell hle hrd
     have zz1 : eb < Q2.heap.size := World.block_lt_of_cell? _ _ e0
     have sbj : Ty.bulk tRule l[jj] ≤ 1048576 := Ty.bulk_at sbl hjl
     have hw64 : IntKind.i64.wrap (jj : Int) = (jj : Int) := IntWalk.i64_in _ b_22
     have hj0 : (0 : Int) ≤ (jj : Int) := by omega
     have hj1 : (jj : Int) < (List.length l : Int) := by omega
     have HC2 : Hid (∀ V, Below Q2.heap.size Q2 V → V.cell? ⟨w2.heap.size, 0, none⟩ = some (.slice M0 (List.length m) Ma) ∧ V.cell? ⟨w2.heap.size + 1, 0, none⟩ = some (.slice Q0 (List.length q) Qa) ∧ V.cell? ⟨w6.heap.size, 0, none⟩ = some (.slice T0 (List.length t.1) Ta) ∧ V.cell? ⟨w6.heap.size, 1, none⟩ = some (.slice T1 (List.length t.2) Tb) ∧ V.cell? ⟨q2.heap.size, 0, none⟩ = some (.slice Z0 (List.length z.1) Za) ∧ V.cell? ⟨q2.heap.size, 1, none⟩ = some (.slice Z1 (List.length z.2) Zb) ∧ V.cell? ⟨eb, eo + jj * 2, none⟩ = some (.slice C0 (List.length (l[jj]).1) Ca) ∧ V.cell? ⟨eb, eo + jj * 2 + 1, none⟩ = some (.slice C1 (List.length (l[jj]).2) Cb)) := fun V hV => ⟨(bM.below hV bM.lt).cell 0, (bQ.below hV bQ.lt).cell 0, (bT.below hV bT.lt).cell 0, (bT.below hV bT.lt).cell 1, (bZ.below hV bZ.lt).cell 0, (bZ.below hV bZ.lt).cell 1, (hV.cell (p := ⟨eb, _, none⟩) zz1).trans e0, (hV.cell (p := ⟨eb, _, none⟩) zz1).trans e1⟩
     clear e0 e1
     refine wp_region_noPanic ?_
     refine wp_region_held_drew (S := (fun V => V.cell? ⟨w2.heap.size, 0, none⟩ = some (.slice M0 (List.length m) Ma) ∧ V.cell? ⟨w2.heap.size + 1, 0, none⟩ = some (.slice Q0 (List.length q) Qa) ∧ V.cell? ⟨w6.heap.size, 0, none⟩ = some (.slice T0 (List.length t.1) Ta) ∧ V.cell? ⟨w6.heap.size, 1, none⟩ = some (.slice T1 (List.length t.2) Tb) ∧ V.cell? ⟨q2.heap.size, 0, none⟩ = some (.slice Z0 (List.length z.1) Za) ∧ V.cell? ⟨q2.heap.size, 1, none⟩ = some (.slice Z1 (List.length z.2) Zb) ∧ V.cell? ⟨eb, eo + jj * 2, none⟩ = some (.slice C0 (List.length (l[jj]).1) Ca) ∧ V.cell? ⟨eb, eo + jj * 2 + 1, none⟩ = some (.slice C1 (List.length (l[jj]).2) Cb))) b_17 ?_ (fun hHeld => ?_)
     ·exact HC2.out _ b_0
     refine tk 0 (opN rfl) b_17 b_24 b_9 b_19 ?_
     try simp only [layz]
     refine tk 1 (opN rfl) b_17 b_24 b_9 b_19 ?_
     try simp only [layz]
     refine tk 2 (opN rfl) b_17 b_24 b_9 b_19 ?_
     try simp only [layz]
     refine tk 4 (opN rfl) b_17 b_24 b_9 b_19 ?_
     try simp only [layz]
     refine tk 5 (opN rfl) b_17 b_24 b_9 b_19 ?_
     try simp only [layz]
     refine wpAnyH_ready (rs := [3]) b_17 b_23 ?_
     refine (AllReadyH.cons (opN rfl) (fun K hK => ?_) AllReadyH.nil)
     go_simp
     go_at_call 15
     refine Calls.mono (C_impl_Allowed _ _ l _ m _ q (Ty.rd_below b_0 rl) (Ty.rd_below b_0 rm) (Ty.rd_below b_0 rq) sbl sbm sbq) ?_
     rw [hal.out]
     rintro e u3 ⟨rfl, hu3⟩
     refine hK.out _ _ (HC2.out _ b_0) (fun hHeld => ?_)
     clear hK K
     try simp only [layz]
     refine tk 6 (opN rfl) b_17 b_24 b_9 b_19 ?_
     try simp only [layz]
     refine tk 7 (opN rfl) b_17 b_24 b_9 b_19 ?_
     try simp only [layz]
     refine tk 8 (opN rfl) b_17 b_24 b_9 b_19 ?_
     try simp only [layz]
     refine tk 9 (opN rfl) b_17 b_24 b_9 b_19 ?_
     try simp only [layz]
     refine tk 10 (opN rfl) b_17 b_24 b_9 b_19 ?_
     try simp only [layz]
     refine tk 11 (opN rfl) b_17 b_24 b_9 b_19 ?_
     try simp only [layz]
     refine tk 12 (opN rfl) b_17 b_24 b_9 b_19 ?_
     try simp only [layz]
     refine tk 15 (opN rfl) b_17 b_24 b_9 b_19 ?_
     try simp only [layz]
     refine tk 16 (opN rfl) b_17 b_24 b_9 b_19 ?_
     try simp only [layz]
     refine tk 13 (opN rfl) b_17 b_24 b_9 b_19 ?_
     try simp only [layz]
     refine tk 14 (opN rfl) b_17 b_24 b_9 b_19 ?_
     try simp only [layz]
     refine wpAnyH_ready (rs := [17]) b_17 b_23 ?_
     refine (AllReadyH.cons (opN rfl) (fun K hK => ?_) AllReadyH.nil)
     go_simp
     go_at_call 13
     refine Calls.mono (C_impl_RuleAllows _ _ (l[jj]) _ m _ q (Ty.rd_below b_0 rj) (Ty.rd_below b_0 rm) (Ty.rd_below b_0 rq) sbj sbm sbq) ?_
     rw [hja.out]
     rintro e u17 ⟨rfl, hu17⟩
     refine hK.out _ _ (HC2.out _ b_0) (fun hHeld => ?_)
     clear hK K
     try simp only [layz]
     refine tk 18 (opN rfl) b_17 b_24 b_9 b_19 ?_
     try simp only [layz]
     refine tk 19 (opN rfl) b_17 b_24 b_9 b_19 ?_
     try simp only [layz]
     refine tk 20 (opN rfl) b_17 b_24 b_9 b_19 ?_
     try simp only [layz]
     refine tk 21 (opN rfl) b_17 b_24 b_9 b_19 ?_
     try simp only [layz]
     refine wpAnyH_ready (rs := [22]) b_17 b_23 ?_
     refine (AllReadyH.cons (opN rfl) (fun K hK => ?_) AllReadyH.nil)
     go_simp
     go_at_call 24
     refine Calls.mono (C_impl_ValidRule _ _ t (Ty.rd_below b_0 rt) sbt) ?_
     rw [hvt.out]
     rintro e u22 ⟨rfl, hu22⟩
     refine hK.out _ _ (HC2.out _ b_0) (fun hHeld => ?_)
     clear hK K
     try simp only [layz]
     refine tk 23 (opN rfl) b_17 b_24 b_9 b_19 ?_
     try simp only [layz]
     refine tk 24 (opN rfl) b_17 b_24 b_9 b_19 ?_
     try simp only [layz]
     refine sk 25 (opN rfl) b_17 b_24 b_19 ?_
     try simp only [layz]
     refine sk 26 (opN rfl) b_17 b_24 b_19 ?_
     try simp only [layz]
     refine sk 27 (opN rfl) b_17 b_24 b_19 ?_
     try simp only [layz]
     refine sk 28 (opN rfl) b_17 b_24 b_19 ?_
     try simp only [layz]
     refine sk 29 (opN rfl) b_17 b_24 b_19 ?_
     try simp only [layz]
     refine sk 30 (opN rfl) b_17 b_24 b_19 ?_
     try simp only [layz]
     refine tk 31 (opN rfl) b_17 b_24 b_9 b_19 ?_
     try simp only [layz]
     refine tk 32 (opN rfl) b_17 b_24 b_9 b_19 ?_
     try simp only [layz]
     refine tk 33 (opN rfl) b_17 b_24 b_9 b_19 ?_
     try simp only [layz]
     refine wpAnyH_done b_17 ?_ _
     refine NoPanic.normal ?_
     have hT : Below Q2.heap.size Q2 u22 := b_0
     go_wp2
     go_ret
     exact ⟨rfl, bel_trans hW hT⟩
   | true =>
    refine Calls.mono (S_impl_ParseRule _ (f_FormatRule t) (by have := hft.out; omega) (maxI_bel hm (bel_trans hW b_0))) ?_
    have hE0 : f0_ParseRule (f_FormatRule t) = t := f0_back hv
    rw [f1_back hv]
    generalize f0_ParseRule (f_FormatRule t) = z at hE0 ⊢
    have hE := Lib.hid (show (decide (z.1 = t.1) && decide (z.2 = t.2)) = true by rw [hE0]; exact eqRule_self t)
    clear hE0
    have hvt := Lib.hid hv
    clear hv
    rintro e q2 ⟨cq2, fq2, rfl, how, -, hb⟩
    have rz := Ty.ow_rd how
    obtain ⟨Z0, Za, Z1, Zb, rfl, -, -⟩ := rd_Rule rz
    clear how
    replace rl := Ty.rd_below hb rl
    replace rm := Ty.rd_below hb rm
    replace rq := Ty.rd_below hb rq
    replace rx := Ty.rd_below hb rx
    replace rt := Ty.rd_below hb rt
    replace bM := Blk.below bM hb (Blk.lt bM)
    replace bQ := Blk.below bQ hb (Blk.lt bQ)
    replace bX := Blk.below bX hb (Blk.lt bX)
    replace bT := Blk.below bT hb (Blk.lt bT)
    replace hW := bel_trans hW hb
    clear hb
    go_upto_region 16 with fail
    obtain ⟨Q2, hQ2⟩ : ∃ V, V = (q2.alloc (.cells #[.slice Z0 (List.length z.1) Za, .slice Z1 (List.length z.2) Zb] 28)) := ⟨_, rfl⟩
    have bQ2 : Below q2.heap.size q2 Q2 := by rw [hQ2]; exact b_0
    have bZ : Blk Q2 (q2.heap.size) 28 #[.slice Z0 (List.length z.1) Za, .slice Z1 (List.length z.2) Zb] := by rw [hQ2]; have := Blk.new q2 28 #[.slice Z0 (List.length z.1) Za, .slice Z1 (List.length z.2) Zb]; (try simp only [World.size_alloc] at this); exact this
    have zbZ := bZ.lt
    rw [← hQ2]
    clear hQ2
    replace rl := Ty.rd_below bQ2 rl
    replace rm := Ty.rd_below bQ2 rm
    replace rq := Ty.rd_below bQ2 rq
    replace rx := Ty.rd_below bQ2 rx
    replace rt := Ty.rd_below bQ2 rt
    replace bM := Blk.below bM bQ2 (Blk.lt bM)
    replace bQ := Blk.below bQ bQ2 (Blk.lt bQ)
    replace bX := Blk.below bX bQ2 (Blk.lt bX)
    replace bT := Blk.below bT bQ2 (Blk.lt bT)
    replace rz := Ty.rd_below bQ2 rz
    replace hW := bel_trans hW bQ2
    clear bQ2
    rcases HF.out with hk0 | ⟨jj, hjl, hk0, hja0⟩
    ·subst hk0
     have hal : Hid (f_Allowed l m q = false) := Lib.hid (HAL.out.trans b_21)
     clear HF HAL
     have HC2 : Hid (∀ V, Below Q2.heap.size Q2 V → V.cell? ⟨w2.heap.size, 0, none⟩ = some (.slice M0 (List.length m) Ma) ∧ V.cell? ⟨w2.heap.size + 1, 0, none⟩ = some (.slice Q0 (List.length q) Qa) ∧ V.cell? ⟨w6.heap.size, 0, none⟩ = some (.slice T0 (List.length t.1) Ta) ∧ V.cell? ⟨w6.heap.size, 1, none⟩ = some (.slice T1 (List.length t.2) Tb) ∧ V.cell? ⟨q2.heap.size, 0, none⟩ = some (.slice Z0 (List.length z.1) Za) ∧ V.cell? ⟨q2.heap.size, 1, none⟩ = some (.slice Z1 (List.length z.2) Zb)) := fun V hV => ⟨(bM.below hV bM.lt).cell 0, (bQ.below hV bQ.lt).cell 0, (bT.below hV bT.lt).cell 0, (bT.below hV bT.lt).cell 1, (bZ.below hV bZ.lt).cell 0, (bZ.below hV bZ.lt).cell 1⟩
     refine wp_region_noPanic ?_
     refine wp_region_held_drew (S := (fun V => V.cell? ⟨w2.heap.size, 0, none⟩ = some (.slice M0 (List.length m) Ma) ∧ V.cell? ⟨w2.heap.size + 1, 0, none⟩ = some (.slice Q0 (List.length q) Qa) ∧ V.cell? ⟨w6.heap.size, 0, none⟩ = some (.slice T0 (List.length t.1) Ta) ∧ V.cell? ⟨w6.heap.size, 1, none⟩ = some (.slice T1 (List.length t.2) Tb) ∧ V.cell? ⟨q2.heap.size, 0, none⟩ = some (.slice Z0 (List.length z.1) Za) ∧ V.cell? ⟨q2.heap.size, 1, none⟩ = some (.slice Z1 (List.length z.2) Zb))) b_17 ?_ (fun hHeld => ?_)
     ·exact HC2.out _ b_0
     refine tk 0 (opN rfl) b_17 b_24 b_9 b_19 ?_
     try simp only [layz]
     refine tk 1 (opN rfl) b_17 b_24 b_9 b_19 ?_
     try simp only [layz]
     refine tk 2 (opN rfl) b_17 b_24 b_9 b_19 ?_
     try simp only [layz]
     refine tk 4 (opN rfl) b_17 b_24 b_9 b_19 ?_
     try simp only [layz]
     refine tk 5 (opN rfl) b_17 b_24 b_9 b_19 ?_
     try simp only [layz]
     refine wpAnyH_ready (rs := [3]) b_17 b_23 ?_
     refine (AllReadyH.cons (opN rfl) (fun K hK => ?_) AllReadyH.nil)
     go_simp
     go_at_call 15
     refine Calls.mono (C_impl_Allowed _ _ l _ m _ q (Ty.rd_below b_0 rl) (Ty.rd_below b_0 rm) (Ty.rd_below b_0 rq) sbl sbm sbq) ?_
     rw [hal.out]
     rintro e u3 ⟨rfl, hu3⟩
     refine hK.out _ _ (HC2.out _ b_0) (fun hHeld => ?_)
     clear hK K
     try simp only [layz]
     refine tk 6 (opN rfl) b_17 b_24 b_9 b_19 ?_
     try simp only [layz]
     refine tk 7 (opN rfl) b_17 b_24 b_9 b_19 ?_
     try simp only [layz]
     refine tk 8 (opN rfl) b_17 b_24 b_9 b_19 ?_
     try simp only [layz]
     refine tk 9 (opN rfl) b_17 b_24 b_9 b_19 ?_
     try simp only [layz]
     refine tk 10 (opN rfl) b_17 b_24 b_9 b_19 ?_
     try simp only [layz]
     refine sk 11 (opN rfl) b_17 b_24 b_19 ?_
     try simp only [layz]
     refine sk 12 (opN rfl) b_17 b_24 b_19 ?_
     try simp only [layz]
     refine sk 15 (opN rfl) b_17 b_24 b_19 ?_
     try simp only [layz]
     refine sk 16 (opN rfl) b_17 b_24 b_19 ?_
     try simp only [layz]
     refine sk 13 (opN rfl) b_17 b_24 b_19 ?_
     try simp only [layz]
     refine sk 14 (opN rfl) b_17 b_24 b_19 ?_
     try simp only [layz]
     refine sk 17 (opN rfl) b_17 b_24 b_19 ?_
     try simp only [layz]
     refine tk 18 (opN rfl) b_17 b_24 b_9 b_19 ?_
     try simp only [layz]
     refine tk 19 (opN rfl) b_17 b_24 b_9 b_19 ?_
     try simp only [layz]
     refine tk 20 (opN rfl) b_17 b_24 b_9 b_19 ?_
     try simp only [layz]
     refine tk 21 (opN rfl) b_17 b_24 b_9 b_19 ?_
     try simp only [layz]
     refine wpAnyH_ready (rs := [22]) b_17 b_23 ?_
     refine (AllReadyH.cons (opN rfl) (fun K hK => ?_) AllReadyH.nil)
     go_simp
     go_at_call 24
     refine Calls.mono (C_impl_ValidRule _ _ t (Ty.rd_below b_0 rt) sbt) ?_
     rw [hvt.out]
     rintro e u22 ⟨rfl, hu22⟩
     refine hK.out _ _ (HC2.out _ b_0) (fun hHeld => ?_)
     clear hK K
     try simp only [layz]
     refine tk 23 (opN rfl) b_17 b_24 b_9 b_19 ?_
     try simp only [layz]
     refine tk 24 (opN rfl) b_17 b_24 b_9 b_19 ?_
     try simp only [layz]
     refine tk 25 (opN rfl) b_17 b_24 b_9 b_19 ?_
     try simp only [layz]
     refine tk 26 (opN rfl) b_17 b_24 b_9 b_19 ?_
     try simp only [layz]
     refine tk 27 (opN rfl) b_17 b_24 b_9 b_19 ?_
     try simp only [layz]
     refine tk 28 (opN rfl) b_17 b_24 b_9 b_19 ?_
     try simp only [layz]
     refine wpAnyH_ready (rs := [29]) b_17 b_23 ?_
     refine (AllReadyH.cons (opN rfl) (fun K hK => ?_) AllReadyH.nil)
     go_simp
     go_at_call 20
     refine Calls.mono (C_impl_EqualRules _ _ _ z t (Ty.rd_below b_0 rz) (Ty.rd_below b_0 rt)) ?_
     rw [hE.out]
     rintro e u29 ⟨rfl, hu29⟩
     refine hK.out _ _ (HC2.out _ b_0) (fun hHeld => ?_)
     clear hK K
     try simp only [layz]
     refine tk 30 (opN rfl) b_17 b_24 b_9 b_19 ?_
     try simp only [layz]
     refine tk 31 (opN rfl) b_17 b_24 b_9 b_19 ?_
     try simp only [layz]
     refine tk 32 (opN rfl) b_17 b_24 b_9 b_19 ?_
     try simp only [layz]
     refine tk 33 (opN rfl) b_17 b_24 b_9 b_19 ?_
     try simp only [layz]
     refine wpAnyH_done b_17 ?_ _
     refine NoPanic.normal ?_
     have hT : Below Q2.heap.size Q2 u29 := b_0
     go_wp2
     go_ret
     exact ⟨rfl, bel_trans hW hT⟩
    ·subst hk0
     have hal : Hid (f_Allowed l m q = true) := Lib.hid (HAL.out.trans (decide_eq_true b_22))
     have hja := Lib.hid hja0
     clear HF HAL hja0
     obtain ⟨eb, eo, ds, rfl, hle, hcell, hrd⟩ := Ty.rd_at rl (k := jj) hjl
     have rj := hrd
     obtain ⟨C0, Ca, C1, Cb, rfl, -, -⟩ := rd_Rule hrd
     have e0 : Q2.cell? ⟨eb, eo + jj * 2, none⟩ = some (.slice C0 (List.length (l[jj]).1) Ca) := by simpa [Ty.sz] using hcell 0 b_21
     have e1 : Q2.cell? ⟨eb, eo + jj * 2 + 1, none⟩ = some (.slice C1 (List.length (l[jj]).2) Cb) := by simpa [Ty.sz] using hcell 1 b_21
     clear hcell hle hrd
     have zz1 : eb < Q2.heap.size := World.block_lt_of_cell? _ _ e0
     have sbj : Ty.bulk tRule l[jj] ≤ 1048576 := Ty.bulk_at sbl hjl
     have hw64 : IntKind.i64.wrap (jj : Int) = (jj : Int) := IntWalk.i64_in _ b_22
     have hj0 : (0 : Int) ≤ (jj : Int) := by omega
     have hj1 : (jj : Int) < (List.length l : Int) := by omega
     have HC2 : Hid (∀ V, Below Q2.heap.size Q2 V → V.cell? ⟨w2.heap.size, 0, none⟩ = some (.slice M0 (List.length m) Ma) ∧ V.cell? ⟨w2.heap.size + 1, 0, none⟩ = some (.slice Q0 (List.length q) Qa) ∧ V.cell? ⟨w6.heap.size, 0, none⟩ = some (.slice T0 (List.length t.1) Ta) ∧ V.cell? ⟨w6.heap.size, 1, none⟩ = some (.slice T1 (List.length t.2) Tb) ∧ V.cell? ⟨q2.heap.size, 0, none⟩ = some (.slice Z0 (List.length z.1) Za) ∧ V.cell? ⟨q2.heap.size, 1, none⟩ = some (.slice Z1 (List.length z.2) Zb) ∧ V.cell? ⟨eb, eo + jj * 2, none⟩ = some (.slice C0 (List.length (l[jj]).1) Ca) ∧ V.cell? ⟨eb, eo + jj * 2 + 1, none⟩ = some (.slice C1 (List.length (l[jj]).2) Cb)) := fun V hV => ⟨(bM.below hV bM.lt).cell 0, (bQ.below hV bQ.lt).cell 0, (bT.below hV bT.lt).cell 0, (bT.below hV bT.lt).cell 1, (bZ.below hV bZ.lt).cell 0, (bZ.below hV bZ.lt).cell 1, (hV.cell (p := ⟨eb, _, none⟩) zz1).trans e0, (hV.cell (p := ⟨eb, _, none⟩) zz1).trans e1⟩
     clear e0 e1
     refine wp_region_noPanic ?_
     refine wp_region_held_drew (S := (fun V => V.cell? ⟨w2.heap.size, 0, none⟩ = some (.slice M0 (List.length m) Ma) ∧ V.cell? ⟨w2.heap.size + 1, 0, none⟩ = some (.slice Q0 (List.length q) Qa) ∧ V.cell? ⟨w6.heap.size, 0, none⟩ = some (.slice T0 (List.length t.1) Ta) ∧ V.cell? ⟨w6.heap.size, 1, none⟩ = some (.slice T1 (List.length t.2) Tb) ∧ V.cell? ⟨q2.heap.size, 0, none⟩ = some (.slice Z0 (List.length z.1) Za) ∧ V.cell? ⟨q2.heap.size, 1, none⟩ = some (.slice Z1 (List.length z.2) Zb) ∧ V.cell? ⟨eb, eo + jj * 2, none⟩ = some (.slice C0 (List.length (l[jj]).1) Ca) ∧ V.cell? ⟨eb, eo + jj * 2 + 1, none⟩ = some (.slice C1 (List.length (l[jj]).2) Cb))) b_17 ?_ (fun hHeld => ?_)
     ·exact HC2.out _ b_0
     refine tk 0 (opN rfl) b_17 b_24 b_9 b_19 ?_
     try simp only [layz]
     refine tk 1 (opN rfl) b_17 b_24 b_9 b_19 ?_
     try simp only [layz]
     refine tk 2 (opN rfl) b_17 b_24 b_9 b_19 ?_
     try simp only [layz]
     refine tk 4 (opN rfl) b_17 b_24 b_9 b_19 ?_
     try simp only [layz]
     refine tk 5 (opN rfl) b_17 b_24 b_9 b_19 ?_
     try simp only [layz]
     refine wpAnyH_ready (rs := [3]) b_17 b_23 ?_
     refine (AllReadyH.cons (opN rfl) (fun K hK => ?_) AllReadyH.nil)
     go_simp
     go_at_call 15
     refine Calls.mono (C_impl_Allowed _ _ l _ m _ q (Ty.rd_below b_0 rl) (Ty.rd_below b_0 rm) (Ty.rd_below b_0 rq) sbl sbm sbq) ?_
     rw [hal.out]
     rintro e u3 ⟨rfl, hu3⟩
     refine hK.out _ _ (HC2.out _ b_0) (fun hHeld => ?_)
     clear hK K
     try simp only [layz]
     refine tk 6 (opN rfl) b_17 b_24 b_9 b_19 ?_
     try simp only [layz]
     refine tk 7 (opN rfl) b_17 b_24 b_9 b_19 ?_
     try simp only [layz]
     refine tk 8 (opN rfl) b_17 b_24 b_9 b_19 ?_
     try simp only [layz]
     refine tk 9 (opN rfl) b_17 b_24 b_9 b_19 ?_
     try simp only [layz]
     refine tk 10 (opN rfl) b_17 b_24 b_9 b_19 ?_
     try simp only [layz]
     refine tk 11 (opN rfl) b_17 b_24 b_9 b_19 ?_
     try simp only [layz]
     refine tk 12 (opN rfl) b_17 b_24 b_9 b_19 ?_
     try simp only [layz]
     refine tk 15 (opN rfl) b_17 b_24 b_9 b_19 ?_
     try simp only [layz]
     refine tk 16 (opN rfl) b_17 b_24 b_9 b_19 ?_
     try simp only [layz]
     refine tk 13 (opN rfl) b_17 b_24 b_9 b_19 ?_
     try simp only [layz]
     refine tk 14 (opN rfl) b_17 b_24 b_9 b_19 ?_
     try simp only [layz]
     refine wpAnyH_ready (rs := [17]) b_17 b_23 ?_
     refine (AllReadyH.cons (opN rfl) (fun K hK => ?_) AllReadyH.nil)
     go_simp
     go_at_call 13
     refine Calls.mono (C_impl_RuleAllows _ _ (l[jj]) _ m _ q (Ty.rd_below b_0 rj) (Ty.rd_below b_0 rm) (Ty.rd_below b_0 rq) sbj sbm sbq) ?_
     rw [hja.out]
     rintro e u17 ⟨rfl, hu17⟩
     refine hK.out _ _ (HC2.out _ b_0) (fun hHeld => ?_)
     clear hK K
     try simp only [layz]
     refine tk 18 (opN rfl) b_17 b_24 b_9 b_19 ?_
     try simp only [layz]
     refine tk 19 (opN rfl) b_17 b_24 b_9 b_19 ?_
     try simp only [layz]
     refine tk 20 (opN rfl) b_17 b_24 b_9 b_19 ?_
     try simp only [layz]
     refine tk 21 (opN rfl) b_17 b_24 b_9 b_19 ?_
     try simp only [layz]
     refine wpAnyH_ready (rs := [22]) b_17 b_23 ?_
     refine (AllReadyH.cons (opN rfl) (fun K hK => ?_) AllReadyH.nil)
     go_simp
     go_at_call 24
     refine Calls.mono (C_impl_ValidRule _ _ t (Ty.rd_below b_0 rt) sbt) ?_
     rw [hvt.out]
     rintro e u22 ⟨rfl, hu22⟩
     refine hK.out _ _ (HC2.out _ b_0) (fun hHeld => ?_)
     clear hK K
     try simp only [layz]
     refine tk 23 (opN rfl) b_17 b_24 b_9 b_19 ?_
     try simp only [layz]
     refine tk 24 (opN rfl) b_17 b_24 b_9 b_19 ?_
     try simp only [layz]
     refine tk 25 (opN rfl) b_17 b_24 b_9 b_19 ?_
     try simp only [layz]
     refine tk 26 (opN rfl) b_17 b_24 b_9 b_19 ?_
     try simp only [layz]
     refine tk 27 (opN rfl) b_17 b_24 b_9 b_19 ?_
     try simp only [layz]
     refine tk 28 (opN rfl) b_17 b_24 b_9 b_19 ?_
     try simp only [layz]
     refine wpAnyH_ready (rs := [29]) b_17 b_23 ?_
     refine (AllReadyH.cons (opN rfl) (fun K hK => ?_) AllReadyH.nil)
     go_simp
     go_at_call 20
     refine Calls.mono (C_impl_EqualRules _ _ _ z t (Ty.rd_below b_0 rz) (Ty.rd_below b_0 rt)) ?_
     rw [hE.out]
     rintro e u29 ⟨rfl, hu29⟩
     refine hK.out _ _ (HC2.out _ b_0) (fun hHeld => ?_)
     clear hK K
     try simp only [layz]
     refine tk 30 (opN rfl) b_17 b_24 b_9 b_19 ?_
     try simp only [layz]
     refine tk 31 (opN rfl) b_17 b_24 b_9 b_19 ?_
     try simp only [layz]
     refine tk 32 (opN rfl) b_17 b_24 b_9 b_19 ?_
     try simp only [layz]
     refine tk 33 (opN rfl) b_17 b_24 b_9 b_19 ?_
     try simp only [layz]
     refine wpAnyH_done b_17 ?_ _
     refine NoPanic.normal ?_
     have hT : Below Q2.heap.size Q2 u29 := b_0
     go_wp2
     go_ret
     exact ⟨rfl, bel_trans hW hT⟩
  case' true =>
   obtain ⟨hf0, hv0⟩ := HP.out (by first | rfl | trivial)
   replace hf0 := Lib.hid hf0
   replace hv0 := Lib.hid hv0
   clear HP
   have kbX0 : VY.cell? ⟨w4.heap.size, 0, none⟩ = some (.slice X0 (List.length x.1) Xa) := bX.cell 0
   have kbX1 : VY.cell? ⟨w4.heap.size, 1, none⟩ = some (.slice X1 (List.length x.2) Xb) := bX.cell 1
   have zkbX := bX.lt
   go_wp2_with fail
   clear kbX0 kbX1 zkbX
   refine Calls.mono (C_impl_FormatRule _ _ x rx sbx) ?_
   rw [hf0.out]
   rintro e y1 ⟨rfl, hb⟩
   replace rl := Ty.rd_below hb rl
   replace rm := Ty.rd_below hb rm
   replace rq := Ty.rd_below hb rq
   replace rx := Ty.rd_below hb rx
   replace rt := Ty.rd_below hb rt
   replace bM := Blk.below bM hb (Blk.lt bM)
   replace bQ := Blk.below bQ hb (Blk.lt bQ)
   replace bX := Blk.below bX hb (Blk.lt bX)
   replace bT := Blk.below bT hb (Blk.lt bT)
   replace hW := bel_trans hW hb
   clear hb
   have kbX0 : y1.cell? ⟨w4.heap.size, 0, none⟩ = some (.slice X0 (List.length x.1) Xa) := bX.cell 0
   have kbX1 : y1.cell? ⟨w4.heap.size, 1, none⟩ = some (.slice X1 (List.length x.2) Xb) := bX.cell 1
   have zkbX := bX.lt
   go_wp2_with fail
   clear kbX0 kbX1 zkbX
   refine Calls.mono (C_impl_ValidRule _ _ x rx sbx) ?_
   rw [hv0.out]
   rintro e y2 ⟨rfl, hb⟩
   replace rl := Ty.rd_below hb rl
   replace rm := Ty.rd_below hb rm
   replace rq := Ty.rd_below hb rq
   replace rx := Ty.rd_below hb rx
   replace rt := Ty.rd_below hb rt
   replace bM := Blk.below bM hb (Blk.lt bM)
   replace bQ := Blk.below bQ hb (Blk.lt bQ)
   replace bX := Blk.below bX hb (Blk.lt bX)
   replace bT := Blk.below bT hb (Blk.lt bT)
   replace hW := bel_trans hW hb
   clear hb
   have kbT0 : y2.cell? ⟨w6.heap.size, 0, none⟩ = some (.slice T0 (List.length t.1) Ta) := bT.cell 0
   have kbT1 : y2.cell? ⟨w6.heap.size, 1, none⟩ = some (.slice T1 (List.length t.2) Tb) := bT.cell 1
   have zkbT := bT.lt
   go_wp2_with fail
   clear kbT0 kbT1 zkbT
   refine Calls.mono (C_impl_FormatRule _ _ t rt sbt) ?_
   rintro e q1 ⟨rfl, hb⟩
   replace rl := Ty.rd_below hb rl
   replace rm := Ty.rd_below hb rm
   replace rq := Ty.rd_below hb rq
   replace rx := Ty.rd_below hb rx
   replace rt := Ty.rd_below hb rt
   replace bM := Blk.below bM hb (Blk.lt bM)
   replace bQ := Blk.below bQ hb (Blk.lt bQ)
   replace bX := Blk.below bX hb (Blk.lt bX)
   replace bT := Blk.below bT hb (Blk.lt bT)
   replace hW := bel_trans hW hb
   clear hb
   go_wp2_with fail
   cases hv : validRule t with
   | false =>
    refine Calls.mono (S_impl_ParseRule _ (f_FormatRule t) (by have := hft.out; omega) (maxI_bel hm (bel_trans hW b_0))) ?_
    generalize f0_ParseRule (f_FormatRule t) = z
    generalize f1_ParseRule (f_FormatRule t) = back
    have hvt := Lib.hid hv
    clear hv
    rintro e q2 ⟨cq2, fq2, rfl, how, -, hb⟩
    have rz := Ty.ow_rd how
    obtain ⟨Z0, Za, Z1, Zb, rfl, -, -⟩ := rd_Rule rz
    clear how
    replace rl := Ty.rd_below hb rl
    replace rm := Ty.rd_below hb rm
    replace rq := Ty.rd_below hb rq
    replace rx := Ty.rd_below hb rx
    replace rt := Ty.rd_below hb rt
    replace bM := Blk.below bM hb (Blk.lt bM)
    replace bQ := Blk.below bQ hb (Blk.lt bQ)
    replace bX := Blk.below bX hb (Blk.lt bX)
    replace bT := Blk.below bT hb (Blk.lt bT)
    replace hW := bel_trans hW hb
    clear hb
    go_upto_region 16 with fail
    obtain ⟨Q2, hQ2⟩ : ∃ V, V = (q2.alloc (.cells #[.slice Z0 (List.length z.1) Za, .slice Z1 (List.length z.2) Zb] 28)) := ⟨_, rfl⟩
    have bQ2 : Below q2.heap.size q2 Q2 := by rw [hQ2]; exact b_0
    have bZ : Blk Q2 (q2.heap.size) 28 #[.slice Z0 (List.length z.1) Za, .slice Z1 (List.length z.2) Zb] := by rw [hQ2]; have := Blk.new q2 28 #[.slice Z0 (List.length z.1) Za, .slice Z1 (List.length z.2) Zb]; (try simp only [World.size_alloc] at this); exact this
    have zbZ := bZ.lt
    rw [← hQ2]
    clear hQ2
    replace rl := Ty.rd_below bQ2 rl
    replace rm := Ty.rd_below bQ2 rm
    replace rq := Ty.rd_below bQ2 rq
    replace rx := Ty.rd_below bQ2 rx
    replace rt := Ty.rd_below bQ2 rt
    replace bM := Blk.below bM bQ2 (Blk.lt bM)
    replace bQ := Blk.below bQ bQ2 (Blk.lt bQ)
    replace bX := Blk.below bX bQ2 (Blk.lt bX)
    replace bT := Blk.below bT bQ2 (Blk.lt bT)
    replace rz := Ty.rd_below bQ2 rz
    replace hW := bel_trans hW bQ2
    clear bQ2
    rcases HF.out with hk0 | ⟨jj, hjl, hk0, hja0⟩
    ·subst hk0
     have hal : Hid (f_Allowed l m q = false) := Lib.hid (HAL.out.trans b_21)
     clear HF HAL
     have HC2 : Hid (∀ V, Below Q2.heap.size Q2 V → V.cell? ⟨w2.heap.size, 0, none⟩ = some (.slice M0 (List.length m) Ma) ∧ V.cell? ⟨w2.heap.size + 1, 0, none⟩ = some (.slice Q0 (List.length q) Qa) ∧ V.cell? ⟨w6.heap.size, 0, none⟩ = some (.slice T0 (List.length t.1) Ta) ∧ V.cell? ⟨w6.heap.size, 1, none⟩ = some (.slice T1 (List.length t.2) Tb) ∧ V.cell? ⟨q2.heap.size, 0, none⟩ = some (.slice Z0 (List.length z.1) Za) ∧ V.cell? ⟨q2.heap.size, 1, none⟩ = some (.slice Z1 (List.length z.2) Zb)) := fun V hV => ⟨(bM.below hV bM.lt).cell 0, (bQ.below hV bQ.lt).cell 0, (bT.below hV bT.lt).cell 0, (bT.below hV bT.lt).cell 1, (bZ.below hV bZ.lt).cell 0, (bZ.below hV bZ.lt).cell 1⟩
     refine wp_region_noPanic ?_
     refine wp_region_held_drew (S := (fun V => V.cell? ⟨w2.heap.size, 0, none⟩ = some (.slice M0 (List.length m) Ma) ∧ V.cell? ⟨w2.heap.size + 1, 0, none⟩ = some (.slice Q0 (List.length q) Qa) ∧ V.cell? ⟨w6.heap.size, 0, none⟩ = some (.slice T0 (List.length t.1) Ta) ∧ V.cell? ⟨w6.heap.size, 1, none⟩ = some (.slice T1 (List.length t.2) Tb) ∧ V.cell? ⟨q2.heap.size, 0, none⟩ = some (.slice Z0 (List.length z.1) Za) ∧ V.cell? ⟨q2.heap.size, 1, none⟩ = some (.slice Z1 (List.length z.2) Zb))) b_17 ?_ (fun hHeld => ?_)
     ·exact HC2.out _ b_0
     refine tk 0 (opN rfl) b_17 b_24 b_9 b_19 ?_
     try simp only [layz]
     refine tk 1 (opN rfl) b_17 b_24 b_9 b_19 ?_
     try simp only [layz]
     refine tk 2 (opN rfl) b_17 b_24 b_9 b_19 ?_
     try simp only [layz]
     refine tk 4 (opN rfl) b_17 b_24 b_9 b_19 ?_
     try simp only [layz]
     refine tk 5 (opN rfl) b_17 b_24 b_9 b_19 ?_
     try simp only [layz]
     refine wpAnyH_ready (rs := [3]) b_17 b_23 ?_
     refine (AllReadyH.cons (opN rfl) (fun K hK => ?_) AllReadyH.nil)
     go_simp
     go_at_call 15
     refine Calls.mono (C_impl_Allowed _ _ l _ m _ q (Ty.rd_below b_0 rl) (Ty.rd_below b_0 rm) (Ty.rd_below b_0 rq) sbl sbm sbq) ?_
     rw [hal.out]
     rintro e u3 ⟨rfl, hu3⟩
     refine hK.out _ _ (HC2.out _ b_0) (fun hHeld => ?_)
     clear hK K
     try simp only [layz]
     refine tk 6 (opN rfl) b_17 b_24 b_9 b_19 ?_
     try simp only [layz]
     refine tk 7 (opN rfl) b_17 b_24 b_9 b_19 ?_
     try simp only [layz]
     refine tk 8 (opN rfl) b_17 b_24 b_9 b_19 ?_
     try simp only [layz]
     refine tk 9 (opN rfl) b_17 b_24 b_9 b_19 ?_
     try simp only [layz]
     refine tk 10 (opN rfl) b_17 b_24 b_9 b_19 ?_
     try simp only [layz]
     refine sk 11 (opN rfl) b_17 b_24 b_19 ?_
     try simp only [layz]
     refine sk 12 (opN rfl) b_17 b_24 b_19 ?_
     try simp only [layz]
     refine sk 15 (opN rfl) b_17 b_24 b_19 ?_
     try simp only [layz]
     refine sk 16 (opN rfl) b_17 b_24 b_19 ?_
     try simp only [layz]
     refine sk 13 (opN rfl) b_17 b_24 b_19 ?_
     try simp only [layz]
     refine sk 14 (opN rfl) b_17 b_24 b_19 ?_
     try simp only [layz]
     refine sk 17 (opN rfl) b_17 b_24 b_19 ?_
     try simp only [layz]
     refine tk 18 (opN rfl) b_17 b_24 b_9 b_19 ?_
     try simp only [layz]
     refine tk 19 (opN rfl) b_17 b_24 b_9 b_19 ?_
     try simp only [layz]
     refine tk 20 (opN rfl) b_17 b_24 b_9 b_19 ?_
     try simp only [layz]
     refine tk 21 (opN rfl) b_17 b_24 b_9 b_19 ?_
     try simp only [layz]
     refine wpAnyH_ready (rs := [22]) b_17 b_23 ?_
     refine (AllReadyH.cons (opN rfl) (fun K hK => ?_) AllReadyH.nil)
     go_simp
     go_at_call 24
     refine Calls.mono (C_impl_ValidRule _ _ t (Ty.rd_below b_0 rt) sbt) ?_
     rw [hvt.out]
     rintro e u22 ⟨rfl, hu22⟩
     refine hK.out _ _ (HC2.out _ b_0) (fun hHeld => ?_)
     clear hK K
     try simp only [layz]
     refine tk 23 (opN rfl) b_17 b_24 b_9 b_19 ?_
     try simp only [layz]
     refine tk 24 (opN rfl) b_17 b_24 b_9 b_19 ?_
     try simp only [layz]
     refine sk 25 (opN rfl) b_17 b_24 b_19 ?_
     try simp only [layz]
     refine sk 26 (opN rfl) b_17 b_24 b_19 ?_
     try simp only [layz]
     refine sk 27 (opN rfl) b_17 b_24 b_19 ?_
     try simp only [layz]
     refine sk 28 (opN rfl) b_17 b_24 b_19 ?_
     try simp only [layz]
     refine sk 29 (opN rfl) b_17 b_24 b_19 ?_
     try simp only [layz]
     refine sk 30 (opN rfl) b_17 b_24 b_19 ?_
     try simp only [layz]
     refine tk 31 (opN rfl) b_17 b_24 b_9 b_19 ?_
     try simp only [layz]
     refine tk 32 (opN rfl) b_17 b_24 b_9 b_19 ?_
     try simp only [layz]
     refine tk 33 (opN rfl) b_17 b_24 b_9 b_19 ?_
     try simp only [layz]
     refine wpAnyH_done b_17 ?_ _
     refine NoPanic.normal ?_
     have hT : Below Q2.heap.size Q2 u22 := b_0
     go_wp2
     go_ret
     exact ⟨rfl, bel_trans hW hT⟩
    ·subst hk0
     have hal : Hid (f_Allowed l m q = true) := Lib.hid (HAL.out.trans (decide_eq_true b_22))
     have hja := Lib.hid hja0
     clear HF HAL hja0
     obtain ⟨eb, eo, ds, rfl, hle, hcell, hrd⟩ := Ty.rd_at rl (k := jj) hjl
     have rj := hrd
     obtain ⟨C0, Ca, C1, Cb, rfl, -, -⟩ := rd_Rule hrd
     have e0 : Q2.cell? ⟨eb, eo + jj * 2, none⟩ = some (.slice C0 (List.length (l[jj]).1) Ca) := by simpa [Ty.sz] using hcell 0 b_21
     have e1 : Q2.cell? ⟨eb, eo + jj * 2 + 1, none⟩ = some (.slice C1 (List.length (l[jj]).2) Cb) := by simpa [Ty.sz] using hcell 1 b_21
     clear hcell hle hrd
     have zz1 : eb < Q2.heap.size := World.block_lt_of_cell? _ _ e0
     have sbj : Ty.bulk tRule l[jj] ≤ 1048576 := Ty.bulk_at sbl hjl
     have hw64 : IntKind.i64.wrap (jj : Int) = (jj : Int) := IntWalk.i64_in _ b_22
     have hj0 : (0 : Int) ≤ (jj : Int) := by omega
     have hj1 : (jj : Int) < (List.length l : Int) := by omega
     have HC2 : Hid (∀ V, Below Q2.heap.size Q2 V → V.cell? ⟨w2.heap.size, 0, none⟩ = some (.slice M0 (List.length m) Ma) ∧ V.cell? ⟨w2.heap.size + 1, 0, none⟩ = some (.slice Q0 (List.length q) Qa) ∧ V.cell? ⟨w6.heap.size, 0, none⟩ = some (.slice T0 (List.length t.1) Ta) ∧ V.cell? ⟨w6.heap.size, 1, none⟩ = some (.slice T1 (List.length t.2) Tb) ∧ V.cell? ⟨q2.heap.size, 0, none⟩ = some (.slice Z0 (List.length z.1) Za) ∧ V.cell? ⟨q2.heap.size, 1, none⟩ = some (.slice Z1 (List.length z.2) Zb) ∧ V.cell? ⟨eb, eo + jj * 2, none⟩ = some (.slice C0 (List.length (l[jj]).1) Ca) ∧ V.cell? ⟨eb, eo + jj * 2 + 1, none⟩ = some (.slice C1 (List.length (l[jj]).2) Cb)) := fun V hV => ⟨(bM.below hV bM.lt).cell 0, (bQ.below hV bQ.lt).cell 0, (bT.below hV bT.lt).cell 0, (bT.below hV bT.lt).cell 1, (bZ.below hV bZ.lt).cell 0, (bZ.below hV bZ.lt).cell 1, (hV.cell (p := ⟨eb, _, none⟩) zz1).trans e0, (hV.cell (p := ⟨eb, _, none⟩) zz1).trans e1⟩
     clear e0 e1
     refine wp_region_noPanic ?_
     refine wp_region_held_drew (S := (fun V => V.cell? ⟨w2.heap.size, 0, none⟩ = some (.slice M0 (List.length m) Ma) ∧ V.cell? ⟨w2.heap.size + 1, 0, none⟩ = some (.slice Q0 (List.length q) Qa) ∧ V.cell? ⟨w6.heap.size, 0, none⟩ = some (.slice T0 (List.length t.1) Ta) ∧ V.cell? ⟨w6.heap.size, 1, none⟩ = some (.slice T1 (List.length t.2) Tb) ∧ V.cell? ⟨q2.heap.size, 0, none⟩ = some (.slice Z0 (List.length z.1) Za) ∧ V.cell? ⟨q2.heap.size, 1, none⟩ = some (.slice Z1 (List.length z.2) Zb) ∧ V.cell? ⟨eb, eo + jj * 2, none⟩ = some (.slice C0 (List.length (l[jj]).1) Ca) ∧ V.cell? ⟨eb, eo + jj * 2 + 1, none⟩ = some (.slice C1 (List.length (l[jj]).2) Cb))) b_17 ?_ (fun hHeld => ?_)
     ·exact HC2.out _ b_0
     refine tk 0 (opN rfl) b_17 b_24 b_9 b_19 ?_
     try simp only [layz]
     refine tk 1 (opN rfl) b_17 b_24 b_9 b_19 ?_
     try simp only [layz]
     refine tk 2 (opN rfl) b_17 b_24 b_9 b_19 ?_
     try simp only [layz]
     refine tk 4 (opN rfl) b_17 b_24 b_9 b_19 ?_
     try simp only [layz]
     refine tk 5 (opN rfl) b_17 b_24 b_9 b_19 ?_
     try simp only [layz]
     refine wpAnyH_ready (rs := [3]) b_17 b_23 ?_
     refine (AllReadyH.cons (opN rfl) (fun K hK => ?_) AllReadyH.nil)
     go_simp
     go_at_call 15
     refine Calls.mono (C_impl_Allowed _ _ l _ m _ q (Ty.rd_below b_0 rl) (Ty.rd_below b_0 rm) (Ty.rd_below b_0 rq) sbl sbm sbq) ?_
     rw [hal.out]
     rintro e u3 ⟨rfl, hu3⟩
     refine hK.out _ _ (HC2.out _ b_0) (fun hHeld => ?_)
     clear hK K
     try simp only [layz]
     refine tk 6 (opN rfl) b_17 b_24 b_9 b_19 ?_
     try simp only [layz]
     refine tk 7 (opN rfl) b_17 b_24 b_9 b_19 ?_
     try simp only [layz]
     refine tk 8 (opN rfl) b_17 b_24 b_9 b_19 ?_
     try simp only [layz]
     refine tk 9 (opN rfl) b_17 b_24 b_9 b_19 ?_
     try simp only [layz]
     refine tk 10 (opN rfl) b_17 b_24 b_9 b_19 ?_
     try simp only [layz]
     refine tk 11 (opN rfl) b_17 b_24 b_9 b_19 ?_
     try simp only [layz]
     refine tk 12 (opN rfl) b_17 b_24 b_9 b_19 ?_
     try simp only [layz]
     refine tk 15 (opN rfl) b_17 b_24 b_9 b_19 ?_
     try simp only [layz]
     refine tk 16 (opN rfl) b_17 b_24 b_9 b_19 ?_
     try simp only [layz]
     refine tk 13 (opN rfl) b_17 b_24 b_9 b_19 ?_
     try simp only [layz]
     refine tk 14 (opN rfl) b_17 b_24 b_9 b_19 ?_
     try simp only [layz]
     refine wpAnyH_ready (rs := [17]) b_17 b_23 ?_
     refine (AllReadyH.cons (opN rfl) (fun K hK => ?_) AllReadyH.nil)
     go_simp
     go_at_call 13
     refine Calls.mono (C_impl_RuleAllows _ _ (l[jj]) _ m _ q (Ty.rd_below b_0 rj) (Ty.rd_below b_0 rm) (Ty.rd_below b_0 rq) sbj sbm sbq) ?_
     rw [hja.out]
     rintro e u17 ⟨rfl, hu17⟩
     refine hK.out _ _ (HC2.out _ b_0) (fun hHeld => ?_)
     clear hK K
     try simp only [layz]
     refine tk 18 (opN rfl) b_17 b_24 b_9 b_19 ?_
     try simp only [layz]
     refine tk 19 (opN rfl) b_17 b_24 b_9 b_19 ?_
     try simp only [layz]
     refine tk 20 (opN rfl) b_17 b_24 b_9 b_19 ?_
     try simp only [layz]
     refine tk 21 (opN rfl) b_17 b_24 b_9 b_19 ?_
     try simp only [layz]
     refine wpAnyH_ready (rs := [22]) b_17 b_23 ?_
     refine (AllReadyH.cons (opN rfl) (fun K hK => ?_) AllReadyH.nil)
     go_simp
     go_at_call 24
     refine Calls.mono (C_impl_ValidRule _ _ t (Ty.rd_below b_0 rt) sbt) ?_
     rw [hvt.out]
     rintro e u22 ⟨rfl, hu22⟩
     refine hK.out _ _ (HC2.out _ b_0) (fun hHeld => ?_)
     clear hK K
     try simp only [layz]
     refine tk 23 (opN rfl) b_17 b_24 b_9 b_19 ?_
     try simp only [layz]
     refine tk 24 (opN rfl) b_17 b_24 b_9 b_19 ?_
     try simp only [layz]
     refine sk 25 (opN rfl) b_17 b_24 b_19 ?_
     try simp only [layz]
     refine sk 26 (opN rfl) b_17 b_24 b_19 ?_
     try simp only [layz]
     refine sk 27 (opN rfl) b_17 b_24 b_19 ?_
     try simp only [layz]
     refine sk 28 (opN rfl) b_17 b_24 b_19 ?_
     try simp only [layz]
     refine sk 29 (opN rfl) b_17 b_24 b_19 ?_
     try simp only [layz]
     refine sk 30 (opN rfl) b_17 b_24 b_19 ?_
     try simp only [layz]
     refine tk 31 (opN rfl) b_17 b_24 b_9 b_19 ?_
     try simp only [layz]
     refine tk 32 (opN rfl) b_17 b_24 b_9 b_19 ?_
     try simp only [layz]
     refine tk 33 (opN rfl) b_17 b_24 b_9 b_19 ?_
     try simp only [layz]
     refine wpAnyH_done b_17 ?_ _
     refine NoPanic.normal ?_
     have hT : Below Q2.heap.size Q2 u22 := b_0
     go_wp2
     go_ret
     exact ⟨rfl, bel_trans hW hT⟩
   | true =>
    refine Calls.mono (S_impl_ParseRule _ (f_FormatRule t) (by have := hft.out; omega) (maxI_bel hm (bel_trans hW b_0))) ?_
    have hE0 : f0_ParseRule (f_FormatRule t) = t := f0_back hv
    rw [f1_back hv]
    generalize f0_ParseRule (f_FormatRule t) = z at hE0 ⊢
    have hE := Lib.hid (show (decide (z.1 = t.1) && decide (z.2 = t.2)) = true by rw [hE0]; exact eqRule_self t)
    clear hE0
    have hvt := Lib.hid hv
    clear hv
    rintro e q2 ⟨cq2, fq2, rfl, how, -, hb⟩
    have rz := Ty.ow_rd how
    obtain ⟨Z0, Za, Z1, Zb, rfl, -, -⟩ := rd_Rule rz
    clear how
    replace rl := Ty.rd_below hb rl
    replace rm := Ty.rd_below hb rm
    replace rq := Ty.rd_below hb rq
    replace rx := Ty.rd_below hb rx
    replace rt := Ty.rd_below hb rt
    replace bM := Blk.below bM hb (Blk.lt bM)
    replace bQ := Blk.below bQ hb (Blk.lt bQ)
    replace bX := Blk.below bX hb (Blk.lt bX)
    replace bT := Blk.below bT hb (Blk.lt bT)
    replace hW := bel_trans hW hb
    clear hb
    go_upto_region 16 with fail
    obtain ⟨Q2, hQ2⟩ : ∃ V, V = (q2.alloc (.cells #[.slice Z0 (List.length z.1) Za, .slice Z1 (List.length z.2) Zb] 28)) := ⟨_, rfl⟩
    have bQ2 : Below q2.heap.size q2 Q2 := by rw [hQ2]; exact b_0
    have bZ : Blk Q2 (q2.heap.size) 28 #[.slice Z0 (List.length z.1) Za, .slice Z1 (List.length z.2) Zb] := by rw [hQ2]; have := Blk.new q2 28 #[.slice Z0 (List.length z.1) Za, .slice Z1 (List.length z.2) Zb]; (try simp only [World.size_alloc] at this); exact this
    have zbZ := bZ.lt
    rw [← hQ2]
    clear hQ2
    replace rl := Ty.rd_below bQ2 rl
    replace rm := Ty.rd_below bQ2 rm
    replace rq := Ty.rd_below bQ2 rq
    replace rx := Ty.rd_below bQ2 rx
    replace rt := Ty.rd_below bQ2 rt
    replace bM := Blk.below bM bQ2 (Blk.lt bM)
    replace bQ := Blk.below bQ bQ2 (Blk.lt bQ)
    replace bX := Blk.below bX bQ2 (Blk.lt bX)
    replace bT := Blk.below bT bQ2 (Blk.lt bT)
    replace rz := Ty.rd_below bQ2 rz
    replace hW := bel_trans hW bQ2
    clear bQ2
    rcases HF.out with hk0 | ⟨jj, hjl, hk0, hja0⟩
    ·subst hk0
     have hal : Hid (f_Allowed l m q = false) := Lib.hid (HAL.out.trans b_21)
     clear HF HAL
     have HC2 : Hid (∀ V, Below Q2.heap.size Q2 V → V.cell? ⟨w2.heap.size, 0, none⟩ = some (.slice M0 (List.length m) Ma) ∧ V.cell? ⟨w2.heap.size + 1, 0, none⟩ = some (.slice Q0 (List.length q) Qa) ∧ V.cell? ⟨w6.heap.size, 0, none⟩ = some (.slice T0 (List.length t.1) Ta) ∧ V.cell? ⟨w6.heap.size, 1, none⟩ = some (.slice T1 (List.length t.2) Tb) ∧ V.cell? ⟨q2.heap.size, 0, none⟩ = some (.slice Z0 (List.length z.1) Za) ∧ V.cell? ⟨q2.heap.size, 1, none⟩ = some (.slice Z1 (List.length z.2) Zb)) := fun V hV => ⟨(bM.below hV bM.lt).cell 0, (bQ.below hV bQ.lt).cell 0, (bT.below hV bT.lt).cell 0, (bT.below hV bT.lt).cell 1, (bZ.below hV bZ.lt).cell 0, (bZ.below hV bZ.lt).cell 1⟩
     refine wp_region_noPanic ?_
     refine wp_region_held_drew (S := (fun V => V.cell? ⟨w2.heap.size, 0, none⟩ = some (.slice M0 (List.length m) Ma) ∧ V.cell? ⟨w2.heap.size + 1, 0, none⟩ = some (.slice Q0 (List.length q) Qa) ∧ V.cell? ⟨w6.heap.size, 0, none⟩ = some (.slice T0 (List.length t.1) Ta) ∧ V.cell? ⟨w6.heap.size, 1, none⟩ = some (.slice T1 (List.length t.2) Tb) ∧ V.cell? ⟨q2.heap.size, 0, none⟩ = some (.slice Z0 (List.length z.1) Za) ∧ V.cell? ⟨q2.heap.size, 1, none⟩ = some (.slice Z1 (List.length z.2) Zb))) b_17 ?_ (fun hHeld => ?_)
     ·exact HC2.out _ b_0
     refine tk 0 (opN rfl) b_17 b_24 b_9 b_19 ?_
     try simp only [layz]
     refine tk 1 (opN rfl) b_17 b_24 b_9 b_19 ?_
     try simp only [layz]
     refine tk 2 (opN rfl) b_17 b_24 b_9 b_19 ?_
     try simp only [layz]
     refine tk 4 (opN rfl) b_17 b_24 b_9 b_19 ?_
     try simp only [layz]
     refine tk 5 (opN rfl) b_17 b_24 b_9 b_19 ?_
     try simp only [layz]
     refine wpAnyH_ready (rs := [3]) b_17 b_23 ?_
     refine (AllReadyH.cons (opN rfl) (fun K hK => ?_) AllReadyH.nil)
     go_simp
     go_at_call 15
     refine Calls.mono (C_impl_Allowed _ _ l _ m _ q (Ty.rd_below b_0 rl) (Ty.rd_below b_0 rm) (Ty.rd_below b_0 rq) sbl sbm sbq) ?_
     rw [hal.out]
     rintro e u3 ⟨rfl, hu3⟩
     refine hK.out _ _ (HC2.out _ b_0) (fun hHeld => ?_)
     clear hK K
     try simp only [layz]
     refine tk 6 (opN rfl) b_17 b_24 b_9 b_19 ?_
     try simp only [layz]
     refine tk 7 (opN rfl) b_17 b_24 b_9 b_19 ?_
     try simp only [layz]
     refine tk 8 (opN rfl) b_17 b_24 b_9 b_19 ?_
     try simp only [layz]
     refine tk 9 (opN rfl) b_17 b_24 b_9 b_19 ?_
     try simp only [layz]
     refine tk 10 (opN rfl) b_17 b_24 b_9 b_19 ?_
     try simp only [layz]
     refine sk 11 (opN rfl) b_17 b_24 b_19 ?_
     try simp only [layz]
     refine sk 12 (opN rfl) b_17 b_24 b_19 ?_
     try simp only [layz]
     refine sk 15 (opN rfl) b_17 b_24 b_19 ?_
     try simp only [layz]
     refine sk 16 (opN rfl) b_17 b_24 b_19 ?_
     try simp only [layz]
     refine sk 13 (opN rfl) b_17 b_24 b_19 ?_
     try simp only [layz]
     refine sk 14 (opN rfl) b_17 b_24 b_19 ?_
     try simp only [layz]
     refine sk 17 (opN rfl) b_17 b_24 b_19 ?_
     try simp only [layz]
     refine tk 18 (opN rfl) b_17 b_24 b_9 b_19 ?_
     try simp only [layz]
     refine tk 19 (opN rfl) b_17 b_24 b_9 b_19 ?_
     try simp only [layz]
     refine tk 20 (opN rfl) b_17 b_24 b_9 b_19 ?_
     try simp only [layz]
     refine tk 21 (opN rfl) b_17 b_24 b_9 b_19 ?_
     try simp only [layz]
     refine wpAnyH_ready (rs := [22]) b_17 b_23 ?_
     refine (AllReadyH.cons (opN rfl) (fun K hK => ?_) AllReadyH.nil)
     go_simp
     go_at_call 24
     refine Calls.mono (C_impl_ValidRule _ _ t (Ty.rd_below b_0 rt) sbt) ?_
     rw [hvt.out]
     rintro e u22 ⟨rfl, hu22⟩
     refine hK.out _ _ (HC2.out _ b_0) (fun hHeld => ?_)
     clear hK K
     try simp only [layz]
     refine tk 23 (opN rfl) b_17 b_24 b_9 b_19 ?_
     try simp only [layz]
     refine tk 24 (opN rfl) b_17 b_24 b_9 b_19 ?_
     try simp only [layz]
     refine tk 25 (opN rfl) b_17 b_24 b_9 b_19 ?_
     try simp only [layz]
     refine tk 26 (opN rfl) b_17 b_24 b_9 b_19 ?_
     try simp only [layz]
     refine tk 27 (opN rfl) b_17 b_24 b_9 b_19 ?_
     try simp only [layz]
     refine tk 28 (opN rfl) b_17 b_24 b_9 b_19 ?_
     try simp only [layz]
     refine wpAnyH_ready (rs := [29]) b_17 b_23 ?_
     refine (AllReadyH.cons (opN rfl) (fun K hK => ?_) AllReadyH.nil)
     go_simp
     go_at_call 20
     refine Calls.mono (C_impl_EqualRules _ _ _ z t (Ty.rd_below b_0 rz) (Ty.rd_below b_0 rt)) ?_
     rw [hE.out]
     rintro e u29 ⟨rfl, hu29⟩
     refine hK.out _ _ (HC2.out _ b_0) (fun hHeld => ?_)
     clear hK K
     try simp only [layz]
     refine tk 30 (opN rfl) b_17 b_24 b_9 b_19 ?_
     try simp only [layz]
     refine tk 31 (opN rfl) b_17 b_24 b_9 b_19 ?_
     try simp only [layz]
     refine tk 32 (opN rfl) b_17 b_24 b_9 b_19 ?_
     try simp only [layz]
     refine tk 33 (opN rfl) b_17 b_24 b_9 b_19 ?_
     try simp only [layz]
     refine wpAnyH_done b_17 ?_ _
     refine NoPanic.normal ?_
     have hT : Below Q2.heap.size Q2 u29 := b_0
     go_wp2
     go_ret
     exact ⟨rfl, bel_trans hW hT⟩
    ·subst hk0
     have hal : Hid (f_Allowed l m q = true) := Lib.hid (HAL.out.trans (decide_eq_true b_22))
     have hja := Lib.hid hja0
     clear HF HAL hja0
     obtain ⟨eb, eo, ds, rfl, hle, hcell, hrd⟩ := Ty.rd_at rl (k := jj) hjl
     have rj := hrd
     obtain ⟨C0, Ca, C1, Cb, rfl, -, -⟩ := rd_Rule hrd
     have e0 : Q2.cell? ⟨eb, eo + jj * 2, none⟩ = some (.slice C0 (List.length (l[jj]).1) Ca) := by simpa [Ty.sz] using hcell 0 b_21
     have e1 : Q2.cell? ⟨eb, eo + jj * 2 + 1, none⟩ = some (.slice C1 (List.length (l[jj]).2) Cb) := by simpa [Ty.sz] using hcell 1 b_21
     clear hcell hle hrd
     have zz1 : eb < Q2.heap.size := World.block_lt_of_cell? _ _ e0
     have sbj : Ty.bulk tRule l[jj] ≤ 1048576 := Ty.bulk_at sbl hjl
     have hw64 : IntKind.i64.wrap (jj : Int) = (jj : Int) := IntWalk.i64_in _ b_22
     have hj0 : (0 : Int) ≤ (jj : Int) := by omega
     have hj1 : (jj : Int) < (List.length l : Int) := by omega
     have HC2 : Hid (∀ V, Below Q2.heap.size Q2 V → V.cell? ⟨w2.heap.size, 0, none⟩ = some (.slice M0 (List.length m) Ma) ∧ V.cell? ⟨w2.heap.size + 1, 0, none⟩ = some (.slice Q0 (List.length q) Qa) ∧ V.cell? ⟨w6.heap.size, 0, none⟩ = some (.slice T0 (List.length t.1) Ta) ∧ V.cell? ⟨w6.heap.size, 1, none⟩ = some (.slice T1 (List.length t.2) Tb) ∧ V.cell? ⟨q2.heap.size, 0, none⟩ = some (.slice Z0 (List.length z.1) Za) ∧ V.cell? ⟨q2.heap.size, 1, none⟩ = some (.slice Z1 (List.length z.2) Zb) ∧ V.cell? ⟨eb, eo + jj * 2, none⟩ = some (.slice C0 (List.length (l[jj]).1) Ca) ∧ V.cell? ⟨eb, eo + jj * 2 + 1, none⟩ = some (.slice C1 (List.length (l[jj]).2) Cb)) := fun V hV => ⟨(bM.below hV bM.lt).cell 0, (bQ.below hV bQ.lt).cell 0, (bT.below hV bT.lt).cell 0, (bT.below hV bT.lt).cell 1, (bZ.below hV bZ.lt).cell 0, (bZ.below hV bZ.lt).cell 1, (hV.cell (p := ⟨eb, _, none⟩) zz1).trans e0, (hV.cell (p := ⟨eb, _, none⟩) zz1).trans e1⟩
     clear e0 e1
     refine wp_region_noPanic ?_
     refine wp_region_held_drew (S := (fun V => V.cell? ⟨w2.heap.size, 0, none⟩ = some (.slice M0 (List.length m) Ma) ∧ V.cell? ⟨w2.heap.size + 1, 0, none⟩ = some (.slice Q0 (List.length q) Qa) ∧ V.cell? ⟨w6.heap.size, 0, none⟩ = some (.slice T0 (List.length t.1) Ta) ∧ V.cell? ⟨w6.heap.size, 1, none⟩ = some (.slice T1 (List.length t.2) Tb) ∧ V.cell? ⟨q2.heap.size, 0, none⟩ = some (.slice Z0 (List.length z.1) Za) ∧ V.cell? ⟨q2.heap.size, 1, none⟩ = some (.slice Z1 (List.length z.2) Zb) ∧ V.cell? ⟨eb, eo + jj * 2, none⟩ = some (.slice C0 (List.length (l[jj]).1) Ca) ∧ V.cell? ⟨eb, eo + jj * 2 + 1, none⟩ = some (.slice C1 (List.length (l[jj]).2) Cb))) b_17 ?_ (fun hHeld => ?_)
     ·exact HC2.out _ b_0
     refine tk 0 (opN rfl) b_17 b_24 b_9 b_19 ?_
     try simp only [layz]
     refine tk 1 (opN rfl) b_17 b_24 b_9 b_19 ?_
     try simp only [layz]
     refine tk 2 (opN rfl) b_17 b_24 b_9 b_19 ?_
     try simp only [layz]
     refine tk 4 (opN rfl) b_17 b_24 b_9 b_19 ?_
     try simp only [layz]
     refine tk 5 (opN rfl) b_17 b_24 b_9 b_19 ?_
     try simp only [layz]
     refine wpAnyH_ready (rs := [3]) b_17 b_23 ?_
     refine (AllReadyH.cons (opN rfl) (fun K hK => ?_) AllReadyH.nil)
     go_simp
     go_at_call 15
     refine Calls.mono (C_impl_Allowed _ _ l _ m _ q (Ty.rd_below b_0 rl) (Ty.rd_below b_0 rm) (Ty.rd_below b_0 rq) sbl sbm sbq) ?_
     rw [hal.out]
     rintro e u3 ⟨rfl, hu3⟩
     refine hK.out _ _ (HC2.out _ b_0) (fun hHeld => ?_)
     clear hK K
     try simp only [layz]
     refine tk 6 (opN rfl) b_17 b_24 b_9 b_19 ?_
     try simp only [layz]
     refine tk 7 (opN rfl) b_17 b_24 b_9 b_19 ?_
     try simp only [layz]
     refine tk 8 (opN rfl) b_17 b_24 b_9 b_19 ?_
     try simp only [layz]
     refine tk 9 (opN rfl) b_17 b_24 b_9 b_19 ?_
     try simp only [layz]
     refine tk 10 (opN rfl) b_17 b_24 b_9 b_19 ?_
     try simp only [layz]
     refine tk 11 (opN rfl) b_17 b_24 b_9 b_19 ?_
     try simp only [layz]
     refine tk 12 (opN rfl) b_17 b_24 b_9 b_19 ?_
     try simp only [layz]
     refine tk 15 (opN rfl) b_17 b_24 b_9 b_19 ?_
     try simp only [layz]
     refine tk 16 (opN rfl) b_17 b_24 b_9 b_19 ?_
     try simp only [layz]
     refine tk 13 (opN rfl) b_17 b_24 b_9 b_19 ?_
     try simp only [layz]
     refine tk 14 (opN rfl) b_17 b_24 b_9 b_19 ?_
     try simp only [layz]
     refine wpAnyH_ready (rs := [17]) b_17 b_23 ?_
     refine (AllReadyH.cons (opN rfl) (fun K hK => ?_) AllReadyH.nil)
     go_simp
     go_at_call 13
     refine Calls.mono (C_impl_RuleAllows _ _ (l[jj]) _ m _ q (Ty.rd_below b_0 rj) (Ty.rd_below b_0 rm) (Ty.rd_below b_0 rq) sbj sbm sbq) ?_
     rw [hja.out]
     rintro e u17 ⟨rfl, hu17⟩
     refine hK.out _ _ (HC2.out _ b_0) (fun hHeld => ?_)
     clear hK K
     try simp only [layz]
     refine tk 18 (opN rfl) b_17 b_24 b_9 b_19 ?_
     try simp only [layz]
     refine tk 19 (opN rfl) b_17 b_24 b_9 b_19 ?_
     try simp only [layz]
     refine tk 20 (opN rfl) b_17 b_24 b_9 b_19 ?_
     try simp only [layz]
     refine tk 21 (opN rfl) b_17 b_24 b_9 b_19 ?_
     try simp only [layz]
     refine wpAnyH_ready (rs := [22]) b_17 b_23 ?_
     refine (AllReadyH.cons (opN rfl) (fun K hK => ?_) AllReadyH.nil)
     go_simp
     go_at_call 24
     refine Calls.mono (C_impl_ValidRule _ _ t (Ty.rd_below b_0 rt) sbt) ?_
     rw [hvt.out]
     rintro e u22 ⟨rfl, hu22⟩
     refine hK.out _ _ (HC2.out _ b_0) (fun hHeld => ?_)
     clear hK K
     try simp only [layz]
     refine tk 23 (opN rfl) b_17 b_24 b_9 b_19 ?_
     try simp only [layz]
     refine tk 24 (opN rfl) b_17 b_24 b_9 b_19 ?_
     try simp only [layz]
     refine tk 25 (opN rfl) b_17 b_24 b_9 b_19 ?_
     try simp only [layz]
     refine tk 26 (opN rfl) b_17 b_24 b_9 b_19 ?_
     try simp only [layz]
     refine tk 27 (opN rfl) b_17 b_24 b_9 b_19 ?_
     try simp only [layz]
     refine tk 28 (opN rfl) b_17 b_24 b_9 b_19 ?_
     try simp only [layz]
     refine wpAnyH_ready (rs := [29]) b_17 b_23 ?_
     refine (AllReadyH.cons (opN rfl) (fun K hK => ?_) AllReadyH.nil)
     go_simp
     go_at_call 20
     refine Calls.mono (C_impl_EqualRules _ _ _ z t (Ty.rd_below b_0 rz) (Ty.rd_below b_0 rt)) ?_
     rw [hE.out]
     rintro e u29 ⟨rfl, hu29⟩
     refine hK.out _ _ (HC2.out _ b_0) (fun hHeld => ?_)
     clear hK K
     try simp only [layz]
     refine tk 30 (opN rfl) b_17 b_24 b_9 b_19 ?_
     try simp only [layz]
     refine tk 31 (opN rfl) b_17 b_24 b_9 b_19 ?_
     try simp only [layz]
     refine tk 32 (opN rfl) b_17 b_24 b_9 b_19 ?_
     try simp only [layz]
     refine tk 33 (opN rfl) b_17 b_24 b_9 b_19 ?_
     try simp only [layz]
     refine wpAnyH_done b_17 ?_ _
     refine NoPanic.normal ?_
     have hT : Below Q2.heap.size Q2 u29 := b_0
     go_wp2
     go_ret
     exact ⟨rfl, bel_trans hW hT⟩
end Go.Proofs.YtidnahocnhcoiaaGreatDoor
