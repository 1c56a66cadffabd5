/- Proved here: the given statement FnTrustsSaid: chains of trust end at an anchor, are four keys long at most, and both ways of trusting agree; the law returns true for all inputs. Conditions: none. -/
/- Texts of this claim, merged by a program: LFnTrusts ClFnTrusts. -/
import Derived.Test.YtldgbnlcnlfmeaaGreatQtP
import Derived.Test.YtldgbnlcnlfmeaaGreatQt27
import Derived.Test.YtldgbnlcnlfmeaaGreatQt14
import Derived.Test.YtldgbnlcnlfmeaaGreatQt16
import Derived.Test.YtldgbnlcnlfmeaaGreatQt28
import Derived.Test.YtldgbnlcnlfmeaaGreatQt6
import Derived.Deep.RegionHeld3
import Derived.Test.YtldgbnlcnlfmeaaGreatQt0
import Derived.ShutString
namespace Go.Proofs.YtldgbnlcnlfmeaaGreat
open Go.RowKit
set_option linter.unusedVariables false
set_option linter.unusedSimpArgs false
theorem decide_self {α : Type} [DecidableEq α] (x : α) : decide (x = x) = true := by simp
theorem eqData_self (x : Ty.D tData) : f_EqualData x x = true := by unfold f_EqualData; simp
set_option maxRecDepth 100000 in
set_option maxHeartbeats 4000000 in
theorem L_FnTrusts (w : World) (v0 : Value) (x0 : Ty.D (.sl .byte)) (h0 : Ty.rd w (.sl .byte) [v0] x0) :
  Calls Tryz.prog 3 #[v0] w (RetB w true) := by
 obtain ⟨A0, c0, rfl, hc0, hm0, hn0⟩ := Ty.rd_sl h0
 go_enter Tryz.func3, Tryz.ntmps3
 go_wp2_with fail
 refine (C_laws_bigG _ _ _ _).mono ?_
 rintro e w1 ⟨rfl, hw1⟩
 obtain rfl : w = w1 := hw1.symm
 by_cases hbig : (x0.length : Int) > 1048576
 ·go_wp2
  go_ret
  exact ⟨rfl, b_10⟩
 go_wp2_with fail
 refine Calls.mono (C_spec_DrawIsTrusted _ _ x0 (Ty.rd_below b_10 h0)) ?_
 rintro e w1 ⟨cst, t, csx, x, now, rfl, rt, rx, hokt, hokx, hnow, hb⟩
 obtain ⟨T1, Ta, T2, Tb, T3, Tc, T4, Td, rfl, -⟩ := rd_TrustPolicy rt
 obtain ⟨X0, Xa, X1, Xb, X2, Xc, rfl, -⟩ := rd_Data rx
 have sbt := Nat.le_trans hokt (show 20000 ≤ 1048576 by decide)
 have sbx := Nat.le_trans hokx (show 1000 ≤ 1048576 by decide)
 clear hokt hokx
 have r0 := Ty.rd_below hb h0
 have hW := bel_trans b_10 hb
 clear hb
 go_wp2_with fail
 obtain ⟨V1, hV1⟩ : ∃ V, V = ((w1.alloc (.cells #[.slice T1 (List.length t.1) Ta, .slice T2 (List.length t.2.1) Tb, .slice T3 (List.length t.2.2.1) Tc, .slice T4 (List.length t.2.2.2) Td] 29)).alloc (.cells #[.slice X0 (List.length x.1) Xa, .slice X1 (List.length x.2.1) Xb, .slice X2 (List.length x.2.2.1) Xc, .int .i64 x.2.2.2.1, .int .i64 x.2.2.2.2] 34)) := ⟨_, rfl⟩
 have bV1 : Below w1.heap.size w1 V1 := by rw [hV1]; exact b_4
 have bT : Blk V1 (w1.heap.size) 29 #[.slice T1 (List.length t.1) Ta, .slice T2 (List.length t.2.1) Tb, .slice T3 (List.length t.2.2.1) Tc, .slice T4 (List.length t.2.2.2) Td] := by rw [hV1]; have := Blk.new w1 29 #[.slice T1 (List.length t.1) Ta, .slice T2 (List.length t.2.1) Tb, .slice T3 (List.length t.2.2.1) Tc, .slice T4 (List.length t.2.2.2) Td]; (try simp only [World.size_alloc] at this); exact (this).alloc _
 have zbT := bT.lt
 have bX : Blk V1 (w1.heap.size + 1) 34 #[.slice X0 (List.length x.1) Xa, .slice X1 (List.length x.2.1) Xb, .slice X2 (List.length x.2.2.1) Xc, .int .i64 x.2.2.2.1, .int .i64 x.2.2.2.2] := by rw [hV1]; have := Blk.new (w1.alloc (.cells #[.slice T1 (List.length t.1) Ta, .slice T2 (List.length t.2.1) Tb, .slice T3 (List.length t.2.2.1) Tc, .slice T4 (List.length t.2.2.2) Td] 29)) 34 #[.slice X0 (List.length x.1) Xa, .slice X1 (List.length x.2.1) Xb, .slice X2 (List.length x.2.2.1) Xc, .int .i64 x.2.2.2.1, .int .i64 x.2.2.2.2]; (try simp only [World.size_alloc] at this); exact this
 have zbX := bX.lt
 rw [← hV1]
 clear hV1
 replace r0 := Ty.rd_below bV1 r0
 replace rt := Ty.rd_below bV1 rt
 replace rx := Ty.rd_below bV1 rx
 replace hW := bel_trans hW bV1
 clear bV1
 refine Calls.mono (C_impl_TrustChain _ _ t _ x now rt rx sbt sbx hnow) ?_
 obtain ⟨l, hl⟩ : ∃ y, y = f0_TrustChain t x now := ⟨_, rfl⟩
 obtain ⟨ok, hok⟩ : ∃ o, o = f1_TrustChain t x now := ⟨_, rfl⟩
 have HCN := @chain_no t x now
 have HCY := @chain_yes t x now
 rw [← hl, ← hok] at HCN HCY
 have HL := Lib.hid hl
 have HK := Lib.hid hok
 replace HCN := Lib.hid HCN
 replace HCY := Lib.hid HCY
 rw [← hl, ← hok]
 clear hl hok
 rintro e w2 ⟨L1, la, fp2, rfl, how2, -, hb⟩
 have rl := Ty.ow_rd how2
 clear how2
 replace r0 := Ty.rd_below hb r0
 replace rt := Ty.rd_below hb rt
 replace rx := Ty.rd_below hb rx
 replace bT := Blk.below bT hb (Blk.lt bT)
 replace bX := Blk.below bX hb (Blk.lt bX)
 replace hW := bel_trans hW hb
 clear hb
 obtain ⟨kbT0, kbT1, kbT2, kbT3, -, -, -, -, -⟩ := bk4 bT
 have zkbT := bT.lt
 obtain ⟨kbX0, kbX1, kbX2, kbX3, kbX4, -, -, -, -, -, -⟩ := bk5 bX
 have zkbX := bX.lt
 go_wp2_with fail
 clear kbT0 kbT1 kbT2 kbT3 zkbT
 clear kbX0 kbX1 kbX2 kbX3 kbX4 zkbX
 refine Calls.mono (C_spec_TrustChain _ _ t _ x now rt rx sbt sbx hnow) ?_
 rw [← HL.out, ← HK.out]
 rintro e w3 ⟨L2, lb, fp3, rfl, how3, -, hb⟩
 have rm := Ty.ow_rd how3
 clear how3
 replace r0 := Ty.rd_below hb r0
 replace rt := Ty.rd_below hb rt
 replace rx := Ty.rd_below hb rx
 replace bT := Blk.below bT hb (Blk.lt bT)
 replace bX := Blk.below bX hb (Blk.lt bX)
 replace rl := Ty.rd_below hb rl
 replace hW := bel_trans hW hb
 clear hb
 go_wp2_with fail
 refine Calls.mono (C_spec_DrawFindCertificate _ _ x0 r0) ?_
 rintro e w4 ⟨csc, c, N0, n, Na, when, rfl, rc, rn, hokc, hokn, hwhen, hb⟩
 obtain ⟨C1, Ca, C2, Cb, C3, Cc, C4, Cd, rfl, -⟩ := rd_TrustPolicy rc
 have sbc := Nat.le_trans hokc (show 20000 ≤ 1048576 by decide)
 have sbn := Nat.le_trans (any_bulk hokn) (show 70 ≤ 1048576 by decide)
 clear hokc hokn
 replace r0 := Ty.rd_below hb r0
 replace rt := Ty.rd_below hb rt
 replace rx := Ty.rd_below hb rx
 replace bT := Blk.below bT hb (Blk.lt bT)
 replace bX := Blk.below bX hb (Blk.lt bX)
 replace rl := Ty.rd_below hb rl
 replace rm := Ty.rd_below hb rm
 replace hW := bel_trans hW hb
 clear hb
 go_wp2_with fail
 obtain ⟨V4, hV4⟩ : ∃ V, V = ((w4.alloc (.cells #[.slice C1 (List.length c.1) Ca, .slice C2 (List.length c.2.1) Cb, .slice C3 (List.length c.2.2.1) Cc, .slice C4 (List.length c.2.2.2) Cd] 29)).alloc (.cells #[.slice N0 (List.length n) Na] 32)) := ⟨_, rfl⟩
 have bV4 : Below w4.heap.size w4 V4 := by rw [hV4]; exact b_4
 have bC : Blk V4 (w4.heap.size) 29 #[.slice C1 (List.length c.1) Ca, .slice C2 (List.length c.2.1) Cb, .slice C3 (List.length c.2.2.1) Cc, .slice C4 (List.length c.2.2.2) Cd] := by rw [hV4]; have := Blk.new w4 29 #[.slice C1 (List.length c.1) Ca, .slice C2 (List.length c.2.1) Cb, .slice C3 (List.length c.2.2.1) Cc, .slice C4 (List.length c.2.2.2) Cd]; (try simp only [World.size_alloc] at this); exact (this).alloc _
 have zbC := bC.lt
 have bN : Blk V4 (w4.heap.size + 1) 32 #[.slice N0 (List.length n) Na] := by rw [hV4]; have := Blk.new (w4.alloc (.cells #[.slice C1 (List.length c.1) Ca, .slice C2 (List.length c.2.1) Cb, .slice C3 (List.length c.2.2.1) Cc, .slice C4 (List.length c.2.2.2) Cd] 29)) 32 #[.slice N0 (List.length n) Na]; (try simp only [World.size_alloc] at this); exact this
 have zbN := bN.lt
 rw [← hV4]
 clear hV4
 replace r0 := Ty.rd_below bV4 r0
 replace rt := Ty.rd_below bV4 rt
 replace rx := Ty.rd_below bV4 rx
 replace bT := Blk.below bT bV4 (Blk.lt bT)
 replace bX := Blk.below bX bV4 (Blk.lt bX)
 replace rl := Ty.rd_below bV4 rl
 replace rm := Ty.rd_below bV4 rm
 replace rc := Ty.rd_below bV4 rc
 replace rn := Ty.rd_below bV4 rn
 replace hW := bel_trans hW bV4
 clear bV4
 refine Calls.mono (C_spec_DrawValidTrust _ _ x0 r0) ?_
 rintro e w5 ⟨csu, u, rfl, ru, hoku, hb⟩
 obtain ⟨U1, Ua, U2, Ub, U3, Uc, U4, Ud, rfl, -⟩ := rd_TrustPolicy ru
 have sbu := Nat.le_trans hoku (show 20000 ≤ 1048576 by decide)
 clear hoku
 replace r0 := Ty.rd_below hb r0
 replace rt := Ty.rd_below hb rt
 replace rx := Ty.rd_below hb rx
 replace bT := Blk.below bT hb (Blk.lt bT)
 replace bX := Blk.below bX hb (Blk.lt bX)
 replace rl := Ty.rd_below hb rl
 replace rm := Ty.rd_below hb rm
 replace rc := Ty.rd_below hb rc
 replace rn := Ty.rd_below hb rn
 replace bC := Blk.below bC hb (Blk.lt bC)
 replace bN := Blk.below bN hb (Blk.lt bN)
 replace hW := bel_trans hW hb
 clear hb
 go_wp2_with fail
 obtain ⟨V5, hV5⟩ : ∃ V, V = (w5.alloc (.cells #[.slice U1 (List.length u.1) Ua, .slice U2 (List.length u.2.1) Ub, .slice U3 (List.length u.2.2.1) Uc, .slice U4 (List.length u.2.2.2) Ud] 29)) := ⟨_, rfl⟩
 have bV5 : Below w5.heap.size w5 V5 := by rw [hV5]; exact b_4
 have bU : Blk V5 (w5.heap.size) 29 #[.slice U1 (List.length u.1) Ua, .slice U2 (List.length u.2.1) Ub, .slice U3 (List.length u.2.2.1) Uc, .slice U4 (List.length u.2.2.2) Ud] := by rw [hV5]; have := Blk.new w5 29 #[.slice U1 (List.length u.1) Ua, .slice U2 (List.length u.2.1) Ub, .slice U3 (List.length u.2.2.1) Uc, .slice U4 (List.length u.2.2.2) Ud]; (try simp only [World.size_alloc] at this); exact this
 have zbU := bU.lt
 rw [← hV5]
 clear hV5
 replace r0 := Ty.rd_below bV5 r0
 replace rt := Ty.rd_below bV5 rt
 replace rx := Ty.rd_below bV5 rx
 replace bT := Blk.below bT bV5 (Blk.lt bT)
 replace bX := Blk.below bX bV5 (Blk.lt bX)
 replace rl := Ty.rd_below bV5 rl
 replace rm := Ty.rd_below bV5 rm
 replace rc := Ty.rd_below bV5 rc
 replace rn := Ty.rd_below bV5 rn
 replace bC := Blk.below bC bV5 (Blk.lt bC)
 replace bN := Blk.below bN bV5 (Blk.lt bN)
 replace ru := Ty.rd_below bV5 ru
 replace hW := bel_trans hW bV5
 clear bV5
 refine Calls.mono (C_spec_DrawIsAnchor _ _ x0 r0) ?_
 rintro e w6 ⟨csr, r, S0, s, Sa, rfl, rr, rs, hokr, hoks, hb⟩
 obtain ⟨R1, Ra, R2, Rb, R3, Rc, R4, Rd, rfl, -⟩ := rd_TrustPolicy rr
 have sbr := Nat.le_trans hokr (show 20000 ≤ 1048576 by decide)
 have sbs := Nat.le_trans (any_bulk hoks) (show 70 ≤ 1048576 by decide)
 clear hokr hoks
 replace r0 := Ty.rd_below hb r0
 replace rt := Ty.rd_below hb rt
 replace rx := Ty.rd_below hb rx
 replace bT := Blk.below bT hb (Blk.lt bT)
 replace bX := Blk.below bX hb (Blk.lt bX)
 replace rl := Ty.rd_below hb rl
 replace rm := Ty.rd_below hb rm
 replace rc := Ty.rd_below hb rc
 replace rn := Ty.rd_below hb rn
 replace bC := Blk.below bC hb (Blk.lt bC)
 replace bN := Blk.below bN hb (Blk.lt bN)
 replace ru := Ty.rd_below hb ru
 replace bU := Blk.below bU hb (Blk.lt bU)
 replace hW := bel_trans hW hb
 clear hb
 go_wp2_with fail
 obtain ⟨V6, hV6⟩ : ∃ V, V = ((w6.alloc (.cells #[.slice R1 (List.length r.1) Ra, .slice R2 (List.length r.2.1) Rb, .slice R3 (List.length r.2.2.1) Rc, .slice R4 (List.length r.2.2.2) Rd] 29)).alloc (.cells #[.slice S0 (List.length s) Sa] 32)) := ⟨_, rfl⟩
 have bV6 : Below w6.heap.size w6 V6 := by rw [hV6]; exact b_4
 have bR : Blk V6 (w6.heap.size) 29 #[.slice R1 (List.length r.1) Ra, .slice R2 (List.length r.2.1) Rb, .slice R3 (List.length r.2.2.1) Rc, .slice R4 (List.length r.2.2.2) Rd] := by rw [hV6]; have := Blk.new w6 29 #[.slice R1 (List.length r.1) Ra, .slice R2 (List.length r.2.1) Rb, .slice R3 (List.length r.2.2.1) Rc, .slice R4 (List.length r.2.2.2) Rd]; (try simp only [World.size_alloc] at this); exact (this).alloc _
 have zbR := bR.lt
 have bS : Blk V6 (w6.heap.size + 1) 32 #[.slice S0 (List.length s) Sa] := by rw [hV6]; have := Blk.new (w6.alloc (.cells #[.slice R1 (List.length r.1) Ra, .slice R2 (List.length r.2.1) Rb, .slice R3 (List.length r.2.2.1) Rc, .slice R4 (List.length r.2.2.2) Rd] 29)) 32 #[.slice S0 (List.length s) Sa]; (try simp only [World.size_alloc] at this); exact this
 have zbS := bS.lt
 rw [← hV6]
 clear hV6
 replace r0 := Ty.rd_below bV6 r0
 replace rt := Ty.rd_below bV6 rt
 replace rx := Ty.rd_below bV6 rx
 replace bT := Blk.below bT bV6 (Blk.lt bT)
 replace bX := Blk.below bX bV6 (Blk.lt bX)
 replace rl := Ty.rd_below bV6 rl
 replace rm := Ty.rd_below bV6 rm
 replace rc := Ty.rd_below bV6 rc
 replace rn := Ty.rd_below bV6 rn
 replace bC := Blk.below bC bV6 (Blk.lt bC)
 replace bN := Blk.below bN bV6 (Blk.lt bN)
 replace ru := Ty.rd_below bV6 ru
 replace bU := Blk.below bU bV6 (Blk.lt bU)
 replace rr := Ty.rd_below bV6 rr
 replace rs := Ty.rd_below bV6 rs
 replace hW := bel_trans hW bV6
 clear bV6
 refine Calls.mono (C_spec_DrawIssueCertificate _ _ x0 r0) ?_
 rintro e w7 ⟨K1, k, ka, P0, p, Pa, Q0, q, Qa, till, rfl, rk, rp, rq, hokk, hokp, hokq, htl, hb⟩
 have sbk := Nat.le_trans (keys_bulk hokk) (show 568 ≤ 1048576 by decide)
 have sbp := Nat.le_trans (any_bulk hokp) (show 70 ≤ 1048576 by decide)
 have sbq := Nat.le_trans (any_bulk hokq) (show 70 ≤ 1048576 by decide)
 have sby := Lib.hid (Nat.le_trans (iss_bulk k till (Nat.le_trans (any_bulk hokp) (show 70 ≤ 100 by decide)) (Nat.le_trans (any_bulk hokq) (show 70 ≤ 100 by decide))) (show 206 ≤ 1048576 by decide))
 have htill : -9223372036854775808 ≤ till ∧ till ≤ 9223372036854775807 := by omega
 clear hokk hokp hokq htl
 replace r0 := Ty.rd_below hb r0
 replace rt := Ty.rd_below hb rt
 replace rx := Ty.rd_below hb rx
 replace bT := Blk.below bT hb (Blk.lt bT)
 replace bX := Blk.below bX hb (Blk.lt bX)
 replace rl := Ty.rd_below hb rl
 replace rm := Ty.rd_below hb rm
 replace rc := Ty.rd_below hb rc
 replace rn := Ty.rd_below hb rn
 replace bC := Blk.below bC hb (Blk.lt bC)
 replace bN := Blk.below bN hb (Blk.lt bN)
 replace ru := Ty.rd_below hb ru
 replace bU := Blk.below bU hb (Blk.lt bU)
 replace rr := Ty.rd_below hb rr
 replace rs := Ty.rd_below hb rs
 replace bR := Blk.below bR hb (Blk.lt bR)
 replace bS := Blk.below bS hb (Blk.lt bS)
 replace hW := bel_trans hW hb
 clear hb
 go_wp2_with fail
 obtain ⟨V7, hV7⟩ : ∃ V, V = ((w7.alloc (.cells #[.slice P0 (List.length p) Pa] 32)).alloc (.cells #[.slice Q0 (List.length q) Qa] 32)) := ⟨_, rfl⟩
 have bV7 : Below w7.heap.size w7 V7 := by rw [hV7]; exact b_4
 have bP : Blk V7 (w7.heap.size) 32 #[.slice P0 (List.length p) Pa] := by rw [hV7]; have := Blk.new w7 32 #[.slice P0 (List.length p) Pa]; (try simp only [World.size_alloc] at this); exact (this).alloc _
 have zbP := bP.lt
 have bQ : Blk V7 (w7.heap.size + 1) 32 #[.slice Q0 (List.length q) Qa] := by rw [hV7]; have := Blk.new (w7.alloc (.cells #[.slice P0 (List.length p) Pa] 32)) 32 #[.slice Q0 (List.length q) Qa]; (try simp only [World.size_alloc] at this); exact this
 have zbQ := bQ.lt
 rw [← hV7]
 clear hV7
 replace r0 := Ty.rd_below bV7 r0
 replace rt := Ty.rd_below bV7 rt
 replace rx := Ty.rd_below bV7 rx
 replace bT := Blk.below bT bV7 (Blk.lt bT)
 replace bX := Blk.below bX bV7 (Blk.lt bX)
 replace rl := Ty.rd_below bV7 rl
 replace rm := Ty.rd_below bV7 rm
 replace rc := Ty.rd_below bV7 rc
 replace rn := Ty.rd_below bV7 rn
 replace bC := Blk.below bC bV7 (Blk.lt bC)
 replace bN := Blk.below bN bV7 (Blk.lt bN)
 replace ru := Ty.rd_below bV7 ru
 replace bU := Blk.below bU bV7 (Blk.lt bU)
 replace rr := Ty.rd_below bV7 rr
 replace rs := Ty.rd_below bV7 rs
 replace bR := Blk.below bR bV7 (Blk.lt bR)
 replace bS := Blk.below bS bV7 (Blk.lt bS)
 replace rk := Ty.rd_below bV7 rk
 replace rp := Ty.rd_below bV7 rp
 replace rq := Ty.rd_below bV7 rq
 replace hW := bel_trans hW bV7
 clear bV7
 refine Calls.mono (C_impl_IssueCertificate _ _ k _ p _ q till rk rp rq sbk sbp sbq htill) ?_
 obtain ⟨y, hy⟩ : ∃ y, y = f0_IssueCertificate k p q till := ⟨_, rfl⟩
 obtain ⟨may, hmay⟩ : ∃ o, o = f1_IssueCertificate k p q till := ⟨_, rfl⟩
 rw [← hy] at sby
 have HY := Lib.hid hy
 have HM := Lib.hid hmay
 rw [← hy, ← hmay]
 clear hy hmay
 rintro e w8 ⟨cs8, fp8, rfl, how8, -, hb⟩
 obtain ⟨Y0, Ya, Y1, Yb, Y2, Yc, rfl⟩ := ow_Data how8
 have ry := Ty.ow_rd how8
 clear how8
 replace r0 := Ty.rd_below hb r0
 replace rt := Ty.rd_below hb rt
 replace rx := Ty.rd_below hb rx
 replace bT := Blk.below bT hb (Blk.lt bT)
 replace bX := Blk.below bX hb (Blk.lt bX)
 replace rl := Ty.rd_below hb rl
 replace rm := Ty.rd_below hb rm
 replace rc := Ty.rd_below hb rc
 replace rn := Ty.rd_below hb rn
 replace bC := Blk.below bC hb (Blk.lt bC)
 replace bN := Blk.below bN hb (Blk.lt bN)
 replace ru := Ty.rd_below hb ru
 replace bU := Blk.below bU hb (Blk.lt bU)
 replace rr := Ty.rd_below hb rr
 replace rs := Ty.rd_below hb rs
 replace bR := Blk.below bR hb (Blk.lt bR)
 replace bS := Blk.below bS hb (Blk.lt bS)
 replace rk := Ty.rd_below hb rk
 replace rp := Ty.rd_below hb rp
 replace rq := Ty.rd_below hb rq
 replace bP := Blk.below bP hb (Blk.lt bP)
 replace bQ := Blk.below bQ hb (Blk.lt bQ)
 replace hW := bel_trans hW hb
 clear hb
 have kbP0 : w8.cell? ⟨w7.heap.size, 0, none⟩ = some (.slice P0 (List.length p) Pa) := bP.cell 0
 have zkbP := bP.lt
 have kbQ0 : w8.cell? ⟨w7.heap.size + 1, 0, none⟩ = some (.slice Q0 (List.length q) Qa) := bQ.cell 0
 have zkbQ := bQ.lt
 go_wp2_with fail
 clear kbP0 zkbP
 clear kbQ0 zkbQ
 obtain ⟨V8, hV8⟩ : ∃ V, V = (w8.alloc (.cells #[.slice Y0 (List.length y.1) Ya, .slice Y1 (List.length y.2.1) Yb, .slice Y2 (List.length y.2.2.1) Yc, .int .i64 y.2.2.2.1, .int .i64 y.2.2.2.2] 34)) := ⟨_, rfl⟩
 have bV8 : Below w8.heap.size w8 V8 := by rw [hV8]; exact b_4
 have bY : Blk V8 (w8.heap.size) 34 #[.slice Y0 (List.length y.1) Ya, .slice Y1 (List.length y.2.1) Yb, .slice Y2 (List.length y.2.2.1) Yc, .int .i64 y.2.2.2.1, .int .i64 y.2.2.2.2] := by rw [hV8]; have := Blk.new w8 34 #[.slice Y0 (List.length y.1) Ya, .slice Y1 (List.length y.2.1) Yb, .slice Y2 (List.length y.2.2.1) Yc, .int .i64 y.2.2.2.1, .int .i64 y.2.2.2.2]; (try simp only [World.size_alloc] at this); exact this
 have zbY := bY.lt
 rw [← hV8]
 clear hV8
 replace r0 := Ty.rd_below bV8 r0
 replace rt := Ty.rd_below bV8 rt
 replace rx := Ty.rd_below bV8 rx
 replace bT := Blk.below bT bV8 (Blk.lt bT)
 replace bX := Blk.below bX bV8 (Blk.lt bX)
 replace rl := Ty.rd_below bV8 rl
 replace rm := Ty.rd_below bV8 rm
 replace rc := Ty.rd_below bV8 rc
 replace rn := Ty.rd_below bV8 rn
 replace bC := Blk.below bC bV8 (Blk.lt bC)
 replace bN := Blk.below bN bV8 (Blk.lt bN)
 replace ru := Ty.rd_below bV8 ru
 replace bU := Blk.below bU bV8 (Blk.lt bU)
 replace rr := Ty.rd_below bV8 rr
 replace rs := Ty.rd_below bV8 rs
 replace bR := Blk.below bR bV8 (Blk.lt bR)
 replace bS := Blk.below bS bV8 (Blk.lt bS)
 replace rk := Ty.rd_below bV8 rk
 replace rp := Ty.rd_below bV8 rp
 replace rq := Ty.rd_below bV8 rq
 replace bP := Blk.below bP bV8 (Blk.lt bP)
 replace bQ := Blk.below bQ bV8 (Blk.lt bQ)
 replace ry := Ty.rd_below bV8 ry
 replace hW := bel_trans hW bV8
 clear bV8
 refine Calls.mono (C_spec_IssueCertificate _ _ k _ p _ q till rk rp rq sbk sbp sbq htill) ?_
 rw [← HY.out, ← HM.out]
 rintro e w9 ⟨cs9, fp9, rfl, how9, -, hb⟩
 obtain ⟨Z0, Za, Z1, Zb, Z2, Zc, rfl⟩ := ow_Data how9
 have rz := Ty.ow_rd how9
 clear how9
 replace r0 := Ty.rd_below hb r0
 replace rt := Ty.rd_below hb rt
 replace rx := Ty.rd_below hb rx
 replace bT := Blk.below bT hb (Blk.lt bT)
 replace bX := Blk.below bX hb (Blk.lt bX)
 replace rl := Ty.rd_below hb rl
 replace rm := Ty.rd_below hb rm
 replace rc := Ty.rd_below hb rc
 replace rn := Ty.rd_below hb rn
 replace bC := Blk.below bC hb (Blk.lt bC)
 replace bN := Blk.below bN hb (Blk.lt bN)
 replace ru := Ty.rd_below hb ru
 replace bU := Blk.below bU hb (Blk.lt bU)
 replace rr := Ty.rd_below hb rr
 replace rs := Ty.rd_below hb rs
 replace bR := Blk.below bR hb (Blk.lt bR)
 replace bS := Blk.below bS hb (Blk.lt bS)
 replace rk := Ty.rd_below hb rk
 replace rp := Ty.rd_below hb rp
 replace rq := Ty.rd_below hb rq
 replace bP := Blk.below bP hb (Blk.lt bP)
 replace bQ := Blk.below bQ hb (Blk.lt bQ)
 replace ry := Ty.rd_below hb ry
 replace bY := Blk.below bY hb (Blk.lt bY)
 replace hW := bel_trans hW hb
 clear hb
 go_wp2_with fail
 obtain ⟨V9, hV9⟩ : ∃ V, V = (w9.alloc (.cells #[.slice Z0 (List.length y.1) Za, .slice Z1 (List.length y.2.1) Zb, .slice Z2 (List.length y.2.2.1) Zc, .int .i64 y.2.2.2.1, .int .i64 y.2.2.2.2] 34)) := ⟨_, rfl⟩
 have bV9 : Below w9.heap.size w9 V9 := by rw [hV9]; exact b_4
 have bZ : Blk V9 (w9.heap.size) 34 #[.slice Z0 (List.length y.1) Za, .slice Z1 (List.length y.2.1) Zb, .slice Z2 (List.length y.2.2.1) Zc, .int .i64 y.2.2.2.1, .int .i64 y.2.2.2.2] := by rw [hV9]; have := Blk.new w9 34 #[.slice Z0 (List.length y.1) Za, .slice Z1 (List.length y.2.1) Zb, .slice Z2 (List.length y.2.2.1) Zc, .int .i64 y.2.2.2.1, .int .i64 y.2.2.2.2]; (try simp only [World.size_alloc] at this); exact this
 have zbZ := bZ.lt
 rw [← hV9]
 clear hV9
 replace r0 := Ty.rd_below bV9 r0
 replace rt := Ty.rd_below bV9 rt
 replace rx := Ty.rd_below bV9 rx
 replace bT := Blk.below bT bV9 (Blk.lt bT)
 replace bX := Blk.below bX bV9 (Blk.lt bX)
 replace rl := Ty.rd_below bV9 rl
 replace rm := Ty.rd_below bV9 rm
 replace rc := Ty.rd_below bV9 rc
 replace rn := Ty.rd_below bV9 rn
 replace bC := Blk.below bC bV9 (Blk.lt bC)
 replace bN := Blk.below bN bV9 (Blk.lt bN)
 replace ru := Ty.rd_below bV9 ru
 replace bU := Blk.below bU bV9 (Blk.lt bU)
 replace rr := Ty.rd_below bV9 rr
 replace rs := Ty.rd_below bV9 rs
 replace bR := Blk.below bR bV9 (Blk.lt bR)
 replace bS := Blk.below bS bV9 (Blk.lt bS)
 replace rk := Ty.rd_below bV9 rk
 replace rp := Ty.rd_below bV9 rp
 replace rq := Ty.rd_below bV9 rq
 replace bP := Blk.below bP bV9 (Blk.lt bP)
 replace bQ := Blk.below bQ bV9 (Blk.lt bQ)
 replace ry := Ty.rd_below bV9 ry
 replace bY := Blk.below bY bV9 (Blk.lt bY)
 replace rz := Ty.rd_below bV9 rz
 replace hW := bel_trans hW bV9
 clear bV9
 have HC : Hid (∀ V, Below V9.heap.size V9 V → V.cell? ⟨w1.heap.size, 0, none⟩ = some (.slice T1 (List.length t.1) Ta) ∧ V.cell? ⟨w1.heap.size, 1, none⟩ = some (.slice T2 (List.length t.2.1) Tb) ∧ V.cell? ⟨w1.heap.size, 2, none⟩ = some (.slice T3 (List.length t.2.2.1) Tc) ∧ V.cell? ⟨w1.heap.size, 3, none⟩ = some (.slice T4 (List.length t.2.2.2) Td) ∧ V.cell? ⟨w1.heap.size + 1, 0, none⟩ = some (.slice X0 (List.length x.1) Xa) ∧ V.cell? ⟨w1.heap.size + 1, 1, none⟩ = some (.slice X1 (List.length x.2.1) Xb) ∧ V.cell? ⟨w1.heap.size + 1, 2, none⟩ = some (.slice X2 (List.length x.2.2.1) Xc) ∧ V.cell? ⟨w1.heap.size + 1, 3, none⟩ = some (.int .i64 x.2.2.2.1) ∧ V.cell? ⟨w1.heap.size + 1, 4, none⟩ = some (.int .i64 x.2.2.2.2) ∧ V.cell? ⟨w4.heap.size, 0, none⟩ = some (.slice C1 (List.length c.1) Ca) ∧ V.cell? ⟨w4.heap.size, 1, none⟩ = some (.slice C2 (List.length c.2.1) Cb) ∧ V.cell? ⟨w4.heap.size, 2, none⟩ = some (.slice C3 (List.length c.2.2.1) Cc) ∧ V.cell? ⟨w4.heap.size, 3, none⟩ = some (.slice C4 (List.length c.2.2.2) Cd) ∧ V.cell? ⟨w4.heap.size + 1, 0, none⟩ = some (.slice N0 (List.length n) Na) ∧ V.cell? ⟨w5.heap.size, 0, none⟩ = some (.slice U1 (List.length u.1) Ua) ∧ V.cell? ⟨w5.heap.size, 1, none⟩ = some (.slice U2 (List.length u.2.1) Ub) ∧ V.cell? ⟨w5.heap.size, 2, none⟩ = some (.slice U3 (List.length u.2.2.1) Uc) ∧ V.cell? ⟨w5.heap.size, 3, none⟩ = some (.slice U4 (List.length u.2.2.2) Ud) ∧ V.cell? ⟨w6.heap.size, 0, none⟩ = some (.slice R1 (List.length r.1) Ra) ∧ V.cell? ⟨w6.heap.size, 1, none⟩ = some (.slice R2 (List.length r.2.1) Rb) ∧ V.cell? ⟨w6.heap.size, 2, none⟩ = some (.slice R3 (List.length r.2.2.1) Rc) ∧ V.cell? ⟨w6.heap.size, 3, none⟩ = some (.slice R4 (List.length r.2.2.2) Rd) ∧ V.cell? ⟨w6.heap.size + 1, 0, none⟩ = some (.slice S0 (List.length s) Sa) ∧ V.cell? ⟨w7.heap.size, 0, none⟩ = some (.slice P0 (List.length p) Pa) ∧ V.cell? ⟨w8.heap.size, 0, none⟩ = some (.slice Y0 (List.length y.1) Ya) ∧ V.cell? ⟨w8.heap.size, 1, none⟩ = some (.slice Y1 (List.length y.2.1) Yb) ∧ V.cell? ⟨w8.heap.size, 2, none⟩ = some (.slice Y2 (List.length y.2.2.1) Yc) ∧ V.cell? ⟨w8.heap.size, 3, none⟩ = some (.int .i64 y.2.2.2.1) ∧ V.cell? ⟨w8.heap.size, 4, none⟩ = some (.int .i64 y.2.2.2.2) ∧ V.cell? ⟨w9.heap.size, 0, none⟩ = some (.slice Z0 (List.length y.1) Za) ∧ V.cell? ⟨w9.heap.size, 1, none⟩ = some (.slice Z1 (List.length y.2.1) Zb) ∧ V.cell? ⟨w9.heap.size, 2, none⟩ = some (.slice Z2 (List.length y.2.2.1) Zc) ∧ V.cell? ⟨w9.heap.size, 3, none⟩ = some (.int .i64 y.2.2.2.1) ∧ V.cell? ⟨w9.heap.size, 4, none⟩ = some (.int .i64 y.2.2.2.2)) := fun V hV => ⟨(bT.below hV bT.lt).cell 0, (bT.below hV bT.lt).cell 1, (bT.below hV bT.lt).cell 2, (bT.below hV bT.lt).cell 3, (bX.below hV bX.lt).cell 0, (bX.below hV bX.lt).cell 1, (bX.below hV bX.lt).cell 2, (bX.below hV bX.lt).cell 3, (bX.below hV bX.lt).cell 4, (bC.below hV bC.lt).cell 0, (bC.below hV bC.lt).cell 1, (bC.below hV bC.lt).cell 2, (bC.below hV bC.lt).cell 3, (bN.below hV bN.lt).cell 0, (bU.below hV bU.lt).cell 0, (bU.below hV bU.lt).cell 1, (bU.below hV bU.lt).cell 2, (bU.below hV bU.lt).cell 3, (bR.below hV bR.lt).cell 0, (bR.below hV bR.lt).cell 1, (bR.below hV bR.lt).cell 2, (bR.below hV bR.lt).cell 3, (bS.below hV bS.lt).cell 0, (bP.below hV bP.lt).cell 0, (bY.below hV bY.lt).cell 0, (bY.below hV bY.lt).cell 1, (bY.below hV bY.lt).cell 2, (bY.below hV bY.lt).cell 3, (bY.below hV bY.lt).cell 4, (bZ.below hV bZ.lt).cell 0, (bZ.below hV bZ.lt).cell 1, (bZ.below hV bZ.lt).cell 2, (bZ.below hV bZ.lt).cell 3, (bZ.below hV bZ.lt).cell 4⟩
 refine wp_region_noPanic ?_
 refine wp_region_held_drew (S := (fun V => V.cell? ⟨w1.heap.size, 0, none⟩ = some (.slice T1 (List.length t.1) Ta) ∧ V.cell? ⟨w1.heap.size, 1, none⟩ = some (.slice T2 (List.length t.2.1) Tb) ∧ V.cell? ⟨w1.heap.size, 2, none⟩ = some (.slice T3 (List.length t.2.2.1) Tc) ∧ V.cell? ⟨w1.heap.size, 3, none⟩ = some (.slice T4 (List.length t.2.2.2) Td) ∧ V.cell? ⟨w1.heap.size + 1, 0, none⟩ = some (.slice X0 (List.length x.1) Xa) ∧ V.cell? ⟨w1.heap.size + 1, 1, none⟩ = some (.slice X1 (List.length x.2.1) Xb) ∧ V.cell? ⟨w1.heap.size + 1, 2, none⟩ = some (.slice X2 (List.length x.2.2.1) Xc) ∧ V.cell? ⟨w1.heap.size + 1, 3, none⟩ = some (.int .i64 x.2.2.2.1) ∧ V.cell? ⟨w1.heap.size + 1, 4, none⟩ = some (.int .i64 x.2.2.2.2) ∧ V.cell? ⟨w4.heap.size, 0, none⟩ = some (.slice C1 (List.length c.1) Ca) ∧ V.cell? ⟨w4.heap.size, 1, none⟩ = some (.slice C2 (List.length c.2.1) Cb) ∧ V.cell? ⟨w4.heap.size, 2, none⟩ = some (.slice C3 (List.length c.2.2.1) Cc) ∧ V.cell? ⟨w4.heap.size, 3, none⟩ = some (.slice C4 (List.length c.2.2.2) Cd) ∧ V.cell? ⟨w4.heap.size + 1, 0, none⟩ = some (.slice N0 (List.length n) Na) ∧ V.cell? ⟨w5.heap.size, 0, none⟩ = some (.slice U1 (List.length u.1) Ua) ∧ V.cell? ⟨w5.heap.size, 1, none⟩ = some (.slice U2 (List.length u.2.1) Ub) ∧ V.cell? ⟨w5.heap.size, 2, none⟩ = some (.slice U3 (List.length u.2.2.1) Uc) ∧ V.cell? ⟨w5.heap.size, 3, none⟩ = some (.slice U4 (List.length u.2.2.2) Ud) ∧ V.cell? ⟨w6.heap.size, 0, none⟩ = some (.slice R1 (List.length r.1) Ra) ∧ V.cell? ⟨w6.heap.size, 1, none⟩ = some (.slice R2 (List.length r.2.1) Rb) ∧ V.cell? ⟨w6.heap.size, 2, none⟩ = some (.slice R3 (List.length r.2.2.1) Rc) ∧ V.cell? ⟨w6.heap.size, 3, none⟩ = some (.slice R4 (List.length r.2.2.2) Rd) ∧ V.cell? ⟨w6.heap.size + 1, 0, none⟩ = some (.slice S0 (List.length s) Sa) ∧ V.cell? ⟨w7.heap.size, 0, none⟩ = some (.slice P0 (List.length p) Pa) ∧ V.cell? ⟨w8.heap.size, 0, none⟩ = some (.slice Y0 (List.length y.1) Ya) ∧ V.cell? ⟨w8.heap.size, 1, none⟩ = some (.slice Y1 (List.length y.2.1) Yb) ∧ V.cell? ⟨w8.heap.size, 2, none⟩ = some (.slice Y2 (List.length y.2.2.1) Yc) ∧ V.cell? ⟨w8.heap.size, 3, none⟩ = some (.int .i64 y.2.2.2.1) ∧ V.cell? ⟨w8.heap.size, 4, none⟩ = some (.int .i64 y.2.2.2.2) ∧ V.cell? ⟨w9.heap.size, 0, none⟩ = some (.slice Z0 (List.length y.1) Za) ∧ V.cell? ⟨w9.heap.size, 1, none⟩ = some (.slice Z1 (List.length y.2.1) Zb) ∧ V.cell? ⟨w9.heap.size, 2, none⟩ = some (.slice Z2 (List.length y.2.2.1) Zc) ∧ V.cell? ⟨w9.heap.size, 3, none⟩ = some (.int .i64 y.2.2.2.1) ∧ V.cell? ⟨w9.heap.size, 4, none⟩ = some (.int .i64 y.2.2.2.2))) b_35 ?_ (fun hHeld => ?_)
 ·exact HC.out _ b_4
 refine tkz2 0 1 ?_
 try simp only [layz]
 refine rz1 2 (fun K hK => ?_)
 go_simp
 go_at_call 16
 refine Calls.mono (C_laws_sameNames _ _ _ l (Ty.rd_below b_4 rl) (Ty.rd_below b_4 rm)) ?_
 rintro e u2 ⟨rfl, hu2⟩
 refine hK.out _ _ (HC.out _ b_4) (fun hHeld => ?_)
 clear hK K
 try simp only [layz]
 refine tkz4 3 4 5 6 ?_
 try simp only [layz]
 refine tkz4 7 8 9 10 ?_
 try simp only [layz]
 refine tkz4 11 12 14 15 ?_
 try simp only [layz]
 refine tkz 16 ?_
 try simp only [layz]
 refine rz1 13 (fun K hK => ?_)
 go_simp
 go_at_call 17
 refine Calls.mono (C_impl_IsTrusted _ _ t _ x now (Ty.rd_below b_4 rt) (Ty.rd_below b_4 rx) sbt sbx hnow) ?_
 rintro e u13 ⟨rfl, hu13⟩
 refine hK.out _ _ (HC.out _ b_4) (fun hHeld => ?_)
 clear hK K
 try simp only [layz]
 refine rz1 17 (fun K hK => ?_)
 go_simp
 go_at_call 18
 refine Calls.mono (C_spec_IsTrusted _ _ t _ x now (Ty.rd_below b_4 rt) (Ty.rd_below b_4 rx) sbt sbx hnow) ?_
 rintro e u17 ⟨rfl, hu17⟩
 refine hK.out _ _ (HC.out _ b_4) (fun hHeld => ?_)
 clear hK K
 try simp only [layz]
 refine tkz4 18 19 20 21 ?_
 try simp only [layz]
 refine tkz4 22 23 25 26 ?_
 try simp only [layz]
 refine tkz 27 ?_
 try simp only [layz]
 refine rz1 24 (fun K hK => ?_)
 go_simp
 go_at_call 19
 refine Calls.mono (C_impl_FindCertificate _ _ c _ n when (Ty.rd_below b_4 rc) (Ty.rd_below b_4 rn) sbc sbn hwhen) ?_
 rintro e u24 ⟨rfl, hu24⟩
 refine hK.out _ _ (HC.out _ b_4) (fun hHeld => ?_)
 clear hK K
 try simp only [layz]
 refine rz1 28 (fun K hK => ?_)
 go_simp
 go_at_call 20
 refine Calls.mono (C_spec_FindCertificate _ _ c _ n when (Ty.rd_below b_4 rc) (Ty.rd_below b_4 rn) sbc sbn hwhen) ?_
 rintro e u28 ⟨rfl, hu28⟩
 refine hK.out _ _ (HC.out _ b_4) (fun hHeld => ?_)
 clear hK K
 try simp only [layz]
 refine tkz4 29 30 31 32 ?_
 try simp only [layz]
 refine tkz 34 ?_
 try simp only [layz]
 refine rz1 33 (fun K hK => ?_)
 go_simp
 go_at_call 21
 refine Calls.mono (C_impl_ValidTrust _ _ u (Ty.rd_below b_4 ru) sbu) ?_
 rintro e u33 ⟨rfl, hu33⟩
 refine hK.out _ _ (HC.out _ b_4) (fun hHeld => ?_)
 clear hK K
 try simp only [layz]
 refine rz1 35 (fun K hK => ?_)
 go_simp
 go_at_call 22
 refine Calls.mono (C_spec_ValidTrust _ _ u (Ty.rd_below b_4 ru) sbu) ?_
 rintro e u35 ⟨rfl, hu35⟩
 refine hK.out _ _ (HC.out _ b_4) (fun hHeld => ?_)
 clear hK K
 try simp only [layz]
 refine tkz4 36 37 38 39 ?_
 try simp only [layz]
 refine tkz3 40 42 43 ?_
 try simp only [layz]
 refine rz1 41 (fun K hK => ?_)
 go_simp
 go_at_call 23
 refine Calls.mono (C_impl_IsAnchor _ _ r _ s (Ty.rd_below b_4 rr) (Ty.rd_below b_4 rs) sbr sbs) ?_
 rintro e u41 ⟨rfl, hu41⟩
 refine hK.out _ _ (HC.out _ b_4) (fun hHeld => ?_)
 clear hK K
 try simp only [layz]
 refine rz1 44 (fun K hK => ?_)
 go_simp
 go_at_call 24
 refine Calls.mono (C_spec_IsAnchor _ _ r _ s (Ty.rd_below b_4 rr) (Ty.rd_below b_4 rs) sbr sbs) ?_
 rintro e u44 ⟨rfl, hu44⟩
 refine hK.out _ _ (HC.out _ b_4) (fun hHeld => ?_)
 clear hK K
 try simp only [layz]
 refine tkz4 45 46 47 48 ?_
 try simp only [layz]
 refine tkz 49 ?_
 try simp only [layz]
 refine rz1 50 (fun K hK => ?_)
 go_simp
 go_at_call 25
 refine Calls.mono (C_laws_sameThingG _ _ y _ y (Ty.rd_below b_4 ry) (Ty.rd_below b_4 rz) sby.out sby.out) ?_
 rw [eqData_self]
 rintro e u50 ⟨rfl, hu50⟩
 refine hK.out _ _ (HC.out _ b_4) (fun hHeld => ?_)
 clear hK K
 try simp only [layz]
 refine tkz4 51 52 53 54 ?_
 try simp only [layz]
 refine tkz4 55 56 57 58 ?_
 try simp only [layz]
 refine tkz4 59 60 62 63 ?_
 try simp only [layz]
 refine rz1 61 (fun K hK => ?_)
 go_simp
 go_at_call 27
 refine Calls.mono (C_impl_KeyDigest _ _ k _ p (Ty.rd_below b_4 rk) (Ty.rd_below b_4 rp) sbk sbp) ?_
 rintro e u61 ⟨D1, d1, g61, rfl, how61, -, hu61⟩
 have r61 := Ty.ow_rd how61
 clear how61
 refine hK.out _ _ (HC.out _ b_4) (fun hHeld => ?_)
 clear hK K
 try simp only [layz]
 refine rz1 64 (fun K hK => ?_)
 go_simp
 go_at_call 28
 refine Calls.mono (C_spec_KeyDigest _ _ k _ p (Ty.rd_below b_4 rk) (Ty.rd_below b_4 rp) sbk sbp) ?_
 rintro e u64 ⟨D2, d2, g64, rfl, how64, -, hu64⟩
 have r64 := Ty.ow_rd how64
 clear how64
 refine hK.out _ _ (HC.out _ b_4) (fun hHeld => ?_)
 clear hK K
 try simp only [layz]
 refine rz1 65 (fun K hK => ?_)
 go_simp
 go_at_call 26
 refine Calls.mono (C_laws_sameG _ _ _ _ _ (Ty.rd_below b_4 r61) (Ty.rd_below b_4 r64)) ?_
 rw [decide_self]
 rintro e u65 ⟨rfl, hu65⟩
 refine hK.out _ _ (HC.out _ b_4) (fun hHeld => ?_)
 clear hK K
 try simp only [layz]
 refine tkz2 66 67 ?_
 try simp only [layz]
 refine wpAnyH_done b_35 ?_ _
 refine NoPanic.normal ?_
 have hU : Below V9.heap.size V9 u65 := b_4
 replace hW := bel_trans hW hU
 replace rt := Ty.rd_below hU rt
 replace rx := Ty.rd_below hU rx
 replace rl := Ty.rd_below hU rl
 replace bT := Blk.below bT hU (Blk.lt bT)
 replace bX := Blk.below bX hU (Blk.lt bX)
 cases ok with
 | false =>
  obtain ⟨hl0, hit⟩ := HCN.out (by first | rfl | trivial)
  replace hit := Lib.hid hit
  clear HL HK HCN HCY
  subst hl0
  obtain ⟨kbT0, kbT1, kbT2, kbT3, -, -, -, -, -⟩ := bk4 bT
  have zkbT := bT.lt
  obtain ⟨kbX0, kbX1, kbX2, kbX3, kbX4, -, -, -, -, -, -⟩ := bk5 bX
  have zkbX := bX.lt
  go_wp2_with fail
  refine Calls.mono (C_impl_IsTrusted _ _ t _ x now rt rx sbt sbx hnow) ?_
  rw [hit.out]
  rintro e t1 ⟨rfl, hb⟩
  go_wp2
  go_ret
  exact ⟨rfl, bel_trans hW hb⟩
 | true =>
  obtain ⟨d, m, a, e1, e2, hanc, hlen, hver, hall⟩ := HCY.out (by first | rfl | trivial)
  obtain ⟨g, hg⟩ : ∃ g : Nat, List.length l = g + 1 := ⟨m.length, by rw [e2]; simp⟩
  have hg4 : g ≤ 3 := by rw [e1] at hg; simp only [List.length_cons] at hg; omega
  have hf0 : ∀ h : 0 < l.length, l[0] = x.2.2.1 := fun h => by simp only [e1, List.getElem_cons_zero]
  have hfl : ∀ h : g < l.length, l[g] = a := fun h => last_at e2 hg h
  clear HL HK HCN HCY e1 e2 hlen
  replace hf0 := Lib.hid hf0
  replace hfl := Lib.hid hfl
  replace hanc := Lib.hid hanc
  replace hver := Lib.hid hver
  replace hall := Lib.hid hall
  obtain ⟨b1, o1, ds1, rfl, hl1, hcell1, hrd1⟩ := Ty.rd_at rl (k := 0) b_37
  have hrn := hrd1
  obtain ⟨Aa, ca, rfl⟩ := Ty.rd_slv hrd1
  rw [hf0.out b_37] at hrn hcell1
  have e0 : u65.cell? ⟨b1, o1, none⟩ = some (.slice Aa (List.length x.2.2.1) ca) := by simpa [Ty.sz] using hcell1 0 b_36
  clear hcell1 hl1 hrd1
  obtain ⟨b2, o2, ds2, hAd, hl2, hcell2, hrd2⟩ := Ty.rd_at rl (k := g) b_37
  have hra := hrd2
  obtain ⟨Ab, cb, rfl⟩ := Ty.rd_slv hrd2
  rw [hfl.out b_37] at hra hcell2
  obtain ⟨rfl, rfl⟩ : b1 = b2 ∧ o1 = o2 := by simpa using hAd
  have f0 : u65.cell? ⟨b1, o1 + g, none⟩ = some (.slice Ab (List.length a) cb) := by simpa [Ty.sz] using hcell2 0 b_36
  clear hcell2 hl2 hAd hrd2
  have zz1 : b1 < u65.heap.size := World.block_lt_of_cell? _ _ e0
  have gg1 : (1 : Int) ≤ (g : Int) + 1 := by omega
  have gg4 : (g : Int) + 1 ≤ 4 := by omega
  have gg0 : (0 : Int) < (g : Int) + 1 := by omega
  have ggg : (g : Int) < (g : Int) + 1 := by omega
  have gg5 : (0 : Int) ≤ (g : Int) := by omega
  have ggw : IntKind.i64.wrap (g : Int) = (g : Int) := IntWalk.i64_in _ b_37
  have sba : Ty.bulk (.sl .str) a ≤ 1048576 := anchor_bulk sbt hanc.out
  obtain ⟨sbt1, sbt2, -, -⟩ := trust_parts sbt
  obtain ⟨sbx1, sbx2⟩ := data_bulk_key sbx
  have rt4 := rd_TrustPolicy rt
  obtain ⟨_, _, _, _, _, _, _, _, heq, rt1, rt2, -⟩ := rt4
  simp only [List.cons.injEq, Value.slice.injEq, and_true, true_and] at heq
  obtain ⟨⟨rfl, rfl⟩, ⟨rfl, rfl⟩, ⟨rfl, rfl⟩, ⟨rfl, rfl⟩⟩ := heq
  obtain ⟨_, _, _, _, _, _, heq, rx1, -, rx2, -⟩ := rd_Data rx
  simp only [List.cons.injEq, Value.slice.injEq, and_true, true_and] at heq
  obtain ⟨⟨rfl, rfl⟩, ⟨rfl, rfl⟩, ⟨rfl, rfl⟩⟩ := heq
  simp only [hg]
  have HC2 : Hid (∀ V, Below u65.heap.size u65 V → V.cell? ⟨w1.heap.size, 0, none⟩ = some (.slice T1 (List.length t.1) Ta) ∧ V.cell? ⟨w1.heap.size, 1, none⟩ = some (.slice T2 (List.length t.2.1) Tb) ∧ V.cell? ⟨w1.heap.size, 2, none⟩ = some (.slice T3 (List.length t.2.2.1) Tc) ∧ V.cell? ⟨w1.heap.size, 3, none⟩ = some (.slice T4 (List.length t.2.2.2) Td) ∧ V.cell? ⟨w1.heap.size + 1, 0, none⟩ = some (.slice X0 (List.length x.1) Xa) ∧ V.cell? ⟨w1.heap.size + 1, 1, none⟩ = some (.slice X1 (List.length x.2.1) Xb) ∧ V.cell? ⟨w1.heap.size + 1, 2, none⟩ = some (.slice X2 (List.length x.2.2.1) Xc) ∧ V.cell? ⟨w1.heap.size + 1, 3, none⟩ = some (.int .i64 x.2.2.2.1) ∧ V.cell? ⟨w1.heap.size + 1, 4, none⟩ = some (.int .i64 x.2.2.2.2) ∧ V.cell? ⟨b1, o1, none⟩ = some (.slice Aa (List.length x.2.2.1) ca) ∧ V.cell? ⟨b1, o1 + g, none⟩ = some (.slice Ab (List.length a) cb)) := fun V hV => ⟨(bT.below hV bT.lt).cell 0, (bT.below hV bT.lt).cell 1, (bT.below hV bT.lt).cell 2, (bT.below hV bT.lt).cell 3, (bX.below hV bX.lt).cell 0, (bX.below hV bX.lt).cell 1, (bX.below hV bX.lt).cell 2, (bX.below hV bX.lt).cell 3, (bX.below hV bX.lt).cell 4, (hV.cell (p := ⟨b1, _, none⟩) zz1).trans e0, (hV.cell (p := ⟨b1, _, none⟩) zz1).trans f0⟩
  go_wp2_with fail
  refine wp_region_noPanic ?_
  refine wp_region_held_drew (S := (fun V => V.cell? ⟨w1.heap.size, 0, none⟩ = some (.slice T1 (List.length t.1) Ta) ∧ V.cell? ⟨w1.heap.size, 1, none⟩ = some (.slice T2 (List.length t.2.1) Tb) ∧ V.cell? ⟨w1.heap.size, 2, none⟩ = some (.slice T3 (List.length t.2.2.1) Tc) ∧ V.cell? ⟨w1.heap.size, 3, none⟩ = some (.slice T4 (List.length t.2.2.2) Td) ∧ V.cell? ⟨w1.heap.size + 1, 0, none⟩ = some (.slice X0 (List.length x.1) Xa) ∧ V.cell? ⟨w1.heap.size + 1, 1, none⟩ = some (.slice X1 (List.length x.2.1) Xb) ∧ V.cell? ⟨w1.heap.size + 1, 2, none⟩ = some (.slice X2 (List.length x.2.2.1) Xc) ∧ V.cell? ⟨w1.heap.size + 1, 3, none⟩ = some (.int .i64 x.2.2.2.1) ∧ V.cell? ⟨w1.heap.size + 1, 4, none⟩ = some (.int .i64 x.2.2.2.2) ∧ V.cell? ⟨b1, o1, none⟩ = some (.slice Aa (List.length x.2.2.1) ca) ∧ V.cell? ⟨b1, o1 + g, none⟩ = some (.slice Ab (List.length a) cb))) b_35 ?_ (fun hHeld => ?_)
  ·exact HC2.out _ b_4
  refine tkz4 0 1 2 3 ?_
  try simp only [layz]
  refine tkz4 4 5 6 7 ?_
  try simp only [layz]
  refine tkz4 8 9 12 10 ?_
  try simp only [layz]
  refine tkz2 13 11 ?_
  try simp only [layz]
  refine rz1 14 (fun K hK => ?_)
  go_simp
  go_at_call 29
  refine Calls.mono (C_laws_sameNameG _ _ _ x.2.2.1 x.2.2.1 (Ty.rd_below b_4 hrn) (Ty.rd_below b_4 rx2)) ?_
  rw [decide_self]
  rintro e t14 ⟨rfl, ht14⟩
  refine hK.out _ _ (HC2.out _ b_4) (fun hHeld => ?_)
  clear hK K
  try simp only [layz]
  refine tkz4 15 16 17 18 ?_
  try simp only [layz]
  refine tkz4 19 20 21 22 ?_
  try simp only [layz]
  refine tkz 23 ?_
  try simp only [layz]
  refine rz1 24 (fun K hK => ?_)
  go_simp
  go_at_call 23
  refine Calls.mono (C_impl_IsAnchor _ _ t _ a (Ty.rd_below b_4 rt) (Ty.rd_below b_4 hra) sbt sba) ?_
  rw [hanc.out]
  rintro e t24 ⟨rfl, ht24⟩
  refine hK.out _ _ (HC2.out _ b_4) (fun hHeld => ?_)
  clear hK K
  try simp only [layz]
  refine tkz4 25 26 27 29 ?_
  try simp only [layz]
  refine tkz4 31 28 30 32 ?_
  try simp only [layz]
  refine rz1 33 (fun K hK => ?_)
  go_simp
  go_at_call 30
  refine Calls.mono (C_impl_Allowed _ _ t.2.1 _ x.1 _ x.2.2.1 (Ty.rd_below b_4 rt2) (Ty.rd_below b_4 rx1) (Ty.rd_below b_4 rx2) sbt2 sbx1 sbx2) ?_
  rw [hall.out]
  rintro e t33 ⟨rfl, ht33⟩
  refine hK.out _ _ (HC2.out _ b_4) (fun hHeld => ?_)
  clear hK K
  try simp only [layz]
  refine tkz4 34 35 36 38 ?_
  try simp only [layz]
  refine tkz 37 ?_
  try simp only [layz]
  refine rz1 39 (fun K hK => ?_)
  go_simp
  go_at_call 31
  refine Calls.mono (C_impl_VerifySignature _ _ t.1 _ x (Ty.rd_below b_4 rt1) (Ty.rd_below b_4 rx) sbt1 sbx) ?_
  rw [hver.out]
  rintro e t39 ⟨rfl, ht39⟩
  refine hK.out _ _ (HC2.out _ b_4) (fun hHeld => ?_)
  clear hK K
  try simp only [layz]
  refine tkz2 40 41 ?_
  try simp only [layz]
  refine wpAnyH_done b_35 ?_ _
  refine NoPanic.normal ?_
  have hT : Below u65.heap.size u65 t39 := b_4
  go_wp2
  go_ret
  exact ⟨rfl, bel_trans hW hT⟩
end Go.Proofs.YtldgbnlcnlfmeaaGreat
/- Proved here: the given statement FnTrustsSaid: chains of trust end at an anchor, are four keys long at most, and both ways of trusting agree; the law returns true for all inputs. Conditions: none. -/
namespace Go.Proofs.YtldgbnlcnlfmeaaGreat.clFnTrusts
open Go.ChangeShapes Go.WideShapes Go.ChangeAt Go.RowKit
set_option linter.unusedVariables false
theorem own : ownKnob Tryz.prog.godebug = none := by kernel_rfl
theorem laidOut : laidOutB Tryz.prog = true := by kernel_rfl
section
variable {H : Type} {enc : TypeId × Value → H} {w : World} {base : Nat} {spare : Nat → Bool} {held : Bool}
theorem o_byte : Opens enc Tryz.prog w base spare held 5 .byte := opens_byte Tryz.underlying5
theorem o_ByteS : Opens enc Tryz.prog w base spare held 22 (.sl .byte) := opens_sl Tryz.underlying22 b_35 b_36 o_byte
end
set_option maxRecDepth 100000 in
theorem lifted (os : Os) (started : os.Started) (H : Type) (enc : TypeId × Value → H) :
  ReturnsInHanded {} Tryz.checked os 3 .any (Rows.fnTrustsSpec.pre6 enc Tryz.prog Tryz.f3 Rows.fnTrustsRow.domain false) (Rows.fnTrustsSpec.post enc Tryz.prog Tryz.f3 false true false false) := by
 refine returnsInHanded_of_change (C := Tryz.checked) own started b_35 Tryz.func3
  (ChangeSpec.witness6 (enc := enc) (C := Tryz.checked) false ⟨#[], #[.slice none 0 0], []⟩ 8 b_35 b_35 b_35 b_35) ?_
 intro W base args ds gs before hval0 hW hcnd _
 have hval : ∀ (j : Nat) t v, Tryz.f3.params[j]? = some t → args[j]? = some v → Value.okWide Tryz.prog W .any base t v := hval0
 have hW' := hW
 obtain ⟨p, q, hA0, hV, rfl, hfz, hnd⟩ := hW
 have hA : DataW.TrodAll enc Tryz.prog W 0 (fun _ => true) true Tryz.f3.params.toList args.toList ds p := hA0
 rw [Tryz.params3] at hA hval
 obtain ⟨v0, vs0, d0, ds0, p0, q0, hargs, rfl, rfl, h0, r0⟩ := trodAll_cons hA
 obtain ⟨rfl, rfl, rfl⟩ := trodAll_nil r0
 obtain rfl : args = #[v0] := by cases args; simp_all
 obtain ⟨rfl, rfl⟩ := trodVars_none hV
 have k0 := h0
 have lt0 : ∀ x ∈ p0, x.block < W.heap.size := by obtain ⟨m, hm⟩ := k0; exact DataW.trod_lt m _ _ _ hm
 obtain ⟨A0, n0, c0, rfl⟩ := okWide_slice Tryz.underlying22 (hval 0 22 v0 rfl rfl)
 obtain ⟨f0, g0⟩ := h0
 obtain ⟨x0, xh0⟩ := o_ByteS _ _ _ g0
 clear hA0 hval0
 refine (L_FnTrusts W _ x0 xh0).mono fun e W' ⟨he, bel⟩ => ?_
 subst he
 exact ⟨_, rfl, _, _, _, [], _, [], hW', trodAll_mk1 (shut_bool Tryz.underlying4 _), (trodAll_cons_mk (Below.trod laidOut b_35 (of_decide_eq_true b_35) k0 bel lt0) trodAll_mk0), rfl, bel.frame _, fun h => by cases h⟩
theorem proved : Rows.FnTrustsSaid :=
 OpenClaim.holds_of_wide 3 Tryz.f3 rfl rfl rfl rfl rfl rfl rfl ⟨rfl, rfl, rfl, rfl, rfl⟩ rfl rfl rfl rfl rfl b_35 Tryz.func3 b_35
  (of_decide_eq_true b_35) (by unfold Func.isWrapper; first | (rw [if_pos (by decide +kernel)]; kernel_rfl) | (rw [if_neg (by decide +kernel)]; exact ⟨rfl, rfl⟩))
  (fun os started H enc _ => lifted os started H enc)
end Go.Proofs.YtldgbnlcnlfmeaaGreat.clFnTrusts
