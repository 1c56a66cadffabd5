/- Texts of this claim, merged by a program: LFnWants. -/
import Derived.Test.YtidnahocnhcoiaaDoorQwP
import Derived.Test.YtidnahocnhcoiaaDoorQw8
import Derived.Test.YtidnahocnhcoiaaDoorQw9
import Derived.Test.YtidnahocnhcoiaaDoorQw10
import Derived.Deep.RegionHeld3
import Derived.Deep.DeepCutAuto
namespace Go.Proofs.YtidnahocnhcoiaaDoor
open Go.RowKit
set_option linter.unusedVariables false
set_option linter.unusedSimpArgs false
theorem decide_self3 {α : Type} [DecidableEq α] (x : α) : decide (x = x) = true := by simp
theorem wdecode_bulk (b : List UInt8) : Ty.bulk tInterest (f0_DecodeInterest b) ≤ 1048576 := by
 unfold f0_DecodeInterest
 cases h : decodeInterest b with
 | none => exact Nat.zero_le _
 | some x =>
  have h1 := (validWant_parts (wencode_decode h).1).1
  exact interest_bulk (n := x.1) (l0 := x.2.1) (l1 := x.2.2.1) (l2 := x.2.2.2) h1
theorem dec_wr {a o : Int} (h : -9223372036854775808 ≤ a ∧ a ≤ 9223372036854775807) (h1 : o = a - 1) (h2 : 0 ≤ o) : -9223372036854775808 ≤ a - 1 ∧ a - 1 ≤ 9223372036854775807 := by omega
theorem readName_pos {b : List UInt8} {a : Int} {r : List (List UInt8) × Nat} (h : readName b a = some r) : 0 ≤ a := by
 unfold readName readVarint at h
 by_cases ha : a < 0
 ·rw [if_pos ha] at h; cases h
 ·omega
theorem wname_all {b : List UInt8} {a : Int} (h : f2_ReadName b a = true) : f_AppendName (b.take a.toNat) (f0_ReadName b a) = b.take (f1_ReadName b a).toNat ∧ 0 ≤ a ∧ a < f1_ReadName b a ∧ f1_ReadName b a ≤ (b.length : Int) := by
 refine ⟨wname_back h, ?_⟩
 unfold f2_ReadName at h
 unfold f1_ReadName
 cases q : readName b a with
 | none => rw [q] at h; cases h
 | some r => have := readName_bd q; have hp := readName_pos q; rw [show rn1 (some r) = (r.2 : Int) from rfl]; omega
theorem dec_left {x : tInterest.D} (h : f1_DecrementHops x = true) : (f0_DecrementHops x).2.2.1 = x.2.2.1 - 1 ∧ 0 ≤ (f0_DecrementHops x).2.2.1 := by
 have h1 : (1 : Int) ≤ x.2.2.1 := of_decide_eq_true h
 have e : (f0_DecrementHops x).2.2.1 = x.2.2.1 - 1 := by unfold f0_DecrementHops; rw [h]; rfl
 exact ⟨e, by rw [e]; exact Int.sub_nonneg_of_le h1⟩
set_option maxRecDepth 100000 in
set_option maxHeartbeats 8000000 in
theorem L_FnWants (w : World) (v0 : Value) (x0 : Ty.D (.sl .byte)) (h0 : Ty.rd w (.sl .byte) [v0] x0) (ht : TabI w) :
  Calls Tryd.prog 3 #[v0] w (RetB w true) := by
 obtain ⟨A0, c0, rfl, hc0, hm0, hn0⟩ := Ty.rd_sl h0
 go_enter Tryd.func3, Tryd.ntmps3
 go_wp2_with fail
 refine (C_laws_bigG _ _ _ _).mono ?_
 rintro e w1 ⟨rfl, hw1⟩
 obtain rfl : w = w1 := hw1.symm
 by_cases hbig : (x0.length : Int) > 1048576
 ·go_wp2
  go_ret
  exact ⟨rfl, b_3⟩
 go_wp2_with fail
 refine Calls.mono (C_spec_DrawEncodeInterest _ _ x0 (Ty.rd_below b_3 h0)) ?_
 rintro e w1 ⟨⟨csx, x, rfl, rx, hokx⟩, hb⟩
 obtain ⟨X0, Xa, rfl, -⟩ := rd_Interest rx
 have sbx := Nat.le_trans (okWant.bulk hokx) (show 100 ≤ 1048576 by decide)
 clear hokx
 have r0 := Ty.rd_below hb h0
 have hW := bel_trans b_3 hb
 clear hb
 go_wp2_with fail
 obtain ⟨V1, hV1⟩ : ∃ V, V = (w1.alloc (.cells #[.slice X0 (List.length x.1) Xa, .int .i64 x.2.1, .int .i64 x.2.2.1, .int .i64 x.2.2.2] 28)) := ⟨_, rfl⟩
 have bV1 : Below w1.heap.size w1 V1 := by rw [hV1]; exact b_0
 have bX : Blk V1 (w1.heap.size) 28 #[.slice X0 (List.length x.1) Xa, .int .i64 x.2.1, .int .i64 x.2.2.1, .int .i64 x.2.2.2] := by rw [hV1]; have := Blk.new w1 28 #[.slice X0 (List.length x.1) Xa, .int .i64 x.2.1, .int .i64 x.2.2.1, .int .i64 x.2.2.2]; (try simp only [World.size_alloc] at this); exact this
 have zbX := bX.lt
 rw [← hV1]
 clear hV1
 replace r0 := Ty.rd_below bV1 r0
 replace rx := Ty.rd_below bV1 rx
 replace hW := bel_trans hW bV1
 clear bV1
 refine Calls.mono (C_impl_EncodeInterest _ _ x rx sbx) ?_
 obtain ⟨b, hbb⟩ : ∃ y, y = f_EncodeInterest x := ⟨_, rfl⟩
 have sbb : Ty.bulk (.sl .byte) b ≤ 1048576 := by rw [Ty.bulk_flat (fun _ => rfl), hbb]; have := encInterest_len x; omega
 have HB := Lib.hid hbb
 rw [← hbb]
 clear hbb
 rintro e w2 ⟨Eb, ec, fp2, rfl, how2, -, hb⟩
 have rb := Ty.ow_rd how2
 clear how2
 replace r0 := Ty.rd_below hb r0
 replace rx := Ty.rd_below hb rx
 replace bX := Blk.below bX hb (Blk.lt bX)
 replace hW := bel_trans hW hb
 clear hb
 go_wp2_with fail
 refine Calls.mono (C_spec_DrawDecodeInterest _ _ x0 r0) ?_
 rintro e w3 ⟨⟨Cc, c, cc, rfl, rc, hlc⟩, hb⟩
 have sbc : Ty.bulk (.sl .byte) c ≤ 1048576 := by rw [Ty.bulk_flat (fun _ => rfl)]; omega
 clear hlc
 replace r0 := Ty.rd_below hb r0
 replace rx := Ty.rd_below hb rx
 replace bX := Blk.below bX hb (Blk.lt bX)
 replace rb := Ty.rd_below hb rb
 replace hW := bel_trans hW hb
 clear hb
 go_wp2_with fail
 refine Calls.mono (C_impl_DecodeInterest _ _ c rc sbc) ?_
 obtain ⟨y, hy⟩ : ∃ y, y = f0_DecodeInterest c := ⟨_, rfl⟩
 obtain ⟨ok, hok⟩ : ∃ o, o = f1_DecodeInterest c := ⟨_, rfl⟩
 have HF := @wf1_Decode c
 have sby := wdecode_bulk c
 rw [← hy] at HF sby
 rw [← hok] at HF
 replace HF := Lib.hid HF
 have HY := Lib.hid hy
 have HK := Lib.hid hok
 rw [← hy, ← hok]
 clear hy hok
 rintro e w4 ⟨cs4, fp4, rfl, how4, -, hb⟩
 obtain ⟨Y0, Ya, rfl⟩ := ow_Interest how4
 have ry := Ty.ow_rd how4
 clear how4
 replace r0 := Ty.rd_below hb r0
 replace rx := Ty.rd_below hb rx
 replace bX := Blk.below bX hb (Blk.lt bX)
 replace rb := Ty.rd_below hb rb
 replace rc := Ty.rd_below hb rc
 replace hW := bel_trans hW hb
 clear hb
 go_wp2_with fail
 obtain ⟨V4, hV4⟩ : ∃ V, V = (w4.alloc (.cells #[.slice Y0 (List.length y.1) Ya, .int .i64 y.2.1, .int .i64 y.2.2.1, .int .i64 y.2.2.2] 28)) := ⟨_, rfl⟩
 have bV4 : Below w4.heap.size w4 V4 := by rw [hV4]; exact b_0
 have bY : Blk V4 (w4.heap.size) 28 #[.slice Y0 (List.length y.1) Ya, .int .i64 y.2.1, .int .i64 y.2.2.1, .int .i64 y.2.2.2] := by rw [hV4]; have := Blk.new w4 28 #[.slice Y0 (List.length y.1) Ya, .int .i64 y.2.1, .int .i64 y.2.2.1, .int .i64 y.2.2.2]; (try simp only [World.size_alloc] at this); exact this
 have zbY := bY.lt
 rw [← hV4]
 clear hV4
 replace r0 := Ty.rd_below bV4 r0
 replace rx := Ty.rd_below bV4 rx
 replace bX := Blk.below bX bV4 (Blk.lt bX)
 replace rb := Ty.rd_below bV4 rb
 replace rc := Ty.rd_below bV4 rc
 replace ry := Ty.rd_below bV4 ry
 replace hW := bel_trans hW bV4
 clear bV4
 refine Calls.mono (C_spec_DecodeInterest _ _ c rc sbc) ?_
 rw [← HY.out, ← HK.out]
 rintro e w5 ⟨cs5, fp5, rfl, how5, -, hb⟩
 obtain ⟨Z0, Za, rfl⟩ := ow_Interest how5
 have rz := Ty.ow_rd how5
 clear how5
 replace r0 := Ty.rd_below hb r0
 replace rx := Ty.rd_below hb rx
 replace bX := Blk.below bX hb (Blk.lt bX)
 replace rb := Ty.rd_below hb rb
 replace rc := Ty.rd_below hb rc
 replace ry := Ty.rd_below hb ry
 replace bY := Blk.below bY hb (Blk.lt bY)
 replace hW := bel_trans hW hb
 clear hb
 go_wp2_with fail
 obtain ⟨V5, hV5⟩ : ∃ V, V = (w5.alloc (.cells #[.slice Z0 (List.length y.1) Za, .int .i64 y.2.1, .int .i64 y.2.2.1, .int .i64 y.2.2.2] 28)) := ⟨_, rfl⟩
 have bV5 : Below w5.heap.size w5 V5 := by rw [hV5]; exact b_0
 have bZ : Blk V5 (w5.heap.size) 28 #[.slice Z0 (List.length y.1) Za, .int .i64 y.2.1, .int .i64 y.2.2.1, .int .i64 y.2.2.2] := by rw [hV5]; have := Blk.new w5 28 #[.slice Z0 (List.length y.1) Za, .int .i64 y.2.1, .int .i64 y.2.2.1, .int .i64 y.2.2.2]; (try simp only [World.size_alloc] at this); exact this
 have zbZ := bZ.lt
 rw [← hV5]
 clear hV5
 replace r0 := Ty.rd_below bV5 r0
 replace rx := Ty.rd_below bV5 rx
 replace bX := Blk.below bX bV5 (Blk.lt bX)
 replace rb := Ty.rd_below bV5 rb
 replace rc := Ty.rd_below bV5 rc
 replace ry := Ty.rd_below bV5 ry
 replace bY := Blk.below bY bV5 (Blk.lt bY)
 replace rz := Ty.rd_below bV5 rz
 replace hW := bel_trans hW bV5
 clear bV5
 refine Calls.mono (C_spec_DrawAppendName _ _ x0 r0) ?_
 rintro e w6 ⟨⟨Ap, p, cp, csn, n, rfl, rp, hlp, rn, hnb⟩, hb⟩
 obtain ⟨N0, Na, rfl⟩ := Ty.rd_slv rn
 replace r0 := Ty.rd_below hb r0
 replace rx := Ty.rd_below hb rx
 replace bX := Blk.below bX hb (Blk.lt bX)
 replace rb := Ty.rd_below hb rb
 replace rc := Ty.rd_below hb rc
 replace ry := Ty.rd_below hb ry
 replace bY := Blk.below bY hb (Blk.lt bY)
 replace rz := Ty.rd_below hb rz
 replace bZ := Blk.below bZ hb (Blk.lt bZ)
 replace hW := bel_trans hW hb
 clear hb
 go_wp2_with fail
 obtain ⟨V6, hV6⟩ : ∃ V, V = (w6.alloc (.cells #[.slice N0 (List.length n) Na] 26)) := ⟨_, rfl⟩
 have bV6 : Below w6.heap.size w6 V6 := by rw [hV6]; exact b_0
 have bN : Blk V6 (w6.heap.size) 26 #[.slice N0 (List.length n) Na] := by rw [hV6]; have := Blk.new w6 26 #[.slice N0 (List.length n) Na]; (try simp only [World.size_alloc] at this); exact this
 have zbN := bN.lt
 rw [← hV6]
 clear hV6
 replace r0 := Ty.rd_below bV6 r0
 replace rx := Ty.rd_below bV6 rx
 replace bX := Blk.below bX bV6 (Blk.lt bX)
 replace rb := Ty.rd_below bV6 rb
 replace rc := Ty.rd_below bV6 rc
 replace ry := Ty.rd_below bV6 ry
 replace bY := Blk.below bY bV6 (Blk.lt bY)
 replace rz := Ty.rd_below bV6 rz
 replace bZ := Blk.below bZ bV6 (Blk.lt bZ)
 replace rp := Ty.rd_below bV6 rp
 replace rn := Ty.rd_below bV6 rn
 replace hW := bel_trans hW bV6
 clear bV6
 refine Calls.mono (C_spec_DrawReadName _ _ x0 r0) ?_
 rintro e w7 ⟨⟨Aq, q, cq, i, rfl, rq, hlq, iq⟩, hb⟩
 have sbq : Ty.bulk (.sl .byte) q ≤ 1048576 := by rw [Ty.bulk_flat (fun _ => rfl)]; omega
 replace r0 := Ty.rd_below hb r0
 replace rx := Ty.rd_below hb rx
 replace bX := Blk.below bX hb (Blk.lt bX)
 replace rb := Ty.rd_below hb rb
 replace rc := Ty.rd_below hb rc
 replace ry := Ty.rd_below hb ry
 replace bY := Blk.below bY hb (Blk.lt bY)
 replace rz := Ty.rd_below hb rz
 replace bZ := Blk.below bZ hb (Blk.lt bZ)
 replace rp := Ty.rd_below hb rp
 replace rn := Ty.rd_below hb rn
 replace bN := Blk.below bN hb (Blk.lt bN)
 replace hW := bel_trans hW hb
 clear hb
 go_wp2_with fail
 refine Calls.mono (S_impl_ReadName _ _ q i rq sbq b_18) ?_
 obtain ⟨m, hm⟩ : ∃ y, y = f0_ReadName q i := ⟨_, rfl⟩
 obtain ⟨nx, hnx⟩ : ∃ y, y = f1_ReadName q i := ⟨_, rfl⟩
 obtain ⟨may, hmay⟩ : ∃ y, y = f2_ReadName q i := ⟨_, rfl⟩
 have HR := @wname_all q i
 rw [← hm, ← hnx, ← hmay] at HR
 replace HR := Lib.hid HR
 have HM := Lib.hid hm
 have HN := Lib.hid hnx
 have HA := Lib.hid hmay
 rw [← hm, ← hnx, ← hmay]
 clear hm hnx hmay
 rintro e w8 ⟨cs8, fp8, rfl, how8, -, hb⟩
 obtain ⟨M0, Ma, rfl⟩ := Ty.ow_slv how8
 have rm := Ty.ow_rd how8
 clear how8
 replace r0 := Ty.rd_below hb r0
 replace rx := Ty.rd_below hb rx
 replace bX := Blk.below bX hb (Blk.lt bX)
 replace rb := Ty.rd_below hb rb
 replace rc := Ty.rd_below hb rc
 replace ry := Ty.rd_below hb ry
 replace bY := Blk.below bY hb (Blk.lt bY)
 replace rz := Ty.rd_below hb rz
 replace bZ := Blk.below bZ hb (Blk.lt bZ)
 replace rp := Ty.rd_below hb rp
 replace rn := Ty.rd_below hb rn
 replace bN := Blk.below bN hb (Blk.lt bN)
 replace rq := Ty.rd_below hb rq
 replace hW := bel_trans hW hb
 clear hb
 go_wp2_with fail
 obtain ⟨V8, hV8⟩ : ∃ V, V = (w8.alloc (.cells #[.slice M0 (List.length m) Ma] 26)) := ⟨_, rfl⟩
 have bV8 : Below w8.heap.size w8 V8 := by rw [hV8]; exact b_0
 have bM : Blk V8 (w8.heap.size) 26 #[.slice M0 (List.length m) Ma] := by rw [hV8]; have := Blk.new w8 26 #[.slice M0 (List.length m) Ma]; (try simp only [World.size_alloc] at this); exact this
 have zbM := bM.lt
 rw [← hV8]
 clear hV8
 replace r0 := Ty.rd_below bV8 r0
 replace rx := Ty.rd_below bV8 rx
 replace bX := Blk.below bX bV8 (Blk.lt bX)
 replace rb := Ty.rd_below bV8 rb
 replace rc := Ty.rd_below bV8 rc
 replace ry := Ty.rd_below bV8 ry
 replace bY := Blk.below bY bV8 (Blk.lt bY)
 replace rz := Ty.rd_below bV8 rz
 replace bZ := Blk.below bZ bV8 (Blk.lt bZ)
 replace rp := Ty.rd_below bV8 rp
 replace rn := Ty.rd_below bV8 rn
 replace bN := Blk.below bN bV8 (Blk.lt bN)
 replace rq := Ty.rd_below bV8 rq
 replace rm := Ty.rd_below bV8 rm
 replace hW := bel_trans hW bV8
 clear bV8
 refine Calls.mono (S_spec_ReadName _ _ q i rq sbq b_18) ?_
 rw [← HM.out, ← HN.out, ← HA.out]
 rintro e w9 ⟨cs9, fp9, rfl, how9, -, hb⟩
 obtain ⟨L0, La, rfl⟩ := Ty.ow_slv how9
 have rl := Ty.ow_rd how9
 clear how9
 replace r0 := Ty.rd_below hb r0
 replace rx := Ty.rd_below hb rx
 replace bX := Blk.below bX hb (Blk.lt bX)
 replace rb := Ty.rd_below hb rb
 replace rc := Ty.rd_below hb rc
 replace ry := Ty.rd_below hb ry
 replace bY := Blk.below bY hb (Blk.lt bY)
 replace rz := Ty.rd_below hb rz
 replace bZ := Blk.below bZ hb (Blk.lt bZ)
 replace rp := Ty.rd_below hb rp
 replace rn := Ty.rd_below hb rn
 replace bN := Blk.below bN hb (Blk.lt bN)
 replace rq := Ty.rd_below hb rq
 replace rm := Ty.rd_below hb rm
 replace bM := Blk.below bM hb (Blk.lt bM)
 replace hW := bel_trans hW hb
 clear hb
 go_wp2_with fail
 obtain ⟨V9, hV9⟩ : ∃ V, V = (w9.alloc (.cells #[.slice L0 (List.length m) La] 26)) := ⟨_, rfl⟩
 have bV9 : Below w9.heap.size w9 V9 := by rw [hV9]; exact b_0
 have bL : Blk V9 (w9.heap.size) 26 #[.slice L0 (List.length m) La] := by rw [hV9]; have := Blk.new w9 26 #[.slice L0 (List.length m) La]; (try simp only [World.size_alloc] at this); exact this
 have zbL := bL.lt
 rw [← hV9]
 clear hV9
 replace r0 := Ty.rd_below bV9 r0
 replace rx := Ty.rd_below bV9 rx
 replace bX := Blk.below bX bV9 (Blk.lt bX)
 replace rb := Ty.rd_below bV9 rb
 replace rc := Ty.rd_below bV9 rc
 replace ry := Ty.rd_below bV9 ry
 replace bY := Blk.below bY bV9 (Blk.lt bY)
 replace rz := Ty.rd_below bV9 rz
 replace bZ := Blk.below bZ bV9 (Blk.lt bZ)
 replace rp := Ty.rd_below bV9 rp
 replace rn := Ty.rd_below bV9 rn
 replace bN := Blk.below bN bV9 (Blk.lt bN)
 replace rq := Ty.rd_below bV9 rq
 replace rm := Ty.rd_below bV9 rm
 replace bM := Blk.below bM bV9 (Blk.lt bM)
 replace rl := Ty.rd_below bV9 rl
 replace hW := bel_trans hW bV9
 clear bV9
 refine Calls.mono (C_spec_DrawEqualInterests _ _ x0 r0) ?_
 rintro e w10 ⟨⟨csa, a, csd, d, rfl, ra, hoka, rd_, hokd⟩, hb⟩
 obtain ⟨A0, Aa, rfl, -⟩ := rd_Interest ra
 obtain ⟨D0, Da, rfl, -⟩ := rd_Interest rd_
 clear hoka hokd
 replace r0 := Ty.rd_below hb r0
 replace rx := Ty.rd_below hb rx
 replace bX := Blk.below bX hb (Blk.lt bX)
 replace rb := Ty.rd_below hb rb
 replace rc := Ty.rd_below hb rc
 replace ry := Ty.rd_below hb ry
 replace bY := Blk.below bY hb (Blk.lt bY)
 replace rz := Ty.rd_below hb rz
 replace bZ := Blk.below bZ hb (Blk.lt bZ)
 replace rp := Ty.rd_below hb rp
 replace rn := Ty.rd_below hb rn
 replace bN := Blk.below bN hb (Blk.lt bN)
 replace rq := Ty.rd_below hb rq
 replace rm := Ty.rd_below hb rm
 replace bM := Blk.below bM hb (Blk.lt bM)
 replace rl := Ty.rd_below hb rl
 replace bL := Blk.below bL hb (Blk.lt bL)
 replace hW := bel_trans hW hb
 clear hb
 go_wp2_with fail
 obtain ⟨V10, hV10⟩ : ∃ V, V = ((w10.alloc (.cells #[.slice A0 (List.length a.1) Aa, .int .i64 a.2.1, .int .i64 a.2.2.1, .int .i64 a.2.2.2] 28)).alloc (.cells #[.slice D0 (List.length d.1) Da, .int .i64 d.2.1, .int .i64 d.2.2.1, .int .i64 d.2.2.2] 28)) := ⟨_, rfl⟩
 have bV10 : Below w10.heap.size w10 V10 := by rw [hV10]; exact b_0
 have bA : Blk V10 (w10.heap.size) 28 #[.slice A0 (List.length a.1) Aa, .int .i64 a.2.1, .int .i64 a.2.2.1, .int .i64 a.2.2.2] := by rw [hV10]; have := Blk.new w10 28 #[.slice A0 (List.length a.1) Aa, .int .i64 a.2.1, .int .i64 a.2.2.1, .int .i64 a.2.2.2]; (try simp only [World.size_alloc] at this); exact (this).alloc _
 have zbA := bA.lt
 have bD : Blk V10 (w10.heap.size + 1) 28 #[.slice D0 (List.length d.1) Da, .int .i64 d.2.1, .int .i64 d.2.2.1, .int .i64 d.2.2.2] := by rw [hV10]; have := Blk.new (w10.alloc (.cells #[.slice A0 (List.length a.1) Aa, .int .i64 a.2.1, .int .i64 a.2.2.1, .int .i64 a.2.2.2] 28)) 28 #[.slice D0 (List.length d.1) Da, .int .i64 d.2.1, .int .i64 d.2.2.1, .int .i64 d.2.2.2]; (try simp only [World.size_alloc] at this); exact this
 have zbD := bD.lt
 rw [← hV10]
 clear hV10
 replace r0 := Ty.rd_below bV10 r0
 replace rx := Ty.rd_below bV10 rx
 replace bX := Blk.below bX bV10 (Blk.lt bX)
 replace rb := Ty.rd_below bV10 rb
 replace rc := Ty.rd_below bV10 rc
 replace ry := Ty.rd_below bV10 ry
 replace bY := Blk.below bY bV10 (Blk.lt bY)
 replace rz := Ty.rd_below bV10 rz
 replace bZ := Blk.below bZ bV10 (Blk.lt bZ)
 replace rp := Ty.rd_below bV10 rp
 replace rn := Ty.rd_below bV10 rn
 replace bN := Blk.below bN bV10 (Blk.lt bN)
 replace rq := Ty.rd_below bV10 rq
 replace rm := Ty.rd_below bV10 rm
 replace bM := Blk.below bM bV10 (Blk.lt bM)
 replace rl := Ty.rd_below bV10 rl
 replace bL := Blk.below bL bV10 (Blk.lt bL)
 replace ra := Ty.rd_below bV10 ra
 replace rd_ := Ty.rd_below bV10 rd_
 replace hW := bel_trans hW bV10
 clear bV10
 refine Calls.mono (C_spec_DrawDecrementHops _ _ x0 r0) ?_
 rintro e w11 ⟨⟨csh, h, rfl, rh, hokh⟩, hb⟩
 obtain ⟨H0, Ha, rfl, -⟩ := rd_Interest rh
 have hhl : List.length h.1 ≤ 1000000000000 := Nat.le_trans (Ty.bulk_len hokh) b_17
 clear hokh
 replace r0 := Ty.rd_below hb r0
 replace rx := Ty.rd_below hb rx
 replace bX := Blk.below bX hb (Blk.lt bX)
 replace rb := Ty.rd_below hb rb
 replace rc := Ty.rd_below hb rc
 replace ry := Ty.rd_below hb ry
 replace bY := Blk.below bY hb (Blk.lt bY)
 replace rz := Ty.rd_below hb rz
 replace bZ := Blk.below bZ hb (Blk.lt bZ)
 replace rp := Ty.rd_below hb rp
 replace rn := Ty.rd_below hb rn
 replace bN := Blk.below bN hb (Blk.lt bN)
 replace rq := Ty.rd_below hb rq
 replace rm := Ty.rd_below hb rm
 replace bM := Blk.below bM hb (Blk.lt bM)
 replace rl := Ty.rd_below hb rl
 replace bL := Blk.below bL hb (Blk.lt bL)
 replace ra := Ty.rd_below hb ra
 replace rd_ := Ty.rd_below hb rd_
 replace bA := Blk.below bA hb (Blk.lt bA)
 replace bD := Blk.below bD hb (Blk.lt bD)
 replace hW := bel_trans hW hb
 clear hb
 go_wp2_with fail
 obtain ⟨V11, hV11⟩ : ∃ V, V = (w11.alloc (.cells #[.slice H0 (List.length h.1) Ha, .int .i64 h.2.1, .int .i64 h.2.2.1, .int .i64 h.2.2.2] 28)) := ⟨_, rfl⟩
 have bV11 : Below w11.heap.size w11 V11 := by rw [hV11]; exact b_0
 have bH : Blk V11 (w11.heap.size) 28 #[.slice H0 (List.length h.1) Ha, .int .i64 h.2.1, .int .i64 h.2.2.1, .int .i64 h.2.2.2] := by rw [hV11]; have := Blk.new w11 28 #[.slice H0 (List.length h.1) Ha, .int .i64 h.2.1, .int .i64 h.2.2.1, .int .i64 h.2.2.2]; (try simp only [World.size_alloc] at this); exact this
 have zbH := bH.lt
 rw [← hV11]
 clear hV11
 replace r0 := Ty.rd_below bV11 r0
 replace rx := Ty.rd_below bV11 rx
 replace bX := Blk.below bX bV11 (Blk.lt bX)
 replace rb := Ty.rd_below bV11 rb
 replace rc := Ty.rd_below bV11 rc
 replace ry := Ty.rd_below bV11 ry
 replace bY := Blk.below bY bV11 (Blk.lt bY)
 replace rz := Ty.rd_below bV11 rz
 replace bZ := Blk.below bZ bV11 (Blk.lt bZ)
 replace rp := Ty.rd_below bV11 rp
 replace rn := Ty.rd_below bV11 rn
 replace bN := Blk.below bN bV11 (Blk.lt bN)
 replace rq := Ty.rd_below bV11 rq
 replace rm := Ty.rd_below bV11 rm
 replace bM := Blk.below bM bV11 (Blk.lt bM)
 replace rl := Ty.rd_below bV11 rl
 replace bL := Blk.below bL bV11 (Blk.lt bL)
 replace ra := Ty.rd_below bV11 ra
 replace rd_ := Ty.rd_below bV11 rd_
 replace bA := Blk.below bA bV11 (Blk.lt bA)
 replace bD := Blk.below bD bV11 (Blk.lt bD)
 replace rh := Ty.rd_below bV11 rh
 replace hW := bel_trans hW bV11
 clear bV11
 refine Calls.mono (C_impl_DecrementHops _ _ h rh hhl) ?_
 obtain ⟨o, ho⟩ : ∃ y, y = f0_DecrementHops h := ⟨_, rfl⟩
 obtain ⟨left, hleft⟩ : ∃ y, y = f1_DecrementHops h := ⟨_, rfl⟩
 have HD := Lib.hid (show left = true → o.2.2.1 = h.2.2.1 - 1 ∧ 0 ≤ o.2.2.1 from fun hl => by rw [ho]; exact dec_left (hleft.symm.trans hl))
 have HO := Lib.hid ho
 have HL := Lib.hid hleft
 rw [← ho, ← hleft]
 clear ho hleft
 rintro e w12 ⟨cs12, fp12, rfl, how12, -, hb⟩
 obtain ⟨O0, Oa, rfl⟩ := ow_Interest how12
 have ro := Ty.ow_rd how12
 clear how12
 replace r0 := Ty.rd_below hb r0
 replace rx := Ty.rd_below hb rx
 replace bX := Blk.below bX hb (Blk.lt bX)
 replace rb := Ty.rd_below hb rb
 replace rc := Ty.rd_below hb rc
 replace ry := Ty.rd_below hb ry
 replace bY := Blk.below bY hb (Blk.lt bY)
 replace rz := Ty.rd_below hb rz
 replace bZ := Blk.below bZ hb (Blk.lt bZ)
 replace rp := Ty.rd_below hb rp
 replace rn := Ty.rd_below hb rn
 replace bN := Blk.below bN hb (Blk.lt bN)
 replace rq := Ty.rd_below hb rq
 replace rm := Ty.rd_below hb rm
 replace bM := Blk.below bM hb (Blk.lt bM)
 replace rl := Ty.rd_below hb rl
 replace bL := Blk.below bL hb (Blk.lt bL)
 replace ra := Ty.rd_below hb ra
 replace rd_ := Ty.rd_below hb rd_
 replace bA := Blk.below bA hb (Blk.lt bA)
 replace bD := Blk.below bD hb (Blk.lt bD)
 replace rh := Ty.rd_below hb rh
 replace bH := Blk.below bH hb (Blk.lt bH)
 replace hW := bel_trans hW hb
 clear hb
 obtain ⟨kbH0, kbH1, kbH2, kbH3, -, -, -, -, -⟩ := bk4 bH
 have zkbH := bH.lt
 go_wp2_with fail
 clear kbH0 kbH1 kbH2 kbH3 zkbH
 obtain ⟨V12, hV12⟩ : ∃ V, V = (w12.alloc (.cells #[.slice O0 (List.length o.1) Oa, .int .i64 o.2.1, .int .i64 o.2.2.1, .int .i64 o.2.2.2] 28)) := ⟨_, rfl⟩
 have bV12 : Below w12.heap.size w12 V12 := by rw [hV12]; exact b_0
 have bO : Blk V12 (w12.heap.size) 28 #[.slice O0 (List.length o.1) Oa, .int .i64 o.2.1, .int .i64 o.2.2.1, .int .i64 o.2.2.2] := by rw [hV12]; have := Blk.new w12 28 #[.slice O0 (List.length o.1) Oa, .int .i64 o.2.1, .int .i64 o.2.2.1, .int .i64 o.2.2.2]; (try simp only [World.size_alloc] at this); exact this
 have zbO := bO.lt
 rw [← hV12]
 clear hV12
 replace r0 := Ty.rd_below bV12 r0
 replace rx := Ty.rd_below bV12 rx
 replace bX := Blk.below bX bV12 (Blk.lt bX)
 replace rb := Ty.rd_below bV12 rb
 replace rc := Ty.rd_below bV12 rc
 replace ry := Ty.rd_below bV12 ry
 replace bY := Blk.below bY bV12 (Blk.lt bY)
 replace rz := Ty.rd_below bV12 rz
 replace bZ := Blk.below bZ bV12 (Blk.lt bZ)
 replace rp := Ty.rd_below bV12 rp
 replace rn := Ty.rd_below bV12 rn
 replace bN := Blk.below bN bV12 (Blk.lt bN)
 replace rq := Ty.rd_below bV12 rq
 replace rm := Ty.rd_below bV12 rm
 replace bM := Blk.below bM bV12 (Blk.lt bM)
 replace rl := Ty.rd_below bV12 rl
 replace bL := Blk.below bL bV12 (Blk.lt bL)
 replace ra := Ty.rd_below bV12 ra
 replace rd_ := Ty.rd_below bV12 rd_
 replace bA := Blk.below bA bV12 (Blk.lt bA)
 replace bD := Blk.below bD bV12 (Blk.lt bD)
 replace rh := Ty.rd_below bV12 rh
 replace bH := Blk.below bH bV12 (Blk.lt bH)
 replace ro := Ty.rd_below bV12 ro
 replace hW := bel_trans hW bV12
 clear bV12
 refine Calls.mono (C_spec_DecrementHops _ _ h rh hhl) ?_
 rw [← HO.out, ← HL.out]
 rintro e w13 ⟨cs13, fp13, rfl, how13, -, hb⟩
 obtain ⟨U0, Ua, rfl⟩ := ow_Interest how13
 have ru := Ty.ow_rd how13
 clear how13
 replace r0 := Ty.rd_below hb r0
 replace rx := Ty.rd_below hb rx
 replace bX := Blk.below bX hb (Blk.lt bX)
 replace rb := Ty.rd_below hb rb
 replace rc := Ty.rd_below hb rc
 replace ry := Ty.rd_below hb ry
 replace bY := Blk.below bY hb (Blk.lt bY)
 replace rz := Ty.rd_below hb rz
 replace bZ := Blk.below bZ hb (Blk.lt bZ)
 replace rp := Ty.rd_below hb rp
 replace rn := Ty.rd_below hb rn
 replace bN := Blk.below bN hb (Blk.lt bN)
 replace rq := Ty.rd_below hb rq
 replace rm := Ty.rd_below hb rm
 replace bM := Blk.below bM hb (Blk.lt bM)
 replace rl := Ty.rd_below hb rl
 replace bL := Blk.below bL hb (Blk.lt bL)
 replace ra := Ty.rd_below hb ra
 replace rd_ := Ty.rd_below hb rd_
 replace bA := Blk.below bA hb (Blk.lt bA)
 replace bD := Blk.below bD hb (Blk.lt bD)
 replace rh := Ty.rd_below hb rh
 replace bH := Blk.below bH hb (Blk.lt bH)
 replace ro := Ty.rd_below hb ro
 replace bO := Blk.below bO hb (Blk.lt bO)
 replace hW := bel_trans hW hb
 clear hb
 go_upto_region 16 with fail
 obtain ⟨VZ, hVZ⟩ : ∃ V, V = (w13.alloc (.cells #[.slice U0 (List.length o.1) Ua, .int .i64 o.2.1, .int .i64 o.2.2.1, .int .i64 o.2.2.2] 28)) := ⟨_, rfl⟩
 have bVZ : Below w13.heap.size w13 VZ := by rw [hVZ]; exact b_0
 have bU : Blk VZ (w13.heap.size) 28 #[.slice U0 (List.length o.1) Ua, .int .i64 o.2.1, .int .i64 o.2.2.1, .int .i64 o.2.2.2] := by rw [hVZ]; have := Blk.new w13 28 #[.slice U0 (List.length o.1) Ua, .int .i64 o.2.1, .int .i64 o.2.2.1, .int .i64 o.2.2.2]; (try simp only [World.size_alloc] at this); exact this
 have zbU := bU.lt
 rw [← hVZ]
 clear hVZ
 replace r0 := Ty.rd_below bVZ r0
 replace rx := Ty.rd_below bVZ rx
 replace bX := Blk.below bX bVZ (Blk.lt bX)
 replace rb := Ty.rd_below bVZ rb
 replace rc := Ty.rd_below bVZ rc
 replace ry := Ty.rd_below bVZ ry
 replace bY := Blk.below bY bVZ (Blk.lt bY)
 replace rz := Ty.rd_below bVZ rz
 replace bZ := Blk.below bZ bVZ (Blk.lt bZ)
 replace rp := Ty.rd_below bVZ rp
 replace rn := Ty.rd_below bVZ rn
 replace bN := Blk.below bN bVZ (Blk.lt bN)
 replace rq := Ty.rd_below bVZ rq
 replace rm := Ty.rd_below bVZ rm
 replace bM := Blk.below bM bVZ (Blk.lt bM)
 replace rl := Ty.rd_below bVZ rl
 replace bL := Blk.below bL bVZ (Blk.lt bL)
 replace ra := Ty.rd_below bVZ ra
 replace rd_ := Ty.rd_below bVZ rd_
 replace bA := Blk.below bA bVZ (Blk.lt bA)
 replace bD := Blk.below bD bVZ (Blk.lt bD)
 replace rh := Ty.rd_below bVZ rh
 replace bH := Blk.below bH bVZ (Blk.lt bH)
 replace ro := Ty.rd_below bVZ ro
 replace bO := Blk.below bO bVZ (Blk.lt bO)
 replace ru := Ty.rd_below bVZ ru
 replace hW := bel_trans hW bVZ
 clear bVZ
 have HC : Hid (∀ V, Below VZ.heap.size VZ V → V.cell? ⟨w1.heap.size, 0, none⟩ = some (.slice X0 (List.length x.1) Xa) ∧ V.cell? ⟨w1.heap.size, 1, none⟩ = some (.int .i64 x.2.1) ∧ V.cell? ⟨w1.heap.size, 2, none⟩ = some (.int .i64 x.2.2.1) ∧ V.cell? ⟨w1.heap.size, 3, none⟩ = some (.int .i64 x.2.2.2) ∧ V.cell? ⟨w4.heap.size, 0, none⟩ = some (.slice Y0 (List.length y.1) Ya) ∧ V.cell? ⟨w4.heap.size, 1, none⟩ = some (.int .i64 y.2.1) ∧ V.cell? ⟨w4.heap.size, 2, none⟩ = some (.int .i64 y.2.2.1) ∧ V.cell? ⟨w4.heap.size, 3, none⟩ = some (.int .i64 y.2.2.2) ∧ V.cell? ⟨w5.heap.size, 0, none⟩ = some (.slice Z0 (List.length y.1) Za) ∧ V.cell? ⟨w5.heap.size, 1, none⟩ = some (.int .i64 y.2.1) ∧ V.cell? ⟨w5.heap.size, 2, none⟩ = some (.int .i64 y.2.2.1) ∧ V.cell? ⟨w5.heap.size, 3, none⟩ = some (.int .i64 y.2.2.2) ∧ V.cell? ⟨w6.heap.size, 0, none⟩ = some (.slice N0 (List.length n) Na) ∧ V.cell? ⟨w8.heap.size, 0, none⟩ = some (.slice M0 (List.length m) Ma) ∧ V.cell? ⟨w9.heap.size, 0, none⟩ = some (.slice L0 (List.length m) La) ∧ V.cell? ⟨w10.heap.size, 0, none⟩ = some (.slice A0 (List.length a.1) Aa) ∧ V.cell? ⟨w10.heap.size, 1, none⟩ = some (.int .i64 a.2.1) ∧ V.cell? ⟨w10.heap.size, 2, none⟩ = some (.int .i64 a.2.2.1) ∧ V.cell? ⟨w10.heap.size, 3, none⟩ = some (.int .i64 a.2.2.2) ∧ V.cell? ⟨w10.heap.size + 1, 0, none⟩ = some (.slice D0 (List.length d.1) Da) ∧ V.cell? ⟨w10.heap.size + 1, 1, none⟩ = some (.int .i64 d.2.1) ∧ V.cell? ⟨w10.heap.size + 1, 2, none⟩ = some (.int .i64 d.2.2.1) ∧ V.cell? ⟨w10.heap.size + 1, 3, none⟩ = some (.int .i64 d.2.2.2) ∧ V.cell? ⟨w12.heap.size, 0, none⟩ = some (.slice O0 (List.length o.1) Oa) ∧ V.cell? ⟨w12.heap.size, 1, none⟩ = some (.int .i64 o.2.1) ∧ V.cell? ⟨w12.heap.size, 2, none⟩ = some (.int .i64 o.2.2.1) ∧ V.cell? ⟨w12.heap.size, 3, none⟩ = some (.int .i64 o.2.2.2) ∧ V.cell? ⟨w13.heap.size, 0, none⟩ = some (.slice U0 (List.length o.1) Ua) ∧ V.cell? ⟨w13.heap.size, 1, none⟩ = some (.int .i64 o.2.1) ∧ V.cell? ⟨w13.heap.size, 2, none⟩ = some (.int .i64 o.2.2.1) ∧ V.cell? ⟨w13.heap.size, 3, none⟩ = some (.int .i64 o.2.2.2)) := fun V hV => ⟨(bX.below hV bX.lt).cell 0, (bX.below hV bX.lt).cell 1, (bX.below hV bX.lt).cell 2, (bX.below hV bX.lt).cell 3, (bY.below hV bY.lt).cell 0, (bY.below hV bY.lt).cell 1, (bY.below hV bY.lt).cell 2, (bY.below hV bY.lt).cell 3, (bZ.below hV bZ.lt).cell 0, (bZ.below hV bZ.lt).cell 1, (bZ.below hV bZ.lt).cell 2, (bZ.below hV bZ.lt).cell 3, (bN.below hV bN.lt).cell 0, (bM.below hV bM.lt).cell 0, (bL.below hV bL.lt).cell 0, (bA.below hV bA.lt).cell 0, (bA.below hV bA.lt).cell 1, (bA.below hV bA.lt).cell 2, (bA.below hV bA.lt).cell 3, (bD.below hV bD.lt).cell 0, (bD.below hV bD.lt).cell 1, (bD.below hV bD.lt).cell 2, (bD.below hV bD.lt).cell 3, (bO.below hV bO.lt).cell 0, (bO.below hV bO.lt).cell 1, (bO.below hV bO.lt).cell 2, (bO.below hV bO.lt).cell 3, (bU.below hV bU.lt).cell 0, (bU.below hV bU.lt).cell 1, (bU.below hV bU.lt).cell 2, (bU.below hV bU.lt).cell 3⟩
 have ht9 := Lib.hid (tabIs_bel ht hW)
 refine wp_region_noPanic ?_
 refine wp_region_held_drew (S := (fun V => V.cell? ⟨w1.heap.size, 0, none⟩ = some (.slice X0 (List.length x.1) Xa) ∧ V.cell? ⟨w1.heap.size, 1, none⟩ = some (.int .i64 x.2.1) ∧ V.cell? ⟨w1.heap.size, 2, none⟩ = some (.int .i64 x.2.2.1) ∧ V.cell? ⟨w1.heap.size, 3, none⟩ = some (.int .i64 x.2.2.2) ∧ V.cell? ⟨w4.heap.size, 0, none⟩ = some (.slice Y0 (List.length y.1) Ya) ∧ V.cell? ⟨w4.heap.size, 1, none⟩ = some (.int .i64 y.2.1) ∧ V.cell? ⟨w4.heap.size, 2, none⟩ = some (.int .i64 y.2.2.1) ∧ V.cell? ⟨w4.heap.size, 3, none⟩ = some (.int .i64 y.2.2.2) ∧ V.cell? ⟨w5.heap.size, 0, none⟩ = some (.slice Z0 (List.length y.1) Za) ∧ V.cell? ⟨w5.heap.size, 1, none⟩ = some (.int .i64 y.2.1) ∧ V.cell? ⟨w5.heap.size, 2, none⟩ = some (.int .i64 y.2.2.1) ∧ V.cell? ⟨w5.heap.size, 3, none⟩ = some (.int .i64 y.2.2.2) ∧ V.cell? ⟨w6.heap.size, 0, none⟩ = some (.slice N0 (List.length n) Na) ∧ V.cell? ⟨w8.heap.size, 0, none⟩ = some (.slice M0 (List.length m) Ma) ∧ V.cell? ⟨w9.heap.size, 0, none⟩ = some (.slice L0 (List.length m) La) ∧ V.cell? ⟨w10.heap.size, 0, none⟩ = some (.slice A0 (List.length a.1) Aa) ∧ V.cell? ⟨w10.heap.size, 1, none⟩ = some (.int .i64 a.2.1) ∧ V.cell? ⟨w10.heap.size, 2, none⟩ = some (.int .i64 a.2.2.1) ∧ V.cell? ⟨w10.heap.size, 3, none⟩ = some (.int .i64 a.2.2.2) ∧ V.cell? ⟨w10.heap.size + 1, 0, none⟩ = some (.slice D0 (List.length d.1) Da) ∧ V.cell? ⟨w10.heap.size + 1, 1, none⟩ = some (.int .i64 d.2.1) ∧ V.cell? ⟨w10.heap.size + 1, 2, none⟩ = some (.int .i64 d.2.2.1) ∧ V.cell? ⟨w10.heap.size + 1, 3, none⟩ = some (.int .i64 d.2.2.2) ∧ V.cell? ⟨w12.heap.size, 0, none⟩ = some (.slice O0 (List.length o.1) Oa) ∧ V.cell? ⟨w12.heap.size, 1, none⟩ = some (.int .i64 o.2.1) ∧ V.cell? ⟨w12.heap.size, 2, none⟩ = some (.int .i64 o.2.2.1) ∧ V.cell? ⟨w12.heap.size, 3, none⟩ = some (.int .i64 o.2.2.2) ∧ V.cell? ⟨w13.heap.size, 0, none⟩ = some (.slice U0 (List.length o.1) Ua) ∧ V.cell? ⟨w13.heap.size, 1, none⟩ = some (.int .i64 o.2.1) ∧ V.cell? ⟨w13.heap.size, 2, none⟩ = some (.int .i64 o.2.2.1) ∧ V.cell? ⟨w13.heap.size, 3, none⟩ = some (.int .i64 o.2.2.2))) b_13 ?_ (fun hHeld => ?_)
 ·exact HC.out _ b_0
 refine tk 0 (opN rfl) b_13 b_20 b_10 b_16 ?_
 try simp only [layz]
 refine tk 1 (opN rfl) b_13 b_20 b_10 b_16 ?_
 try simp only [layz]
 refine wpAnyH_ready (rs := [2]) b_13 b_19 ?_
 refine (AllReadyH.cons (opN rfl) (fun K hK => ?_) AllReadyH.nil)
 go_simp
 go_at_call 19
 refine Calls.mono (C_spec_EncodeInterest _ _ x (Ty.rd_below b_0 rx) sbx) ?_
 rintro e u2 ⟨A2, c2, g2, rfl, how2, -, hu2⟩
 have r2 := Ty.ow_rd how2
 clear how2
 refine hK.out _ _ (HC.out _ b_0) (fun hHeld => ?_)
 clear hK K
 try simp only [layz]
 refine wpAnyH_ready (rs := [3]) b_13 b_19 ?_
 refine (AllReadyH.cons (opN rfl) (fun K hK => ?_) AllReadyH.nil)
 go_simp
 go_at_call 18
 refine Calls.mono (C_laws_sameG _ _ _ b _ (Ty.rd_below b_0 rb) (Ty.rd_below b_0 r2)) ?_
 rw [← HB.out, decide_self3]
 rintro e u3 ⟨rfl, hu3⟩
 refine hK.out _ _ (HC.out _ b_0) (fun hHeld => ?_)
 clear hK K
 try simp only [layz]
 refine tk 4 (opN rfl) b_13 b_20 b_10 b_16 ?_
 try simp only [layz]
 refine tk 5 (opN rfl) b_13 b_20 b_10 b_16 ?_
 try simp only [layz]
 refine tk 6 (opN rfl) b_13 b_20 b_10 b_16 ?_
 try simp only [layz]
 refine tk 7 (opN rfl) b_13 b_20 b_10 b_16 ?_
 try simp only [layz]
 refine wpAnyH_ready (rs := [8]) b_13 b_19 ?_
 refine (AllReadyH.cons (opN rfl) (fun K hK => ?_) AllReadyH.nil)
 go_simp
 go_at_call 20
 refine Calls.mono (C_laws_sameWantG _ _ y _ y (Ty.rd_below b_0 ry) (Ty.rd_below b_0 rz)) ?_
 rw [eqWant_self]
 rintro e u8 ⟨rfl, hu8⟩
 refine hK.out _ _ (HC.out _ b_0) (fun hHeld => ?_)
 clear hK K
 try simp only [layz]
 refine tk 9 (opN rfl) b_13 b_20 b_10 b_16 ?_
 try simp only [layz]
 refine tk 10 (opN rfl) b_13 b_20 b_10 b_16 ?_
 try simp only [layz]
 refine tk 11 (opN rfl) b_13 b_20 b_10 b_16 ?_
 try simp only [layz]
 refine tk 12 (opN rfl) b_13 b_20 b_10 b_16 ?_
 try simp only [layz]
 refine tk 13 (opN rfl) b_13 b_20 b_10 b_16 ?_
 try simp only [layz]
 refine tk 14 (opN rfl) b_13 b_20 b_10 b_16 ?_
 try simp only [layz]
 refine tk 15 (opN rfl) b_13 b_20 b_10 b_16 ?_
 try simp only [layz]
 refine tk 16 (opN rfl) b_13 b_20 b_10 b_16 ?_
 try simp only [layz]
 refine tk 17 (opN rfl) b_13 b_20 b_10 b_16 ?_
 try simp only [layz]
 refine tk 18 (opN rfl) b_13 b_20 b_10 b_16 ?_
 try simp only [layz]
 refine tk 20 (opN rfl) b_13 b_20 b_10 b_16 ?_
 try simp only [layz]
 refine tk 21 (opN rfl) b_13 b_20 b_10 b_16 ?_
 try simp only [layz]
 refine wpAnyH_ready (rs := [19]) b_13 b_19 ?_
 refine (AllReadyH.cons (opN rfl) (fun K hK => ?_) AllReadyH.nil)
 go_simp
 go_at_call 21
 refine Calls.mono (C_impl_AppendName _ _ p _ n (Ty.rd_below b_0 rp) (Ty.rd_below b_0 rn) b_18) ?_
 rintro e u19 hr19
 obtain ⟨A19, c19, g19, rfl, how19, -, hu19⟩ := RetRow.sl hr19
 have r19 := Ty.ow_rd how19
 clear how19 hr19
 refine hK.out _ _ (HC.out _ b_0) (fun hHeld => ?_)
 clear hK K
 try simp only [layz]
 refine wpAnyH_ready (rs := [22]) b_13 b_19 ?_
 refine (AllReadyH.cons (opN rfl) (fun K hK => ?_) AllReadyH.nil)
 go_simp
 go_at_call 22
 refine Calls.mono (C_spec_AppendName _ _ p _ n (Ty.rd_below b_0 rp) (Ty.rd_below b_0 rn) b_18) ?_
 rintro e u22 hr22
 obtain ⟨A22, c22, g22, rfl, how22, -, hu22⟩ := RetRow.sl hr22
 have r22 := Ty.ow_rd how22
 clear how22 hr22
 refine hK.out _ _ (HC.out _ b_0) (fun hHeld => ?_)
 clear hK K
 try simp only [layz]
 refine wpAnyH_ready (rs := [23]) b_13 b_19 ?_
 refine (AllReadyH.cons (opN rfl) (fun K hK => ?_) AllReadyH.nil)
 go_simp
 go_at_call 18
 refine Calls.mono (C_laws_sameG _ _ _ _ _ (Ty.rd_below b_0 r19) (Ty.rd_below b_0 r22)) ?_
 rw [decide_self3]
 rintro e u23 ⟨rfl, hu23⟩
 refine hK.out _ _ (HC.out _ b_0) (fun hHeld => ?_)
 clear hK K
 try simp only [layz]
 refine tk 24 (opN rfl) b_13 b_20 b_10 b_16 ?_
 try simp only [layz]
 refine tk 25 (opN rfl) b_13 b_20 b_10 b_16 ?_
 try simp only [layz]
 refine tk 26 (opN rfl) b_13 b_20 b_10 b_16 ?_
 try simp only [layz]
 refine tk 27 (opN rfl) b_13 b_20 b_10 b_16 ?_
 try simp only [layz]
 refine tk 28 (opN rfl) b_13 b_20 b_10 b_16 ?_
 try simp only [layz]
 refine wpAnyH_ready (rs := [29]) b_13 b_19 ?_
 refine (AllReadyH.cons (opN rfl) (fun K hK => ?_) AllReadyH.nil)
 go_simp
 go_at_call 23
 refine Calls.mono (C_laws_sameNameG _ _ _ m m (Ty.rd_below b_0 rm) (Ty.rd_below b_0 rl)) ?_
 rw [decide_self3]
 rintro e u29 ⟨rfl, hu29⟩
 refine hK.out _ _ (HC.out _ b_0) (fun hHeld => ?_)
 clear hK K
 try simp only [layz]
 refine tk 30 (opN rfl) b_13 b_20 b_10 b_16 ?_
 try simp only [layz]
 refine tk 31 (opN rfl) b_13 b_20 b_10 b_16 ?_
 try simp only [layz]
 refine tk 32 (opN rfl) b_13 b_20 b_10 b_16 ?_
 try simp only [layz]
 refine tk 33 (opN rfl) b_13 b_20 b_10 b_16 ?_
 try simp only [layz]
 refine tk 34 (opN rfl) b_13 b_20 b_10 b_16 ?_
 try simp only [layz]
 refine tk 35 (opN rfl) b_13 b_20 b_10 b_16 ?_
 try simp only [layz]
 refine tk 36 (opN rfl) b_13 b_20 b_10 b_16 ?_
 try simp only [layz]
 refine tk 37 (opN rfl) b_13 b_20 b_10 b_16 ?_
 try simp only [layz]
 refine tk 38 (opN rfl) b_13 b_20 b_10 b_16 ?_
 try simp only [layz]
 refine tk 39 (opN rfl) b_13 b_20 b_10 b_16 ?_
 try simp only [layz]
 refine tk 40 (opN rfl) b_13 b_20 b_10 b_16 ?_
 try simp only [layz]
 refine tk 41 (opN rfl) b_13 b_20 b_10 b_16 ?_
 try simp only [layz]
 refine tk 42 (opN rfl) b_13 b_20 b_10 b_16 ?_
 try simp only [layz]
 refine tk 43 (opN rfl) b_13 b_20 b_10 b_16 ?_
 try simp only [layz]
 refine tk 44 (opN rfl) b_13 b_20 b_10 b_16 ?_
 try simp only [layz]
 refine tk 46 (opN rfl) b_13 b_20 b_10 b_16 ?_
 try simp only [layz]
 refine tk 47 (opN rfl) b_13 b_20 b_10 b_16 ?_
 try simp only [layz]
 refine wpAnyH_ready (rs := [45]) b_13 b_19 ?_
 refine (AllReadyH.cons (opN rfl) (fun K hK => ?_) AllReadyH.nil)
 go_simp
 go_at_call 24
 refine Calls.mono (C_impl_EqualInterests _ _ a _ d (Ty.rd_below b_0 ra) (Ty.rd_below b_0 rd_)) ?_
 rintro e u45 ⟨rfl, hu45⟩
 refine hK.out _ _ (HC.out _ b_0) (fun hHeld => ?_)
 clear hK K
 try simp only [layz]
 refine wpAnyH_ready (rs := [48]) b_13 b_19 ?_
 refine (AllReadyH.cons (opN rfl) (fun K hK => ?_) AllReadyH.nil)
 go_simp
 go_at_call 20
 refine Calls.mono (C_laws_sameWantG _ _ a _ d (Ty.rd_below b_0 ra) (Ty.rd_below b_0 rd_)) ?_
 rintro e u48 ⟨rfl, hu48⟩
 refine hK.out _ _ (HC.out _ b_0) (fun hHeld => ?_)
 clear hK K
 try simp only [layz]
 refine tk 49 (opN rfl) b_13 b_20 b_10 b_16 ?_
 try simp only [layz]
 refine tk 50 (opN rfl) b_13 b_20 b_10 b_16 ?_
 try simp only [layz]
 refine tk 51 (opN rfl) b_13 b_20 b_10 b_16 ?_
 try simp only [layz]
 refine tk 52 (opN rfl) b_13 b_20 b_10 b_16 ?_
 try simp only [layz]
 refine tk 53 (opN rfl) b_13 b_20 b_10 b_16 ?_
 try simp only [layz]
 refine wpAnyH_ready (rs := [54]) b_13 b_19 ?_
 refine (AllReadyH.cons (opN rfl) (fun K hK => ?_) AllReadyH.nil)
 go_simp
 go_at_call 20
 refine Calls.mono (C_laws_sameWantG _ _ o _ o (Ty.rd_below b_0 ro) (Ty.rd_below b_0 ru)) ?_
 rw [eqWant_self]
 rintro e u54 ⟨rfl, hu54⟩
 refine hK.out _ _ (HC.out _ b_0) (fun hHeld => ?_)
 clear hK K
 try simp only [layz]
 refine tk 55 (opN rfl) b_13 b_20 b_10 b_16 ?_
 try simp only [layz]
 refine tk 56 (opN rfl) b_13 b_20 b_10 b_16 ?_
 try simp only [layz]
 refine tk 57 (opN rfl) b_13 b_20 b_10 b_16 ?_
 try simp only [layz]
 refine tk 58 (opN rfl) b_13 b_20 b_10 b_16 ?_
 try simp only [layz]
 refine tk 59 (opN rfl) b_13 b_20 b_10 b_16 ?_
 try simp only [layz]
 refine tk 60 (opN rfl) b_13 b_20 b_10 b_16 ?_
 try simp only [layz]
 refine tk 61 (opN rfl) b_13 b_20 b_10 b_16 ?_
 try simp only [layz]
 refine tk 62 (opN rfl) b_13 b_20 b_10 b_16 ?_
 try simp only [layz]
 refine tk 63 (opN rfl) b_13 b_20 b_10 b_16 ?_
 try simp only [layz]
 refine tk 65 (opN rfl) b_13 b_20 b_10 b_16 ?_
 try simp only [layz]
 refine wpAnyH_ready (rs := [64]) b_13 b_19 ?_
 refine (AllReadyH.cons (opN rfl) (fun K hK => ?_) AllReadyH.nil)
 go_simp
 go_at_call 25
 refine Calls.mono (C_impl_FormatInterest _ _ x (Ty.rd_below b_0 rx) sbx (tabIs_bel ht9.out b_0)) ?_
 rintro e u64 ⟨rfl, hu64⟩
 refine hK.out _ _ (HC.out _ b_0) (fun hHeld => ?_)
 clear hK K
 try simp only [layz]
 refine wpAnyH_ready (rs := [66]) b_13 b_19 ?_
 refine (AllReadyH.cons (opN rfl) (fun K hK => ?_) AllReadyH.nil)
 go_simp
 go_at_call 26
 refine Calls.mono (C_spec_FormatInterest _ _ x (Ty.rd_below b_0 rx) sbx) ?_
 rintro e u66 ⟨rfl, hu66⟩
 refine hK.out _ _ (HC.out _ b_0) (fun hHeld => ?_)
 clear hK K
 try simp only [layz]
 refine tk 67 (opN rfl) b_13 b_20 b_10 b_16 ?_
 try simp only [layz]
 refine tk 68 (opN rfl) b_13 b_20 b_10 b_16 ?_
 try simp only [layz]
 refine tk 69 (opN rfl) b_13 b_20 b_10 b_16 ?_
 try simp only [layz]
 refine tk 70 (opN rfl) b_13 b_20 b_10 b_16 ?_
 try simp only [layz]
 refine tk 72 (opN rfl) b_13 b_20 b_10 b_16 ?_
 try simp only [layz]
 refine wpAnyH_ready (rs := [71]) b_13 b_19 ?_
 refine (AllReadyH.cons (opN rfl) (fun K hK => ?_) AllReadyH.nil)
 go_simp
 go_at_call 27
 refine Calls.mono (C_impl_ValidInterest _ _ x (Ty.rd_below b_0 rx)) ?_
 rintro e u71 ⟨rfl, hu71⟩
 refine hK.out _ _ (HC.out _ b_0) (fun hHeld => ?_)
 clear hK K
 try simp only [layz]
 refine wpAnyH_ready (rs := [73]) b_13 b_19 ?_
 refine (AllReadyH.cons (opN rfl) (fun K hK => ?_) AllReadyH.nil)
 go_simp
 go_at_call 28
 refine Calls.mono (C_spec_ValidInterest _ _ x (Ty.rd_below b_0 rx)) ?_
 rintro e u73 ⟨rfl, hu73⟩
 refine hK.out _ _ (HC.out _ b_0) (fun hHeld => ?_)
 clear hK K
 try simp only [layz]
 refine tk 74 (opN rfl) b_13 b_20 b_10 b_16 ?_
 try simp only [layz]
 refine tk 75 (opN rfl) b_13 b_20 b_10 b_16 ?_
 try simp only [layz]
 refine wpAnyH_done b_13 ?_ _
 refine NoPanic.normal ?_
 as_aux_lemma =>
  have hU : Below VZ.heap.size VZ u73 := b_0
  replace hW := bel_trans hW hU
  obtain ⟨_, _, _, _, _, hih, _⟩ := rd_Interest rh
  replace rx := Ty.rd_below hU rx
  replace rb := Ty.rd_below hU rb
  replace rc := Ty.rd_below hU rc
  replace ry := Ty.rd_below hU ry
  replace rq := Ty.rd_below hU rq
  replace rm := Ty.rd_below hU rm
  replace bX := Blk.below bX hU (Blk.lt bX)
  replace bY := Blk.below bY hU (Blk.lt bY)
  replace bM := Blk.below bM hU (Blk.lt bM)
  replace bO := Blk.below bO hU (Blk.lt bO)
  replace bH := Blk.below bH hU (Blk.lt bH)
  clear hU HC HY HK HM HN HA HO HL ht9 r0 rz rp rn rl ra rd_ rh ro ru bZ bN bL bA bD bU
  obtain ⟨VY, hVY⟩ : ∃ V, V = u73 := ⟨_, rfl⟩
  subst hVY
  go_upto_region 18 with fail
  go_cut [191] (fun s wx => s = .bool false ∧ Below VY.heap.size VY wx)
  case first =>
   as_aux_lemma =>
    cases ok
    case' false =>
     cases may
     case' false =>
      have HC2 : Hid (∀ V, Below VY.heap.size VY V → V.cell? ⟨w4.heap.size, 0, none⟩ = some (.slice Y0 (List.length y.1) Ya) ∧ V.cell? ⟨w4.heap.size, 1, none⟩ = some (.int .i64 y.2.1) ∧ V.cell? ⟨w4.heap.size, 2, none⟩ = some (.int .i64 y.2.2.1) ∧ V.cell? ⟨w4.heap.size, 3, none⟩ = some (.int .i64 y.2.2.2) ∧ V.cell? ⟨w8.heap.size, 0, none⟩ = some (.slice M0 (List.length m) Ma)) := fun V hV => ⟨(bY.below hV bY.lt).cell 0, (bY.below hV bY.lt).cell 1, (bY.below hV bY.lt).cell 2, (bY.below hV bY.lt).cell 3, (bM.below hV bM.lt).cell 0⟩
      refine wp_region_noPanic ?_
      refine wp_region_held_drew (S := (fun V => V.cell? ⟨w4.heap.size, 0, none⟩ = some (.slice Y0 (List.length y.1) Ya) ∧ V.cell? ⟨w4.heap.size, 1, none⟩ = some (.int .i64 y.2.1) ∧ V.cell? ⟨w4.heap.size, 2, none⟩ = some (.int .i64 y.2.2.1) ∧ V.cell? ⟨w4.heap.size, 3, none⟩ = some (.int .i64 y.2.2.2) ∧ V.cell? ⟨w8.heap.size, 0, none⟩ = some (.slice M0 (List.length m) Ma))) b_13 ?_ (fun hHeld => ?_)
      ·exact HC2.out _ b_0
      refine tk 0 (opN rfl) b_13 b_20 b_10 b_16 ?_
      try simp only [layz]
      refine tk 1 (opN rfl) b_13 b_20 b_10 b_16 ?_
      try simp only [layz]
      refine sk 2 (opN rfl) b_13 b_20 b_16 ?_
      try simp only [layz]
      refine sk 3 (opN rfl) b_13 b_20 b_16 ?_
      try simp only [layz]
      refine sk 4 (opN rfl) b_13 b_20 b_16 ?_
      try simp only [layz]
      refine sk 5 (opN rfl) b_13 b_20 b_16 ?_
      try simp only [layz]
      refine sk 6 (opN rfl) b_13 b_20 b_16 ?_
      try simp only [layz]
      refine sk 8 (opN rfl) b_13 b_20 b_16 ?_
      try simp only [layz]
      refine sk 7 (opN rfl) b_13 b_20 b_16 ?_
      try simp only [layz]
      refine sk 9 (opN rfl) b_13 b_20 b_16 ?_
      try simp only [layz]
      refine sk 10 (opN rfl) b_13 b_20 b_16 ?_
      try simp only [layz]
      refine sk 11 (opN rfl) b_13 b_20 b_16 ?_
      try simp only [layz]
      refine tk 12 (opN rfl) b_13 b_20 b_10 b_16 ?_
      try simp only [layz]
      refine tk 13 (opN rfl) b_13 b_20 b_10 b_16 ?_
      try simp only [layz]
      refine tk 14 (opN rfl) b_13 b_20 b_10 b_16 ?_
      try simp only [layz]
      refine tk 15 (opN rfl) b_13 b_20 b_10 b_16 ?_
      try simp only [layz]
      refine sk 16 (opN rfl) b_13 b_20 b_16 ?_
      try simp only [layz]
      refine sk 17 (opN rfl) b_13 b_20 b_16 ?_
      try simp only [layz]
      refine sk 19 (opN rfl) b_13 b_20 b_16 ?_
      try simp only [layz]
      refine sk 21 (opN rfl) b_13 b_20 b_16 ?_
      try simp only [layz]
      refine sk 22 (opN rfl) b_13 b_20 b_16 ?_
      try simp only [layz]
      refine sk 18 (opN rfl) b_13 b_20 b_16 ?_
      try simp only [layz]
      refine sk 23 (opN rfl) b_13 b_20 b_16 ?_
      try simp only [layz]
      refine sk 20 (opN rfl) b_13 b_20 b_16 ?_
      try simp only [layz]
      refine sk 24 (opN rfl) b_13 b_20 b_16 ?_
      try simp only [layz]
      refine sk 25 (opN rfl) b_13 b_20 b_16 ?_
      try simp only [layz]
      refine tk 26 (opN rfl) b_13 b_20 b_10 b_16 ?_
      try simp only [layz]
      refine tk 27 (opN rfl) b_13 b_20 b_10 b_16 ?_
      try simp only [layz]
      refine wpAnyH_done b_13 ?_ _
      refine NoPanic.normal ?_
      have hJ : Below VY.heap.size VY VY.drew := bel_drew (Below.refl _ _)
      go_wp2_with fail
      go_meet
      exact ⟨rfl, hJ⟩
     case' true =>
      obtain ⟨hra, hr0, hrb, hrc⟩ := HR.out (by first | rfl | trivial)
      obtain ⟨k1, rfl⟩ : ∃ k : Nat, i = k := ⟨i.toNat, by omega⟩
      obtain ⟨k2, rfl⟩ : ∃ k : Nat, nx = k := ⟨nx.toNat, by omega⟩
      simp only [Int.toNat_natCast] at hra
      have HR2 := Lib.hid hra
      clear hra
      obtain ⟨_, _, hqe, hqc, _, _⟩ := Ty.rd_sl rq
      injection hqe with hqA hqN hqC
      subst hqC
      clear hqA hqN
      have s1 : (0 : Int) ≤ (k1 : Int) := by omega
      have s2 : (k1 : Int) ≤ (cq : Int) := by omega
      have s3 : (0 : Int) ≤ (k2 : Int) := by omega
      have s4 : (k2 : Int) ≤ (cq : Int) := by omega
      have s5 : k1 ≤ cq := by omega
      have s6 : k2 ≤ cq := by omega
      have HC2 : Hid (∀ V, Below VY.heap.size VY V → V.cell? ⟨w4.heap.size, 0, none⟩ = some (.slice Y0 (List.length y.1) Ya) ∧ V.cell? ⟨w4.heap.size, 1, none⟩ = some (.int .i64 y.2.1) ∧ V.cell? ⟨w4.heap.size, 2, none⟩ = some (.int .i64 y.2.2.1) ∧ V.cell? ⟨w4.heap.size, 3, none⟩ = some (.int .i64 y.2.2.2) ∧ V.cell? ⟨w8.heap.size, 0, none⟩ = some (.slice M0 (List.length m) Ma)) := fun V hV => ⟨(bY.below hV bY.lt).cell 0, (bY.below hV bY.lt).cell 1, (bY.below hV bY.lt).cell 2, (bY.below hV bY.lt).cell 3, (bM.below hV bM.lt).cell 0⟩
      refine wp_region_noPanic ?_
      refine wp_region_held_drew (S := (fun V => V.cell? ⟨w4.heap.size, 0, none⟩ = some (.slice Y0 (List.length y.1) Ya) ∧ V.cell? ⟨w4.heap.size, 1, none⟩ = some (.int .i64 y.2.1) ∧ V.cell? ⟨w4.heap.size, 2, none⟩ = some (.int .i64 y.2.2.1) ∧ V.cell? ⟨w4.heap.size, 3, none⟩ = some (.int .i64 y.2.2.2) ∧ V.cell? ⟨w8.heap.size, 0, none⟩ = some (.slice M0 (List.length m) Ma))) b_13 ?_ (fun hHeld => ?_)
      ·exact HC2.out _ b_0
      refine tk 0 (opN rfl) b_13 b_20 b_10 b_16 ?_
      try simp only [layz]
      refine tk 1 (opN rfl) b_13 b_20 b_10 b_16 ?_
      try simp only [layz]
      refine sk 2 (opN rfl) b_13 b_20 b_16 ?_
      try simp only [layz]
      refine sk 3 (opN rfl) b_13 b_20 b_16 ?_
      try simp only [layz]
      refine sk 4 (opN rfl) b_13 b_20 b_16 ?_
      try simp only [layz]
      refine sk 5 (opN rfl) b_13 b_20 b_16 ?_
      try simp only [layz]
      refine sk 6 (opN rfl) b_13 b_20 b_16 ?_
      try simp only [layz]
      refine sk 8 (opN rfl) b_13 b_20 b_16 ?_
      try simp only [layz]
      refine sk 7 (opN rfl) b_13 b_20 b_16 ?_
      try simp only [layz]
      refine sk 9 (opN rfl) b_13 b_20 b_16 ?_
      try simp only [layz]
      refine sk 10 (opN rfl) b_13 b_20 b_16 ?_
      try simp only [layz]
      refine sk 11 (opN rfl) b_13 b_20 b_16 ?_
      try simp only [layz]
      refine tk 12 (opN rfl) b_13 b_20 b_10 b_16 ?_
      try simp only [layz]
      refine tk 13 (opN rfl) b_13 b_20 b_10 b_16 ?_
      try simp only [layz]
      refine tk 14 (opN rfl) b_13 b_20 b_10 b_16 ?_
      try simp only [layz]
      refine tk 15 (opN rfl) b_13 b_20 b_10 b_16 ?_
      try simp only [layz]
      refine tk 16 (opN rfl) b_13 b_20 b_10 b_16 ?_
      try simp only [layz]
      refine tk 17 (opN rfl) b_13 b_20 b_10 b_16 ?_
      try simp only [layz]
      refine tk 19 (opN rfl) b_13 b_20 b_10 b_16 ?_
      try simp only [layz]
      refine tk 21 (opN rfl) b_13 b_20 b_10 b_16 ?_
      try simp only [layz]
      refine tk 22 (opN rfl) b_13 b_20 b_10 b_16 ?_
      try simp only [layz]
      refine tk 18 (opN rfl) b_13 b_20 b_10 b_16 ?_
      try simp only [layz]
      refine tk 23 (opN rfl) b_13 b_20 b_10 b_16 ?_
      try simp only [layz]
      refine wpAnyH_ready (rs := [20]) b_13 b_19 ?_
      refine (AllReadyH.cons (opN rfl) (fun K hK => ?_) AllReadyH.nil)
      go_simp
      go_at_call 21
      refine Calls.mono (C_impl_AppendName _ _ (q.take k1) _ m (rd_takeV (Ty.rd_below b_0 rq) (k := k1) b_18) (Ty.rd_below b_0 rm) (by rw [List.length_take]; omega)) ?_
      rw [HR2.out]
      rintro e t20 hr20
      obtain ⟨A20, c20, g20, rfl, how20, -, hu20⟩ := RetRow.sl hr20
      have r20 := Ty.ow_rd how20
      clear how20 hr20
      rw [List.length_take] at r20
      refine hK.out _ _ (HC2.out _ b_0) (fun hHeld => ?_)
      clear hK K
      try simp only [layz]
      refine wpAnyH_ready (rs := [24]) b_13 b_19 ?_
      refine (AllReadyH.cons (opN rfl) (fun K hK => ?_) AllReadyH.nil)
      go_simp
      go_at_call 18
      refine Calls.mono (C_laws_sameG _ _ _ (q.take k2) (q.take k2) (Ty.rd_below b_0 r20) (rd_takeV (Ty.rd_below b_0 rq) (k := k2) b_18)) ?_
      rw [decide_self3]
      rintro e t24 ⟨rfl, hu24⟩
      refine hK.out _ _ (HC2.out _ b_0) (fun hHeld => ?_)
      clear hK K
      try simp only [layz]
      refine tk 25 (opN rfl) b_13 b_20 b_10 b_16 ?_
      try simp only [layz]
      refine tk 26 (opN rfl) b_13 b_20 b_10 b_16 ?_
      try simp only [layz]
      refine tk 27 (opN rfl) b_13 b_20 b_10 b_16 ?_
      try simp only [layz]
      refine wpAnyH_done b_13 ?_ _
      refine NoPanic.normal ?_
      have hJ : Below VY.heap.size VY t24 := b_0
      go_wp2_with fail
      go_meet
      exact ⟨rfl, hJ⟩
    case' true =>
     cases may
     case' false =>
      obtain ⟨hyv, hye⟩ := HF.out (by first | rfl | trivial)
      replace hyv := Lib.hid hyv
      replace hye := Lib.hid hye
      have HC2 : Hid (∀ V, Below VY.heap.size VY V → V.cell? ⟨w4.heap.size, 0, none⟩ = some (.slice Y0 (List.length y.1) Ya) ∧ V.cell? ⟨w4.heap.size, 1, none⟩ = some (.int .i64 y.2.1) ∧ V.cell? ⟨w4.heap.size, 2, none⟩ = some (.int .i64 y.2.2.1) ∧ V.cell? ⟨w4.heap.size, 3, none⟩ = some (.int .i64 y.2.2.2) ∧ V.cell? ⟨w8.heap.size, 0, none⟩ = some (.slice M0 (List.length m) Ma)) := fun V hV => ⟨(bY.below hV bY.lt).cell 0, (bY.below hV bY.lt).cell 1, (bY.below hV bY.lt).cell 2, (bY.below hV bY.lt).cell 3, (bM.below hV bM.lt).cell 0⟩
      refine wp_region_noPanic ?_
      refine wp_region_held_drew (S := (fun V => V.cell? ⟨w4.heap.size, 0, none⟩ = some (.slice Y0 (List.length y.1) Ya) ∧ V.cell? ⟨w4.heap.size, 1, none⟩ = some (.int .i64 y.2.1) ∧ V.cell? ⟨w4.heap.size, 2, none⟩ = some (.int .i64 y.2.2.1) ∧ V.cell? ⟨w4.heap.size, 3, none⟩ = some (.int .i64 y.2.2.2) ∧ V.cell? ⟨w8.heap.size, 0, none⟩ = some (.slice M0 (List.length m) Ma))) b_13 ?_ (fun hHeld => ?_)
      ·exact HC2.out _ b_0
      refine tk 0 (opN rfl) b_13 b_20 b_10 b_16 ?_
      try simp only [layz]
      refine tk 1 (opN rfl) b_13 b_20 b_10 b_16 ?_
      try simp only [layz]
      refine tk 2 (opN rfl) b_13 b_20 b_10 b_16 ?_
      try simp only [layz]
      refine wpAnyH_ready (rs := [3]) b_13 b_19 ?_
      refine (AllReadyH.cons (opN rfl) (fun K hK => ?_) AllReadyH.nil)
      go_simp
      go_at_call 27
      refine Calls.mono (C_impl_ValidInterest _ _ y (Ty.rd_below b_0 ry)) ?_
      rw [hyv.out]
      rintro e t3 ⟨rfl, hu3⟩
      refine hK.out _ _ (HC2.out _ b_0) (fun hHeld => ?_)
      clear hK K
      try simp only [layz]
      refine tk 4 (opN rfl) b_13 b_20 b_10 b_16 ?_
      try simp only [layz]
      refine tk 5 (opN rfl) b_13 b_20 b_10 b_16 ?_
      try simp only [layz]
      refine tk 6 (opN rfl) b_13 b_20 b_10 b_16 ?_
      try simp only [layz]
      refine tk 8 (opN rfl) b_13 b_20 b_10 b_16 ?_
      try simp only [layz]
      refine wpAnyH_ready (rs := [7]) b_13 b_19 ?_
      refine (AllReadyH.cons (opN rfl) (fun K hK => ?_) AllReadyH.nil)
      go_simp
      go_at_call 6
      refine Calls.mono (C_impl_EncodeInterest _ _ y (Ty.rd_below b_0 ry) sby) ?_
      rw [hye.out]
      rintro e t7 ⟨A7, c7, g7, rfl, how7, -, hu7⟩
      have r7 := Ty.ow_rd how7
      clear how7
      refine hK.out _ _ (HC2.out _ b_0) (fun hHeld => ?_)
      clear hK K
      try simp only [layz]
      refine wpAnyH_ready (rs := [9]) b_13 b_19 ?_
      refine (AllReadyH.cons (opN rfl) (fun K hK => ?_) AllReadyH.nil)
      go_simp
      go_at_call 18
      refine Calls.mono (C_laws_sameG _ _ _ _ _ (Ty.rd_below b_0 r7) (Ty.rd_below b_0 rc)) ?_
      rw [decide_self3]
      rintro e t9 ⟨rfl, hu9⟩
      refine hK.out _ _ (HC2.out _ b_0) (fun hHeld => ?_)
      clear hK K
      try simp only [layz]
      refine tk 10 (opN rfl) b_13 b_20 b_10 b_16 ?_
      try simp only [layz]
      refine tk 11 (opN rfl) b_13 b_20 b_10 b_16 ?_
      try simp only [layz]
      refine tk 12 (opN rfl) b_13 b_20 b_10 b_16 ?_
      try simp only [layz]
      refine tk 13 (opN rfl) b_13 b_20 b_10 b_16 ?_
      try simp only [layz]
      refine tk 14 (opN rfl) b_13 b_20 b_10 b_16 ?_
      try simp only [layz]
      refine tk 15 (opN rfl) b_13 b_20 b_10 b_16 ?_
      try simp only [layz]
      refine sk 16 (opN rfl) b_13 b_20 b_16 ?_
      try simp only [layz]
      refine sk 17 (opN rfl) b_13 b_20 b_16 ?_
      try simp only [layz]
      refine sk 19 (opN rfl) b_13 b_20 b_16 ?_
      try simp only [layz]
      refine sk 21 (opN rfl) b_13 b_20 b_16 ?_
      try simp only [layz]
      refine sk 22 (opN rfl) b_13 b_20 b_16 ?_
      try simp only [layz]
      refine sk 18 (opN rfl) b_13 b_20 b_16 ?_
      try simp only [layz]
      refine sk 23 (opN rfl) b_13 b_20 b_16 ?_
      try simp only [layz]
      refine sk 20 (opN rfl) b_13 b_20 b_16 ?_
      try simp only [layz]
      refine sk 24 (opN rfl) b_13 b_20 b_16 ?_
      try simp only [layz]
      refine sk 25 (opN rfl) b_13 b_20 b_16 ?_
      try simp only [layz]
      refine tk 26 (opN rfl) b_13 b_20 b_10 b_16 ?_
      try simp only [layz]
      refine tk 27 (opN rfl) b_13 b_20 b_10 b_16 ?_
      try simp only [layz]
      refine wpAnyH_done b_13 ?_ _
      refine NoPanic.normal ?_
      have hJ : Below VY.heap.size VY t9 := b_0
      go_wp2_with fail
      go_meet
      exact ⟨rfl, hJ⟩
     case' true =>
      obtain ⟨hyv, hye⟩ := HF.out (by first | rfl | trivial)
      replace hyv := Lib.hid hyv
      replace hye := Lib.hid hye
      obtain ⟨hra, hr0, hrb, hrc⟩ := HR.out (by first | rfl | trivial)
      obtain ⟨k1, rfl⟩ : ∃ k : Nat, i = k := ⟨i.toNat, by omega⟩
      obtain ⟨k2, rfl⟩ : ∃ k : Nat, nx = k := ⟨nx.toNat, by omega⟩
      simp only [Int.toNat_natCast] at hra
      have HR2 := Lib.hid hra
      clear hra
      obtain ⟨_, _, hqe, hqc, _, _⟩ := Ty.rd_sl rq
      injection hqe with hqA hqN hqC
      subst hqC
      clear hqA hqN
      have s1 : (0 : Int) ≤ (k1 : Int) := by omega
      have s2 : (k1 : Int) ≤ (cq : Int) := by omega
      have s3 : (0 : Int) ≤ (k2 : Int) := by omega
      have s4 : (k2 : Int) ≤ (cq : Int) := by omega
      have s5 : k1 ≤ cq := by omega
      have s6 : k2 ≤ cq := by omega
      have HC2 : Hid (∀ V, Below VY.heap.size VY V → V.cell? ⟨w4.heap.size, 0, none⟩ = some (.slice Y0 (List.length y.1) Ya) ∧ V.cell? ⟨w4.heap.size, 1, none⟩ = some (.int .i64 y.2.1) ∧ V.cell? ⟨w4.heap.size, 2, none⟩ = some (.int .i64 y.2.2.1) ∧ V.cell? ⟨w4.heap.size, 3, none⟩ = some (.int .i64 y.2.2.2) ∧ V.cell? ⟨w8.heap.size, 0, none⟩ = some (.slice M0 (List.length m) Ma)) := fun V hV => ⟨(bY.below hV bY.lt).cell 0, (bY.below hV bY.lt).cell 1, (bY.below hV bY.lt).cell 2, (bY.below hV bY.lt).cell 3, (bM.below hV bM.lt).cell 0⟩
      refine wp_region_noPanic ?_
      refine wp_region_held_drew (S := (fun V => V.cell? ⟨w4.heap.size, 0, none⟩ = some (.slice Y0 (List.length y.1) Ya) ∧ V.cell? ⟨w4.heap.size, 1, none⟩ = some (.int .i64 y.2.1) ∧ V.cell? ⟨w4.heap.size, 2, none⟩ = some (.int .i64 y.2.2.1) ∧ V.cell? ⟨w4.heap.size, 3, none⟩ = some (.int .i64 y.2.2.2) ∧ V.cell? ⟨w8.heap.size, 0, none⟩ = some (.slice M0 (List.length m) Ma))) b_13 ?_ (fun hHeld => ?_)
      ·exact HC2.out _ b_0
      refine tk 0 (opN rfl) b_13 b_20 b_10 b_16 ?_
      try simp only [layz]
      refine tk 1 (opN rfl) b_13 b_20 b_10 b_16 ?_
      try simp only [layz]
      refine tk 2 (opN rfl) b_13 b_20 b_10 b_16 ?_
      try simp only [layz]
      refine wpAnyH_ready (rs := [3]) b_13 b_19 ?_
      refine (AllReadyH.cons (opN rfl) (fun K hK => ?_) AllReadyH.nil)
      go_simp
      go_at_call 27
      refine Calls.mono (C_impl_ValidInterest _ _ y (Ty.rd_below b_0 ry)) ?_
      rw [hyv.out]
      rintro e t3 ⟨rfl, hu3⟩
      refine hK.out _ _ (HC2.out _ b_0) (fun hHeld => ?_)
      clear hK K
      try simp only [layz]
      refine tk 4 (opN rfl) b_13 b_20 b_10 b_16 ?_
      try simp only [layz]
      refine tk 5 (opN rfl) b_13 b_20 b_10 b_16 ?_
      try simp only [layz]
      refine tk 6 (opN rfl) b_13 b_20 b_10 b_16 ?_
      try simp only [layz]
      refine tk 8 (opN rfl) b_13 b_20 b_10 b_16 ?_
      try simp only [layz]
      refine wpAnyH_ready (rs := [7]) b_13 b_19 ?_
      refine (AllReadyH.cons (opN rfl) (fun K hK => ?_) AllReadyH.nil)
      go_simp
      go_at_call 6
      refine Calls.mono (C_impl_EncodeInterest _ _ y (Ty.rd_below b_0 ry) sby) ?_
      rw [hye.out]
      rintro e t7 ⟨A7, c7, g7, rfl, how7, -, hu7⟩
      have r7 := Ty.ow_rd how7
      clear how7
      refine hK.out _ _ (HC2.out _ b_0) (fun hHeld => ?_)
      clear hK K
      try simp only [layz]
      refine wpAnyH_ready (rs := [9]) b_13 b_19 ?_
      refine (AllReadyH.cons (opN rfl) (fun K hK => ?_) AllReadyH.nil)
      go_simp
      go_at_call 18
      refine Calls.mono (C_laws_sameG _ _ _ _ _ (Ty.rd_below b_0 r7) (Ty.rd_below b_0 rc)) ?_
      rw [decide_self3]
      rintro e t9 ⟨rfl, hu9⟩
      refine hK.out _ _ (HC2.out _ b_0) (fun hHeld => ?_)
      clear hK K
      try simp only [layz]
      refine tk 10 (opN rfl) b_13 b_20 b_10 b_16 ?_
      try simp only [layz]
      refine tk 11 (opN rfl) b_13 b_20 b_10 b_16 ?_
      try simp only [layz]
      refine tk 12 (opN rfl) b_13 b_20 b_10 b_16 ?_
      try simp only [layz]
      refine tk 13 (opN rfl) b_13 b_20 b_10 b_16 ?_
      try simp only [layz]
      refine tk 14 (opN rfl) b_13 b_20 b_10 b_16 ?_
      try simp only [layz]
      refine tk 15 (opN rfl) b_13 b_20 b_10 b_16 ?_
      try simp only [layz]
      refine tk 16 (opN rfl) b_13 b_20 b_10 b_16 ?_
      try simp only [layz]
      refine tk 17 (opN rfl) b_13 b_20 b_10 b_16 ?_
      try simp only [layz]
      refine tk 19 (opN rfl) b_13 b_20 b_10 b_16 ?_
      try simp only [layz]
      refine tk 21 (opN rfl) b_13 b_20 b_10 b_16 ?_
      try simp only [layz]
      refine tk 22 (opN rfl) b_13 b_20 b_10 b_16 ?_
      try simp only [layz]
      refine tk 18 (opN rfl) b_13 b_20 b_10 b_16 ?_
      try simp only [layz]
      refine tk 23 (opN rfl) b_13 b_20 b_10 b_16 ?_
      try simp only [layz]
      refine wpAnyH_ready (rs := [20]) b_13 b_19 ?_
      refine (AllReadyH.cons (opN rfl) (fun K hK => ?_) AllReadyH.nil)
      go_simp
      go_at_call 21
      refine Calls.mono (C_impl_AppendName _ _ (q.take k1) _ m (rd_takeV (Ty.rd_below b_0 rq) (k := k1) b_18) (Ty.rd_below b_0 rm) (by rw [List.length_take]; omega)) ?_
      rw [HR2.out]
      rintro e t20 hr20
      obtain ⟨A20, c20, g20, rfl, how20, -, hu20⟩ := RetRow.sl hr20
      have r20 := Ty.ow_rd how20
      clear how20 hr20
      rw [List.length_take] at r20
      refine hK.out _ _ (HC2.out _ b_0) (fun hHeld => ?_)
      clear hK K
      try simp only [layz]
      refine wpAnyH_ready (rs := [24]) b_13 b_19 ?_
      refine (AllReadyH.cons (opN rfl) (fun K hK => ?_) AllReadyH.nil)
      go_simp
      go_at_call 18
      refine Calls.mono (C_laws_sameG _ _ _ (q.take k2) (q.take k2) (Ty.rd_below b_0 r20) (rd_takeV (Ty.rd_below b_0 rq) (k := k2) b_18)) ?_
      rw [decide_self3]
      rintro e t24 ⟨rfl, hu24⟩
      refine hK.out _ _ (HC2.out _ b_0) (fun hHeld => ?_)
      clear hK K
      try simp only [layz]
      refine tk 25 (opN rfl) b_13 b_20 b_10 b_16 ?_
      try simp only [layz]
      refine tk 26 (opN rfl) b_13 b_20 b_10 b_16 ?_
      try simp only [layz]
      refine tk 27 (opN rfl) b_13 b_20 b_10 b_16 ?_
      try simp only [layz]
      refine wpAnyH_done b_13 ?_ _
      refine NoPanic.normal ?_
      have hJ : Below VY.heap.size VY t24 := b_0
      go_wp2_with fail
      go_meet
      exact ⟨rfl, hJ⟩
  clear HF HR rc ry rq rm bY bM
  obtain ⟨q0, hwc⟩ : ∃ V, V = wc := ⟨_, rfl⟩
  subst hwc
  obtain ⟨rfl, hb⟩ := hcut
  replace rx := Ty.rd_below hb rx
  replace rb := Ty.rd_below hb rb
  replace bX := Blk.below bX hb (Blk.lt bX)
  replace bO := Blk.below bO hb (Blk.lt bO)
  replace bH := Blk.below bH hb (Blk.lt bH)
  replace hW := bel_trans hW hb
  clear hb
  go_wp2_with fail
  refine Calls.mono (C_impl_DecodeInterest _ _ b rb sbb) ?_
  obtain ⟨e1, he⟩ : ∃ y, y = f0_DecodeInterest b := ⟨_, rfl⟩
  obtain ⟨vx, hvx⟩ : ∃ o, o = f_ValidInterest x := ⟨_, rfl⟩
  have hbk : f1_DecodeInterest b = vx := by rw [HB.out, wf1_back, hvx]
  have HE := Lib.hid (show vx = true → e1 = x from fun hv => by rw [he, HB.out, wf0_back (hvx.symm.trans hv)])
  rw [← he, hbk]
  have HVX := Lib.hid hvx
  clear he hvx hbk
  rintro e q1 ⟨cq1, fq1, rfl, how, -, hb⟩
  obtain ⟨E0, Ea, rfl⟩ := ow_Interest how
  have re := Ty.ow_rd how
  clear how
  replace rx := Ty.rd_below hb rx
  replace rb := Ty.rd_below hb rb
  replace bX := Blk.below bX hb (Blk.lt bX)
  replace bO := Blk.below bO hb (Blk.lt bO)
  replace bH := Blk.below bH hb (Blk.lt bH)
  replace hW := bel_trans hW hb
  clear hb
  obtain ⟨kbX0, kbX1, kbX2, kbX3, -, -, -, -, -⟩ := bk4 bX
  have zkbX := bX.lt
  go_wp2_with fail
  clear kbX0 kbX1 kbX2 kbX3 zkbX
  obtain ⟨Q1, hQ1⟩ : ∃ V, V = (q1.alloc (.cells #[.slice E0 (List.length e1.1) Ea, .int .i64 e1.2.1, .int .i64 e1.2.2.1, .int .i64 e1.2.2.2] 28)) := ⟨_, rfl⟩
  have bQ1 : Below q1.heap.size q1 Q1 := by rw [hQ1]; exact b_0
  have bE : Blk Q1 (q1.heap.size) 28 #[.slice E0 (List.length e1.1) Ea, .int .i64 e1.2.1, .int .i64 e1.2.2.1, .int .i64 e1.2.2.2] := by rw [hQ1]; have := Blk.new q1 28 #[.slice E0 (List.length e1.1) Ea, .int .i64 e1.2.1, .int .i64 e1.2.2.1, .int .i64 e1.2.2.2]; (try simp only [World.size_alloc] at this); exact this
  have zbE := bE.lt
  rw [← hQ1]
  clear hQ1
  replace rx := Ty.rd_below bQ1 rx
  replace rb := Ty.rd_below bQ1 rb
  replace bX := Blk.below bX bQ1 (Blk.lt bX)
  replace bO := Blk.below bO bQ1 (Blk.lt bO)
  replace bH := Blk.below bH bQ1 (Blk.lt bH)
  replace re := Ty.rd_below bQ1 re
  replace hW := bel_trans hW bQ1
  clear bQ1
  refine Calls.mono (C_impl_ValidInterest _ _ x rx) ?_
  rw [← HVX.out]
  rintro e q2 ⟨rfl, hb⟩
  replace rx := Ty.rd_below hb rx
  replace rb := Ty.rd_below hb rb
  replace bX := Blk.below bX hb (Blk.lt bX)
  replace bO := Blk.below bO hb (Blk.lt bO)
  replace bH := Blk.below bH hb (Blk.lt bH)
  replace re := Ty.rd_below hb re
  replace bE := Blk.below bE hb (Blk.lt bE)
  replace hW := bel_trans hW hb
  clear hb
  cases vx
  case' false =>
   cases left
   case' false =>
    obtain ⟨kbO0, kbO1, kbO2, kbO3, -, -, -, -, -⟩ := bk4 bO
    have zkbO := bO.lt
    obtain ⟨kbH0, kbH1, kbH2, kbH3, -, -, -, -, -⟩ := bk4 bH
    have zkbH := bH.lt
    go_wp2
    go_ret
    exact ⟨rfl, hW⟩
   case' true =>
    obtain ⟨hl1, hl2⟩ := HD.out (by first | rfl | trivial)
    have hwr : IntKind.i64.wrap (h.2.2.1 - 1) = h.2.2.1 - 1 := IntWalk.i64_in _ (dec_wr hih hl1 hl2)
    have q5 : ((o.2.2.1 : Int) == h.2.2.1 - 1) = true := by rw [beq_iff_eq]; exact hl1
    have q6 : decide ((0 : Int) ≤ o.2.2.1) = true := decide_eq_true hl2
    have q7 : (0 : Int) ≤ o.2.2.1 := hl2
    clear hl1 hl2
    obtain ⟨kbO0, kbO1, kbO2, kbO3, -, -, -, -, -⟩ := bk4 bO
    have zkbO := bO.lt
    obtain ⟨kbH0, kbH1, kbH2, kbH3, -, -, -, -, -⟩ := bk4 bH
    have zkbH := bH.lt
    go_wp2
    go_ret
    exact ⟨rfl, hW⟩
  case' true =>
   obtain ⟨kbE0, kbE1, kbE2, kbE3, -, -, -, -, -⟩ := bk4 bE
   have zkbE := bE.lt
   obtain ⟨kbX0, kbX1, kbX2, kbX3, -, -, -, -, -⟩ := bk4 bX
   have zkbX := bX.lt
   go_wp2_with fail
   clear kbE0 kbE1 kbE2 kbE3 zkbE
   clear kbX0 kbX1 kbX2 kbX3 zkbX
   refine Calls.mono (C_laws_sameWantG _ _ e1 _ x re rx) ?_
   rw [HE.out (by first | rfl | trivial), eqWant_self]
   rintro e q3 ⟨rfl, hb⟩
   replace rx := Ty.rd_below hb rx
   replace rb := Ty.rd_below hb rb
   replace bX := Blk.below bX hb (Blk.lt bX)
   replace bO := Blk.below bO hb (Blk.lt bO)
   replace bH := Blk.below bH hb (Blk.lt bH)
   replace re := Ty.rd_below hb re
   replace bE := Blk.below bE hb (Blk.lt bE)
   replace hW := bel_trans hW hb
   clear hb
   cases left
   case' false =>
    obtain ⟨kbO0, kbO1, kbO2, kbO3, -, -, -, -, -⟩ := bk4 bO
    have zkbO := bO.lt
    obtain ⟨kbH0, kbH1, kbH2, kbH3, -, -, -, -, -⟩ := bk4 bH
    have zkbH := bH.lt
    go_wp2
    go_ret
    exact ⟨rfl, hW⟩
   case' true =>
    obtain ⟨hl1, hl2⟩ := HD.out (by first | rfl | trivial)
    have hwr : IntKind.i64.wrap (h.2.2.1 - 1) = h.2.2.1 - 1 := IntWalk.i64_in _ (dec_wr hih hl1 hl2)
    have q5 : ((o.2.2.1 : Int) == h.2.2.1 - 1) = true := by rw [beq_iff_eq]; exact hl1
    have q6 : decide ((0 : Int) ≤ o.2.2.1) = true := decide_eq_true hl2
    have q7 : (0 : Int) ≤ o.2.2.1 := hl2
    clear hl1 hl2
    obtain ⟨kbO0, kbO1, kbO2, kbO3, -, -, -, -, -⟩ := bk4 bO
    have zkbO := bO.lt
    obtain ⟨kbH0, kbH1, kbH2, kbH3, -, -, -, -, -⟩ := bk4 bH
    have zkbH := bH.lt
    go_wp2
    go_ret
    exact ⟨rfl, hW⟩
end Go.Proofs.YtidnahocnhcoiaaDoor
