/- Texts of this claim, merged by a program: LFnThings. -/
import Derived.Test.YtldgbnlcnlfmeaaQhP
import Derived.Test.YtldgbnlcnlfmeaaQh10
import Derived.Test.YtldgbnlcnlfmeaaQh14
import Derived.Test.YtldgbnlcnlfmeaaQh6
import Derived.Test.YtldgbnlcnlfmeaaQh7
import Derived.Test.YtldgbnlcnlfmeaaQh5
import Derived.Test.YtldgbnlcnlfmeaaQh13
import Derived.Deep.RegionHeld3
namespace Go.Proofs.Ytldgbnlcnlfmeaa
open Go.RowKit
set_option linter.unusedVariables false
set_option linter.unusedSimpArgs false
theorem decide_self {α : Type} [DecidableEq α] (x : α) : decide (x = x) = true := by simp
theorem eqData_self (x : Ty.D tData) : f_EqualData x x = true := by unfold f_EqualData; simp
theorem wr64b (n : Int) : -9223372036854775808 ≤ wrap64 n ∧ wrap64 n ≤ 9223372036854775807 := by unfold wrap64; omega
theorem tm64 (n : Int) : -9223372036854775808 ≤ n.tmod 2147483647 ∧ n.tmod 2147483647 ≤ 9223372036854775807 := by have := tmodP_bd n; omega
theorem u8_bd (n : Int) : 0 ≤ IntKind.u8.wrap n ∧ IntKind.u8.wrap n ≤ 255 := by rw [IntKind.wrap_u8]; omega
theorem bent_ne {a : UInt8} {z k : Int} (h : z = IntKind.u8.wrap (IntKind.u8.wrap ((a.toNat : Int) + 1) + IntKind.u8.wrap (k.tmod 255))) (h0 : 0 ≤ k) (h1 : k ≤ 255) : UInt8.ofNat z.toNat ≠ a := by
 intro e
 have h2 : (UInt8.ofNat z.toNat).toNat = a.toNat := by rw [e]
 have h3 : a.toNat < 256 := a.toNat_lt
 simp only [UInt8.toNat_ofNat'] at h2
 have h4 : k.tmod 255 = k % 255 := Int.tmod_eq_emod_of_nonneg h0
 rw [h4] at h
 simp only [IntKind.wrap_u8] at h
 omega
theorem decode_bulk (b : List UInt8) : Ty.bulk tData (f0_DecodeData b) ≤ 1048576 := by
 unfold f0_DecodeData
 cases h : decodeData b with
 | none => exact Nat.zero_le _
 | some x => exact decodeData_bulk h
set_option maxRecDepth 100000 in
set_option maxHeartbeats 4000000 in
theorem L_FnThings (w : World) (v0 : Value) (x0 : Ty.D (.sl .byte)) (h0 : Ty.rd w (.sl .byte) [v0] x0) :
  Calls Try.prog 6 #[v0] w (RetB w true) := by
 obtain ⟨A0, c0, rfl, hc0, hm0, hn0⟩ := Ty.rd_sl h0
 go_enter Try.func6, Try.ntmps6
 go_wp2_with fail
 refine (C_laws_bigG _ _ _ _).mono ?_
 rintro e w1 ⟨rfl, hw1⟩
 obtain rfl : w = w1 := hw1.symm
 by_cases hbig : (x0.length : Int) > 1048576
 ·go_wp2
  go_ret
  exact ⟨rfl, b_5⟩
 go_wp2_with fail
 refine Calls.mono (C_spec_DrawEncodeData _ _ x0 (Ty.rd_below b_5 h0)) ?_
 rintro e w1 ⟨csx, x, rfl, rx, hokx, hb⟩
 obtain ⟨X0, Xa, X1, Xb, X2, Xc, rfl, -⟩ := rd_Data rx
 have sbx := Nat.le_trans (thing_bulk hokx) (show 201 ≤ 1048576 by decide)
 clear hokx
 have r0 := Ty.rd_below hb h0
 have hW := bel_trans b_5 hb
 clear hb
 go_wp2_with fail
 obtain ⟨V1, hV1⟩ : ∃ V, V = (w1.alloc (.cells #[.slice X0 (List.length x.1) Xa, .slice X1 (List.length x.2.1) Xb, .slice X2 (List.length x.2.2.1) Xc, .int .i64 x.2.2.2.1, .int .i64 x.2.2.2.2] 46)) := ⟨_, rfl⟩
 have bV1 : Below w1.heap.size w1 V1 := by rw [hV1]; exact b_2
 have bX : Blk V1 (w1.heap.size) 46 #[.slice X0 (List.length x.1) Xa, .slice X1 (List.length x.2.1) Xb, .slice X2 (List.length x.2.2.1) Xc, .int .i64 x.2.2.2.1, .int .i64 x.2.2.2.2] := by rw [hV1]; have := Blk.new w1 46 #[.slice X0 (List.length x.1) Xa, .slice X1 (List.length x.2.1) Xb, .slice X2 (List.length x.2.2.1) Xc, .int .i64 x.2.2.2.1, .int .i64 x.2.2.2.2]; (try simp only [World.size_alloc] at this); exact this
 have zbX := bX.lt
 rw [← hV1]
 clear hV1
 replace r0 := Ty.rd_below bV1 r0
 replace rx := Ty.rd_below bV1 rx
 replace hW := bel_trans hW bV1
 clear bV1
 refine Calls.mono (C_impl_EncodeData _ _ x rx sbx) ?_
 obtain ⟨b, hbb⟩ : ∃ y, y = f_EncodeData x := ⟨_, rfl⟩
 have sbb : Ty.bulk (.sl .byte) b ≤ 1048576 := by rw [Ty.bulk_flat (fun _ => rfl), hbb]; have := encData_small x; omega
 have HB := Lib.hid hbb
 rw [← hbb]
 clear hbb
 rintro e w2 ⟨Eb, ec, fp2, rfl, how2, -, hb⟩
 have rb := Ty.ow_rd how2
 clear how2
 replace r0 := Ty.rd_below hb r0
 replace rx := Ty.rd_below hb rx
 replace bX := Blk.below bX hb (Blk.lt bX)
 replace hW := bel_trans hW hb
 clear hb
 go_wp2_with fail
 refine Calls.mono (C_spec_DrawDecodeData _ _ x0 r0) ?_
 rintro e w3 ⟨Cc, c, cc, rfl, rc, hlc, hb⟩
 have sbc : Ty.bulk (.sl .byte) c ≤ 1048576 := by rw [Ty.bulk_flat (fun _ => rfl)]; omega
 clear hlc
 replace r0 := Ty.rd_below hb r0
 replace rx := Ty.rd_below hb rx
 replace bX := Blk.below bX hb (Blk.lt bX)
 replace rb := Ty.rd_below hb rb
 replace hW := bel_trans hW hb
 clear hb
 go_wp2_with fail
 refine Calls.mono (C_impl_DecodeData _ _ c rc sbc) ?_
 obtain ⟨y, hy⟩ : ∃ y, y = f0_DecodeData c := ⟨_, rfl⟩
 obtain ⟨ok, hok⟩ : ∃ o, o = f1_DecodeData c := ⟨_, rfl⟩
 have HF := @f1_Decode c
 have sby := decode_bulk c
 rw [← hy] at HF sby
 rw [← hok] at HF
 replace HF := Lib.hid HF
 have HY := Lib.hid hy
 have HK := Lib.hid hok
 rw [← hy, ← hok]
 clear hy hok
 rintro e w4 ⟨cs4, fp4, rfl, how4, -, hb⟩
 obtain ⟨Y0, Ya, Y1, Yb, Y2, Yc, rfl⟩ := ow_Data how4
 have ry := Ty.ow_rd how4
 clear how4
 replace r0 := Ty.rd_below hb r0
 replace rx := Ty.rd_below hb rx
 replace bX := Blk.below bX hb (Blk.lt bX)
 replace rb := Ty.rd_below hb rb
 replace rc := Ty.rd_below hb rc
 replace hW := bel_trans hW hb
 clear hb
 go_wp2_with fail
 obtain ⟨V4, hV4⟩ : ∃ V, V = (w4.alloc (.cells #[.slice Y0 (List.length y.1) Ya, .slice Y1 (List.length y.2.1) Yb, .slice Y2 (List.length y.2.2.1) Yc, .int .i64 y.2.2.2.1, .int .i64 y.2.2.2.2] 46)) := ⟨_, rfl⟩
 have bV4 : Below w4.heap.size w4 V4 := by rw [hV4]; exact b_2
 have bY : Blk V4 (w4.heap.size) 46 #[.slice Y0 (List.length y.1) Ya, .slice Y1 (List.length y.2.1) Yb, .slice Y2 (List.length y.2.2.1) Yc, .int .i64 y.2.2.2.1, .int .i64 y.2.2.2.2] := by rw [hV4]; have := Blk.new w4 46 #[.slice Y0 (List.length y.1) Ya, .slice Y1 (List.length y.2.1) Yb, .slice Y2 (List.length y.2.2.1) Yc, .int .i64 y.2.2.2.1, .int .i64 y.2.2.2.2]; (try simp only [World.size_alloc] at this); exact this
 have zbY := bY.lt
 rw [← hV4]
 clear hV4
 replace r0 := Ty.rd_below bV4 r0
 replace rx := Ty.rd_below bV4 rx
 replace bX := Blk.below bX bV4 (Blk.lt bX)
 replace rb := Ty.rd_below bV4 rb
 replace rc := Ty.rd_below bV4 rc
 replace ry := Ty.rd_below bV4 ry
 replace hW := bel_trans hW bV4
 clear bV4
 refine Calls.mono (C_spec_DecodeData _ _ c rc sbc) ?_
 rw [← HY.out, ← HK.out]
 rintro e w5 ⟨cs5, fp5, rfl, how5, -, hb⟩
 obtain ⟨Z0, Za, Z1, Zb, Z2, Zc, rfl⟩ := ow_Data how5
 have rz := Ty.ow_rd how5
 clear how5
 replace r0 := Ty.rd_below hb r0
 replace rx := Ty.rd_below hb rx
 replace bX := Blk.below bX hb (Blk.lt bX)
 replace rb := Ty.rd_below hb rb
 replace rc := Ty.rd_below hb rc
 replace ry := Ty.rd_below hb ry
 replace bY := Blk.below bY hb (Blk.lt bY)
 replace hW := bel_trans hW hb
 clear hb
 go_wp2_with fail
 obtain ⟨V5, hV5⟩ : ∃ V, V = (w5.alloc (.cells #[.slice Z0 (List.length y.1) Za, .slice Z1 (List.length y.2.1) Zb, .slice Z2 (List.length y.2.2.1) Zc, .int .i64 y.2.2.2.1, .int .i64 y.2.2.2.2] 46)) := ⟨_, rfl⟩
 have bV5 : Below w5.heap.size w5 V5 := by rw [hV5]; exact b_2
 have bZ : Blk V5 (w5.heap.size) 46 #[.slice Z0 (List.length y.1) Za, .slice Z1 (List.length y.2.1) Zb, .slice Z2 (List.length y.2.2.1) Zc, .int .i64 y.2.2.2.1, .int .i64 y.2.2.2.2] := by rw [hV5]; have := Blk.new w5 46 #[.slice Z0 (List.length y.1) Za, .slice Z1 (List.length y.2.1) Zb, .slice Z2 (List.length y.2.2.1) Zc, .int .i64 y.2.2.2.1, .int .i64 y.2.2.2.2]; (try simp only [World.size_alloc] at this); exact this
 have zbZ := bZ.lt
 rw [← hV5]
 clear hV5
 replace r0 := Ty.rd_below bV5 r0
 replace rx := Ty.rd_below bV5 rx
 replace bX := Blk.below bX bV5 (Blk.lt bX)
 replace rb := Ty.rd_below bV5 rb
 replace rc := Ty.rd_below bV5 rc
 replace ry := Ty.rd_below bV5 ry
 replace bY := Blk.below bY bV5 (Blk.lt bY)
 replace rz := Ty.rd_below bV5 rz
 replace hW := bel_trans hW bV5
 clear bV5
 refine Calls.mono (C_spec_DrawSignData _ _ x0 r0) ?_
 rintro e w6 ⟨k, css, s, rfl, rs, hoks, ik, hb⟩
 obtain ⟨S0, Sa, S1, Sb, S2, Sc, rfl, -⟩ := rd_Data rs
 have sbs := Nat.le_trans (thing_bulk hoks) (show 201 ≤ 1048576 by decide)
 clear hoks
 replace r0 := Ty.rd_below hb r0
 replace rx := Ty.rd_below hb rx
 replace bX := Blk.below bX hb (Blk.lt bX)
 replace rb := Ty.rd_below hb rb
 replace rc := Ty.rd_below hb rc
 replace ry := Ty.rd_below hb ry
 replace bY := Blk.below bY hb (Blk.lt bY)
 replace rz := Ty.rd_below hb rz
 replace bZ := Blk.below bZ hb (Blk.lt bZ)
 replace hW := bel_trans hW hb
 clear hb
 go_wp2_with fail
 obtain ⟨V6, hV6⟩ : ∃ V, V = (w6.alloc (.cells #[.slice S0 (List.length s.1) Sa, .slice S1 (List.length s.2.1) Sb, .slice S2 (List.length s.2.2.1) Sc, .int .i64 s.2.2.2.1, .int .i64 s.2.2.2.2] 46)) := ⟨_, rfl⟩
 have bV6 : Below w6.heap.size w6 V6 := by rw [hV6]; exact b_2
 have bS : Blk V6 (w6.heap.size) 46 #[.slice S0 (List.length s.1) Sa, .slice S1 (List.length s.2.1) Sb, .slice S2 (List.length s.2.2.1) Sc, .int .i64 s.2.2.2.1, .int .i64 s.2.2.2.2] := by rw [hV6]; have := Blk.new w6 46 #[.slice S0 (List.length s.1) Sa, .slice S1 (List.length s.2.1) Sb, .slice S2 (List.length s.2.2.1) Sc, .int .i64 s.2.2.2.1, .int .i64 s.2.2.2.2]; (try simp only [World.size_alloc] at this); exact this
 have zbS := bS.lt
 rw [← hV6]
 clear hV6
 replace r0 := Ty.rd_below bV6 r0
 replace rx := Ty.rd_below bV6 rx
 replace bX := Blk.below bX bV6 (Blk.lt bX)
 replace rb := Ty.rd_below bV6 rb
 replace rc := Ty.rd_below bV6 rc
 replace ry := Ty.rd_below bV6 ry
 replace bY := Blk.below bY bV6 (Blk.lt bY)
 replace rz := Ty.rd_below bV6 rz
 replace bZ := Blk.below bZ bV6 (Blk.lt bZ)
 replace rs := Ty.rd_below bV6 rs
 replace hW := bel_trans hW bV6
 clear bV6
 refine Calls.mono (C_spec_DrawVerifyData _ _ x0 r0) ?_
 rintro e w7 ⟨g, csr, r, rfl, rr, hokr, ig, hb⟩
 obtain ⟨R0, Ra, R1, Rb, R2, Rc, rfl, -⟩ := rd_Data rr
 have sbr := Nat.le_trans (thing_bulk hokr) (show 201 ≤ 1048576 by decide)
 have hrl := hokr.2.1
 clear hokr
 replace r0 := Ty.rd_below hb r0
 replace rx := Ty.rd_below hb rx
 replace bX := Blk.below bX hb (Blk.lt bX)
 replace rb := Ty.rd_below hb rb
 replace rc := Ty.rd_below hb rc
 replace ry := Ty.rd_below hb ry
 replace bY := Blk.below bY hb (Blk.lt bY)
 replace rz := Ty.rd_below hb rz
 replace bZ := Blk.below bZ hb (Blk.lt bZ)
 replace rs := Ty.rd_below hb rs
 replace bS := Blk.below bS hb (Blk.lt bS)
 replace hW := bel_trans hW hb
 clear hb
 go_wp2_with fail
 obtain ⟨V7, hV7⟩ : ∃ V, V = (w7.alloc (.cells #[.slice R0 (List.length r.1) Ra, .slice R1 (List.length r.2.1) Rb, .slice R2 (List.length r.2.2.1) Rc, .int .i64 r.2.2.2.1, .int .i64 r.2.2.2.2] 46)) := ⟨_, rfl⟩
 have bV7 : Below w7.heap.size w7 V7 := by rw [hV7]; exact b_2
 have bR : Blk V7 (w7.heap.size) 46 #[.slice R0 (List.length r.1) Ra, .slice R1 (List.length r.2.1) Rb, .slice R2 (List.length r.2.2.1) Rc, .int .i64 r.2.2.2.1, .int .i64 r.2.2.2.2] := by rw [hV7]; have := Blk.new w7 46 #[.slice R0 (List.length r.1) Ra, .slice R1 (List.length r.2.1) Rb, .slice R2 (List.length r.2.2.1) Rc, .int .i64 r.2.2.2.1, .int .i64 r.2.2.2.2]; (try simp only [World.size_alloc] at this); exact this
 have zbR := bR.lt
 rw [← hV7]
 clear hV7
 replace r0 := Ty.rd_below bV7 r0
 replace rx := Ty.rd_below bV7 rx
 replace bX := Blk.below bX bV7 (Blk.lt bX)
 replace rb := Ty.rd_below bV7 rb
 replace rc := Ty.rd_below bV7 rc
 replace ry := Ty.rd_below bV7 ry
 replace bY := Blk.below bY bV7 (Blk.lt bY)
 replace rz := Ty.rd_below bV7 rz
 replace bZ := Blk.below bZ bV7 (Blk.lt bZ)
 replace rs := Ty.rd_below bV7 rs
 replace bS := Blk.below bS bV7 (Blk.lt bS)
 replace rr := Ty.rd_below bV7 rr
 replace hW := bel_trans hW bV7
 clear bV7
 refine Calls.mono (C_spec_DrawEqualData _ _ x0 r0) ?_
 rintro e w8 ⟨csa, a, csd, d, rfl, ra, hoka, rd_, hokd, hb⟩
 obtain ⟨A0, Aa, A1, Ab, A2, Ac, rfl, -⟩ := rd_Data ra
 obtain ⟨D0, Da, D1, Db, D2, Dc, rfl, -⟩ := rd_Data rd_
 have sba := Nat.le_trans (thing_bulk hoka) (show 201 ≤ 1048576 by decide)
 have sbd := Nat.le_trans (thing_bulk hokd) (show 201 ≤ 1048576 by decide)
 clear hoka hokd
 replace r0 := Ty.rd_below hb r0
 replace rx := Ty.rd_below hb rx
 replace bX := Blk.below bX hb (Blk.lt bX)
 replace rb := Ty.rd_below hb rb
 replace rc := Ty.rd_below hb rc
 replace ry := Ty.rd_below hb ry
 replace bY := Blk.below bY hb (Blk.lt bY)
 replace rz := Ty.rd_below hb rz
 replace bZ := Blk.below bZ hb (Blk.lt bZ)
 replace rs := Ty.rd_below hb rs
 replace bS := Blk.below bS hb (Blk.lt bS)
 replace rr := Ty.rd_below hb rr
 replace bR := Blk.below bR hb (Blk.lt bR)
 replace hW := bel_trans hW hb
 clear hb
 go_wp2_with fail
 obtain ⟨V8, hV8⟩ : ∃ V, V = ((w8.alloc (.cells #[.slice A0 (List.length a.1) Aa, .slice A1 (List.length a.2.1) Ab, .slice A2 (List.length a.2.2.1) Ac, .int .i64 a.2.2.2.1, .int .i64 a.2.2.2.2] 46)).alloc (.cells #[.slice D0 (List.length d.1) Da, .slice D1 (List.length d.2.1) Db, .slice D2 (List.length d.2.2.1) Dc, .int .i64 d.2.2.2.1, .int .i64 d.2.2.2.2] 46)) := ⟨_, rfl⟩
 have bV8 : Below w8.heap.size w8 V8 := by rw [hV8]; exact b_2
 have bA : Blk V8 (w8.heap.size) 46 #[.slice A0 (List.length a.1) Aa, .slice A1 (List.length a.2.1) Ab, .slice A2 (List.length a.2.2.1) Ac, .int .i64 a.2.2.2.1, .int .i64 a.2.2.2.2] := by rw [hV8]; have := Blk.new w8 46 #[.slice A0 (List.length a.1) Aa, .slice A1 (List.length a.2.1) Ab, .slice A2 (List.length a.2.2.1) Ac, .int .i64 a.2.2.2.1, .int .i64 a.2.2.2.2]; (try simp only [World.size_alloc] at this); exact (this).alloc _
 have zbA := bA.lt
 have bD : Blk V8 (w8.heap.size + 1) 46 #[.slice D0 (List.length d.1) Da, .slice D1 (List.length d.2.1) Db, .slice D2 (List.length d.2.2.1) Dc, .int .i64 d.2.2.2.1, .int .i64 d.2.2.2.2] := by rw [hV8]; have := Blk.new (w8.alloc (.cells #[.slice A0 (List.length a.1) Aa, .slice A1 (List.length a.2.1) Ab, .slice A2 (List.length a.2.2.1) Ac, .int .i64 a.2.2.2.1, .int .i64 a.2.2.2.2] 46)) 46 #[.slice D0 (List.length d.1) Da, .slice D1 (List.length d.2.1) Db, .slice D2 (List.length d.2.2.1) Dc, .int .i64 d.2.2.2.1, .int .i64 d.2.2.2.2]; (try simp only [World.size_alloc] at this); exact this
 have zbD := bD.lt
 rw [← hV8]
 clear hV8
 replace r0 := Ty.rd_below bV8 r0
 replace rx := Ty.rd_below bV8 rx
 replace bX := Blk.below bX bV8 (Blk.lt bX)
 replace rb := Ty.rd_below bV8 rb
 replace rc := Ty.rd_below bV8 rc
 replace ry := Ty.rd_below bV8 ry
 replace bY := Blk.below bY bV8 (Blk.lt bY)
 replace rz := Ty.rd_below bV8 rz
 replace bZ := Blk.below bZ bV8 (Blk.lt bZ)
 replace rs := Ty.rd_below bV8 rs
 replace bS := Blk.below bS bV8 (Blk.lt bS)
 replace rr := Ty.rd_below bV8 rr
 replace bR := Blk.below bR bV8 (Blk.lt bR)
 replace ra := Ty.rd_below bV8 ra
 replace rd_ := Ty.rd_below bV8 rd_
 replace hW := bel_trans hW bV8
 clear bV8
 refine Calls.mono (C_spec_DrawFreshAt _ _ x0 r0) ?_
 rintro e w9 ⟨csf, f, now, rfl, rf, hokf, inow, hb⟩
 obtain ⟨F0, Fa, F1, Fb, F2, Fc, rfl, -⟩ := rd_Data rf
 have sbf := Nat.le_trans (thing_bulk hokf) (show 201 ≤ 1048576 by decide)
 clear hokf
 replace r0 := Ty.rd_below hb r0
 replace rx := Ty.rd_below hb rx
 replace bX := Blk.below bX hb (Blk.lt bX)
 replace rb := Ty.rd_below hb rb
 replace rc := Ty.rd_below hb rc
 replace ry := Ty.rd_below hb ry
 replace bY := Blk.below bY hb (Blk.lt bY)
 replace rz := Ty.rd_below hb rz
 replace bZ := Blk.below bZ hb (Blk.lt bZ)
 replace rs := Ty.rd_below hb rs
 replace bS := Blk.below bS hb (Blk.lt bS)
 replace rr := Ty.rd_below hb rr
 replace bR := Blk.below bR hb (Blk.lt bR)
 replace ra := Ty.rd_below hb ra
 replace rd_ := Ty.rd_below hb rd_
 replace bA := Blk.below bA hb (Blk.lt bA)
 replace bD := Blk.below bD hb (Blk.lt bD)
 replace hW := bel_trans hW hb
 clear hb
 go_wp2_with fail
 obtain ⟨V9, hV9⟩ : ∃ V, V = (w9.alloc (.cells #[.slice F0 (List.length f.1) Fa, .slice F1 (List.length f.2.1) Fb, .slice F2 (List.length f.2.2.1) Fc, .int .i64 f.2.2.2.1, .int .i64 f.2.2.2.2] 46)) := ⟨_, rfl⟩
 have bV9 : Below w9.heap.size w9 V9 := by rw [hV9]; exact b_2
 have bF : Blk V9 (w9.heap.size) 46 #[.slice F0 (List.length f.1) Fa, .slice F1 (List.length f.2.1) Fb, .slice F2 (List.length f.2.2.1) Fc, .int .i64 f.2.2.2.1, .int .i64 f.2.2.2.2] := by rw [hV9]; have := Blk.new w9 46 #[.slice F0 (List.length f.1) Fa, .slice F1 (List.length f.2.1) Fb, .slice F2 (List.length f.2.2.1) Fc, .int .i64 f.2.2.2.1, .int .i64 f.2.2.2.2]; (try simp only [World.size_alloc] at this); exact this
 have zbF := bF.lt
 rw [← hV9]
 clear hV9
 replace r0 := Ty.rd_below bV9 r0
 replace rx := Ty.rd_below bV9 rx
 replace bX := Blk.below bX bV9 (Blk.lt bX)
 replace rb := Ty.rd_below bV9 rb
 replace rc := Ty.rd_below bV9 rc
 replace ry := Ty.rd_below bV9 ry
 replace bY := Blk.below bY bV9 (Blk.lt bY)
 replace rz := Ty.rd_below bV9 rz
 replace bZ := Blk.below bZ bV9 (Blk.lt bZ)
 replace rs := Ty.rd_below bV9 rs
 replace bS := Blk.below bS bV9 (Blk.lt bS)
 replace rr := Ty.rd_below bV9 rr
 replace bR := Blk.below bR bV9 (Blk.lt bR)
 replace ra := Ty.rd_below bV9 ra
 replace rd_ := Ty.rd_below bV9 rd_
 replace bA := Blk.below bA bV9 (Blk.lt bA)
 replace bD := Blk.below bD bV9 (Blk.lt bD)
 replace rf := Ty.rd_below bV9 rf
 replace hW := bel_trans hW bV9
 clear bV9
 have HC : Hid (∀ V, Below V9.heap.size V9 V → V.cell? ⟨w1.heap.size, 0, none⟩ = some (.slice X0 (List.length x.1) Xa) ∧ V.cell? ⟨w1.heap.size, 1, none⟩ = some (.slice X1 (List.length x.2.1) Xb) ∧ V.cell? ⟨w1.heap.size, 2, none⟩ = some (.slice X2 (List.length x.2.2.1) Xc) ∧ V.cell? ⟨w1.heap.size, 3, none⟩ = some (.int .i64 x.2.2.2.1) ∧ V.cell? ⟨w1.heap.size, 4, none⟩ = some (.int .i64 x.2.2.2.2) ∧ V.cell? ⟨w4.heap.size, 0, none⟩ = some (.slice Y0 (List.length y.1) Ya) ∧ V.cell? ⟨w4.heap.size, 1, none⟩ = some (.slice Y1 (List.length y.2.1) Yb) ∧ V.cell? ⟨w4.heap.size, 2, none⟩ = some (.slice Y2 (List.length y.2.2.1) Yc) ∧ V.cell? ⟨w4.heap.size, 3, none⟩ = some (.int .i64 y.2.2.2.1) ∧ V.cell? ⟨w4.heap.size, 4, none⟩ = some (.int .i64 y.2.2.2.2) ∧ V.cell? ⟨w5.heap.size, 0, none⟩ = some (.slice Z0 (List.length y.1) Za) ∧ V.cell? ⟨w5.heap.size, 1, none⟩ = some (.slice Z1 (List.length y.2.1) Zb) ∧ V.cell? ⟨w5.heap.size, 2, none⟩ = some (.slice Z2 (List.length y.2.2.1) Zc) ∧ V.cell? ⟨w5.heap.size, 3, none⟩ = some (.int .i64 y.2.2.2.1) ∧ V.cell? ⟨w5.heap.size, 4, none⟩ = some (.int .i64 y.2.2.2.2) ∧ V.cell? ⟨w6.heap.size, 0, none⟩ = some (.slice S0 (List.length s.1) Sa) ∧ V.cell? ⟨w6.heap.size, 1, none⟩ = some (.slice S1 (List.length s.2.1) Sb) ∧ V.cell? ⟨w6.heap.size, 2, none⟩ = some (.slice S2 (List.length s.2.2.1) Sc) ∧ V.cell? ⟨w6.heap.size, 3, none⟩ = some (.int .i64 s.2.2.2.1) ∧ V.cell? ⟨w6.heap.size, 4, none⟩ = some (.int .i64 s.2.2.2.2) ∧ V.cell? ⟨w7.heap.size, 0, none⟩ = some (.slice R0 (List.length r.1) Ra) ∧ V.cell? ⟨w7.heap.size, 1, none⟩ = some (.slice R1 (List.length r.2.1) Rb) ∧ V.cell? ⟨w7.heap.size, 2, none⟩ = some (.slice R2 (List.length r.2.2.1) Rc) ∧ V.cell? ⟨w7.heap.size, 3, none⟩ = some (.int .i64 r.2.2.2.1) ∧ V.cell? ⟨w7.heap.size, 4, none⟩ = some (.int .i64 r.2.2.2.2) ∧ V.cell? ⟨w8.heap.size, 0, none⟩ = some (.slice A0 (List.length a.1) Aa) ∧ V.cell? ⟨w8.heap.size, 1, none⟩ = some (.slice A1 (List.length a.2.1) Ab) ∧ V.cell? ⟨w8.heap.size, 2, none⟩ = some (.slice A2 (List.length a.2.2.1) Ac) ∧ V.cell? ⟨w8.heap.size, 3, none⟩ = some (.int .i64 a.2.2.2.1) ∧ V.cell? ⟨w8.heap.size, 4, none⟩ = some (.int .i64 a.2.2.2.2) ∧ V.cell? ⟨w8.heap.size + 1, 0, none⟩ = some (.slice D0 (List.length d.1) Da) ∧ V.cell? ⟨w8.heap.size + 1, 1, none⟩ = some (.slice D1 (List.length d.2.1) Db) ∧ V.cell? ⟨w8.heap.size + 1, 2, none⟩ = some (.slice D2 (List.length d.2.2.1) Dc) ∧ V.cell? ⟨w8.heap.size + 1, 3, none⟩ = some (.int .i64 d.2.2.2.1) ∧ V.cell? ⟨w8.heap.size + 1, 4, none⟩ = some (.int .i64 d.2.2.2.2) ∧ V.cell? ⟨w9.heap.size, 0, none⟩ = some (.slice F0 (List.length f.1) Fa) ∧ V.cell? ⟨w9.heap.size, 1, none⟩ = some (.slice F1 (List.length f.2.1) Fb) ∧ V.cell? ⟨w9.heap.size, 2, none⟩ = some (.slice F2 (List.length f.2.2.1) Fc) ∧ V.cell? ⟨w9.heap.size, 3, none⟩ = some (.int .i64 f.2.2.2.1) ∧ V.cell? ⟨w9.heap.size, 4, none⟩ = some (.int .i64 f.2.2.2.2)) := fun V hV => ⟨(bX.below hV bX.lt).cell 0, (bX.below hV bX.lt).cell 1, (bX.below hV bX.lt).cell 2, (bX.below hV bX.lt).cell 3, (bX.below hV bX.lt).cell 4, (bY.below hV bY.lt).cell 0, (bY.below hV bY.lt).cell 1, (bY.below hV bY.lt).cell 2, (bY.below hV bY.lt).cell 3, (bY.below hV bY.lt).cell 4, (bZ.below hV bZ.lt).cell 0, (bZ.below hV bZ.lt).cell 1, (bZ.below hV bZ.lt).cell 2, (bZ.below hV bZ.lt).cell 3, (bZ.below hV bZ.lt).cell 4, (bS.below hV bS.lt).cell 0, (bS.below hV bS.lt).cell 1, (bS.below hV bS.lt).cell 2, (bS.below hV bS.lt).cell 3, (bS.below hV bS.lt).cell 4, (bR.below hV bR.lt).cell 0, (bR.below hV bR.lt).cell 1, (bR.below hV bR.lt).cell 2, (bR.below hV bR.lt).cell 3, (bR.below hV bR.lt).cell 4, (bA.below hV bA.lt).cell 0, (bA.below hV bA.lt).cell 1, (bA.below hV bA.lt).cell 2, (bA.below hV bA.lt).cell 3, (bA.below hV bA.lt).cell 4, (bD.below hV bD.lt).cell 0, (bD.below hV bD.lt).cell 1, (bD.below hV bD.lt).cell 2, (bD.below hV bD.lt).cell 3, (bD.below hV bD.lt).cell 4, (bF.below hV bF.lt).cell 0, (bF.below hV bF.lt).cell 1, (bF.below hV bF.lt).cell 2, (bF.below hV bF.lt).cell 3, (bF.below hV bF.lt).cell 4⟩
 refine wp_region_noPanic ?_
 refine wp_region_held_drew (S := (fun V => V.cell? ⟨w1.heap.size, 0, none⟩ = some (.slice X0 (List.length x.1) Xa) ∧ V.cell? ⟨w1.heap.size, 1, none⟩ = some (.slice X1 (List.length x.2.1) Xb) ∧ V.cell? ⟨w1.heap.size, 2, none⟩ = some (.slice X2 (List.length x.2.2.1) Xc) ∧ V.cell? ⟨w1.heap.size, 3, none⟩ = some (.int .i64 x.2.2.2.1) ∧ V.cell? ⟨w1.heap.size, 4, none⟩ = some (.int .i64 x.2.2.2.2) ∧ V.cell? ⟨w4.heap.size, 0, none⟩ = some (.slice Y0 (List.length y.1) Ya) ∧ V.cell? ⟨w4.heap.size, 1, none⟩ = some (.slice Y1 (List.length y.2.1) Yb) ∧ V.cell? ⟨w4.heap.size, 2, none⟩ = some (.slice Y2 (List.length y.2.2.1) Yc) ∧ V.cell? ⟨w4.heap.size, 3, none⟩ = some (.int .i64 y.2.2.2.1) ∧ V.cell? ⟨w4.heap.size, 4, none⟩ = some (.int .i64 y.2.2.2.2) ∧ V.cell? ⟨w5.heap.size, 0, none⟩ = some (.slice Z0 (List.length y.1) Za) ∧ V.cell? ⟨w5.heap.size, 1, none⟩ = some (.slice Z1 (List.length y.2.1) Zb) ∧ V.cell? ⟨w5.heap.size, 2, none⟩ = some (.slice Z2 (List.length y.2.2.1) Zc) ∧ V.cell? ⟨w5.heap.size, 3, none⟩ = some (.int .i64 y.2.2.2.1) ∧ V.cell? ⟨w5.heap.size, 4, none⟩ = some (.int .i64 y.2.2.2.2) ∧ V.cell? ⟨w6.heap.size, 0, none⟩ = some (.slice S0 (List.length s.1) Sa) ∧ V.cell? ⟨w6.heap.size, 1, none⟩ = some (.slice S1 (List.length s.2.1) Sb) ∧ V.cell? ⟨w6.heap.size, 2, none⟩ = some (.slice S2 (List.length s.2.2.1) Sc) ∧ V.cell? ⟨w6.heap.size, 3, none⟩ = some (.int .i64 s.2.2.2.1) ∧ V.cell? ⟨w6.heap.size, 4, none⟩ = some (.int .i64 s.2.2.2.2) ∧ V.cell? ⟨w7.heap.size, 0, none⟩ = some (.slice R0 (List.length r.1) Ra) ∧ V.cell? ⟨w7.heap.size, 1, none⟩ = some (.slice R1 (List.length r.2.1) Rb) ∧ V.cell? ⟨w7.heap.size, 2, none⟩ = some (.slice R2 (List.length r.2.2.1) Rc) ∧ V.cell? ⟨w7.heap.size, 3, none⟩ = some (.int .i64 r.2.2.2.1) ∧ V.cell? ⟨w7.heap.size, 4, none⟩ = some (.int .i64 r.2.2.2.2) ∧ V.cell? ⟨w8.heap.size, 0, none⟩ = some (.slice A0 (List.length a.1) Aa) ∧ V.cell? ⟨w8.heap.size, 1, none⟩ = some (.slice A1 (List.length a.2.1) Ab) ∧ V.cell? ⟨w8.heap.size, 2, none⟩ = some (.slice A2 (List.length a.2.2.1) Ac) ∧ V.cell? ⟨w8.heap.size, 3, none⟩ = some (.int .i64 a.2.2.2.1) ∧ V.cell? ⟨w8.heap.size, 4, none⟩ = some (.int .i64 a.2.2.2.2) ∧ V.cell? ⟨w8.heap.size + 1, 0, none⟩ = some (.slice D0 (List.length d.1) Da) ∧ V.cell? ⟨w8.heap.size + 1, 1, none⟩ = some (.slice D1 (List.length d.2.1) Db) ∧ V.cell? ⟨w8.heap.size + 1, 2, none⟩ = some (.slice D2 (List.length d.2.2.1) Dc) ∧ V.cell? ⟨w8.heap.size + 1, 3, none⟩ = some (.int .i64 d.2.2.2.1) ∧ V.cell? ⟨w8.heap.size + 1, 4, none⟩ = some (.int .i64 d.2.2.2.2) ∧ V.cell? ⟨w9.heap.size, 0, none⟩ = some (.slice F0 (List.length f.1) Fa) ∧ V.cell? ⟨w9.heap.size, 1, none⟩ = some (.slice F1 (List.length f.2.1) Fb) ∧ V.cell? ⟨w9.heap.size, 2, none⟩ = some (.slice F2 (List.length f.2.2.1) Fc) ∧ V.cell? ⟨w9.heap.size, 3, none⟩ = some (.int .i64 f.2.2.2.1) ∧ V.cell? ⟨w9.heap.size, 4, none⟩ = some (.int .i64 f.2.2.2.2))) b_23 ?_ (fun hHeld => ?_)
 ·exact HC.out _ b_2
 refine tk 0 (opN rfl) b_23 b_31 b_15 b_26 ?_
 try simp only [layz]
 refine tk 1 (opN rfl) b_23 b_31 b_15 b_26 ?_
 try simp only [layz]
 refine wpAnyH_ready (rs := [2]) b_23 b_30 ?_
 refine (AllReadyH.cons (opN rfl) (fun K hK => ?_) AllReadyH.nil)
 go_simp
 go_at_call 54
 refine Calls.mono (C_spec_EncodeData _ _ x (Ty.rd_below b_2 rx) sbx) ?_
 rintro e u2 ⟨A2, c2, g2, rfl, how2, -, hu2⟩
 have r2 := Ty.ow_rd how2
 clear how2
 refine hK.out _ _ (HC.out _ b_2) (fun hHeld => ?_)
 clear hK K
 try simp only [layz]
 refine wpAnyH_ready (rs := [3]) b_23 b_30 ?_
 refine (AllReadyH.cons (opN rfl) (fun K hK => ?_) AllReadyH.nil)
 go_simp
 go_at_call 53
 refine Calls.mono (C_laws_sameG _ _ _ b _ (Ty.rd_below b_2 rb) (Ty.rd_below b_2 r2)) ?_
 rw [← HB.out, decide_self]
 rintro e u3 ⟨rfl, hu3⟩
 refine hK.out _ _ (HC.out _ b_2) (fun hHeld => ?_)
 clear hK K
 try simp only [layz]
 refine tk 4 (opN rfl) b_23 b_31 b_15 b_26 ?_
 try simp only [layz]
 refine tk 5 (opN rfl) b_23 b_31 b_15 b_26 ?_
 try simp only [layz]
 refine tk 6 (opN rfl) b_23 b_31 b_15 b_26 ?_
 try simp only [layz]
 refine tk 7 (opN rfl) b_23 b_31 b_15 b_26 ?_
 try simp only [layz]
 refine wpAnyH_ready (rs := [8]) b_23 b_30 ?_
 refine (AllReadyH.cons (opN rfl) (fun K hK => ?_) AllReadyH.nil)
 go_simp
 go_at_call 29
 refine Calls.mono (C_laws_sameThingG _ _ y _ y (Ty.rd_below b_2 ry) (Ty.rd_below b_2 rz) sby sby) ?_
 rw [eqData_self]
 rintro e u8 ⟨rfl, hu8⟩
 refine hK.out _ _ (HC.out _ b_2) (fun hHeld => ?_)
 clear hK K
 try simp only [layz]
 refine tk 9 (opN rfl) b_23 b_31 b_15 b_26 ?_
 try simp only [layz]
 refine tk 10 (opN rfl) b_23 b_31 b_15 b_26 ?_
 try simp only [layz]
 refine tk 11 (opN rfl) b_23 b_31 b_15 b_26 ?_
 try simp only [layz]
 refine tk 12 (opN rfl) b_23 b_31 b_15 b_26 ?_
 try simp only [layz]
 refine tk 13 (opN rfl) b_23 b_31 b_15 b_26 ?_
 try simp only [layz]
 refine tk 14 (opN rfl) b_23 b_31 b_15 b_26 ?_
 try simp only [layz]
 refine tk 15 (opN rfl) b_23 b_31 b_15 b_26 ?_
 try simp only [layz]
 refine tk 16 (opN rfl) b_23 b_31 b_15 b_26 ?_
 try simp only [layz]
 refine tk 17 (opN rfl) b_23 b_31 b_15 b_26 ?_
 try simp only [layz]
 refine tk 18 (opN rfl) b_23 b_31 b_15 b_26 ?_
 try simp only [layz]
 refine tk 20 (opN rfl) b_23 b_31 b_15 b_26 ?_
 try simp only [layz]
 refine tk 21 (opN rfl) b_23 b_31 b_15 b_26 ?_
 try simp only [layz]
 refine wpAnyH_ready (rs := [19]) b_23 b_30 ?_
 refine (AllReadyH.cons (opN rfl) (fun K hK => ?_) AllReadyH.nil)
 go_simp
 go_at_call 55
 refine Calls.mono (C_impl_SignData _ k _ s (Ty.rd_below b_2 rs) ik sbs) ?_
 rintro e u19 ⟨cs19, g19, rfl, how19, -, hu19⟩
 have r19 := Ty.ow_rd how19
 obtain ⟨J0, Ja, J1, Jb, J2, Jc, rfl⟩ := ow_Data how19
 clear how19
 refine hK.out _ _ (HC.out _ b_2) (fun hHeld => ?_)
 clear hK K
 try simp only [layz]
 refine wpAnyH_ready (rs := [22]) b_23 b_30 ?_
 refine (AllReadyH.cons (opN rfl) (fun K hK => ?_) AllReadyH.nil)
 go_simp
 go_at_call 56
 refine Calls.mono (C_spec_SignData _ k _ s (Ty.rd_below b_2 rs) ik sbs) ?_
 rintro e u22 ⟨cs22, g22, rfl, how22, -, hu22⟩
 have r22 := Ty.ow_rd how22
 obtain ⟨K0, Ka, K1, Kb, K2, Kc, rfl⟩ := ow_Data how22
 clear how22
 refine hK.out _ _ (HC.out _ b_2) (fun hHeld => ?_)
 clear hK K
 try simp only [layz]
 refine wpAnyH_ready (rs := [23]) b_23 b_30 ?_
 refine (AllReadyH.cons (opN rfl) (fun K hK => ?_) AllReadyH.nil)
 go_simp
 go_at_call 29
 refine Calls.mono (C_laws_sameThingG _ _ _ _ _ (Ty.rd_below b_2 r19) (Ty.rd_below b_2 r22) sbs sbs) ?_
 rw [eqData_self]
 rintro e u23 ⟨rfl, hu23⟩
 refine hK.out _ _ (HC.out _ b_2) (fun hHeld => ?_)
 clear hK K
 try simp only [layz]
 refine tk 24 (opN rfl) b_23 b_31 b_15 b_26 ?_
 try simp only [layz]
 refine tk 25 (opN rfl) b_23 b_31 b_15 b_26 ?_
 try simp only [layz]
 refine tk 26 (opN rfl) b_23 b_31 b_15 b_26 ?_
 try simp only [layz]
 refine tk 27 (opN rfl) b_23 b_31 b_15 b_26 ?_
 try simp only [layz]
 refine tk 28 (opN rfl) b_23 b_31 b_15 b_26 ?_
 try simp only [layz]
 refine tk 30 (opN rfl) b_23 b_31 b_15 b_26 ?_
 try simp only [layz]
 refine tk 31 (opN rfl) b_23 b_31 b_15 b_26 ?_
 try simp only [layz]
 refine wpAnyH_ready (rs := [29]) b_23 b_30 ?_
 refine (AllReadyH.cons (opN rfl) (fun K hK => ?_) AllReadyH.nil)
 go_simp
 go_at_call 57
 refine Calls.mono (C_impl_VerifyData _ g _ r (Ty.rd_below b_2 rr) ig sbr) ?_
 rintro e u29 ⟨rfl, hu29⟩
 refine hK.out _ _ (HC.out _ b_2) (fun hHeld => ?_)
 clear hK K
 try simp only [layz]
 refine wpAnyH_ready (rs := [32]) b_23 b_30 ?_
 refine (AllReadyH.cons (opN rfl) (fun K hK => ?_) AllReadyH.nil)
 go_simp
 go_at_call 58
 refine Calls.mono (C_spec_VerifyData _ g _ r (Ty.rd_below b_2 rr) ig sbr) ?_
 rintro e u32 ⟨rfl, hu32⟩
 refine hK.out _ _ (HC.out _ b_2) (fun hHeld => ?_)
 clear hK K
 try simp only [layz]
 refine tk 33 (opN rfl) b_23 b_31 b_15 b_26 ?_
 try simp only [layz]
 refine tk 34 (opN rfl) b_23 b_31 b_15 b_26 ?_
 try simp only [layz]
 refine tk 35 (opN rfl) b_23 b_31 b_15 b_26 ?_
 try simp only [layz]
 refine tk 36 (opN rfl) b_23 b_31 b_15 b_26 ?_
 try simp only [layz]
 refine tk 37 (opN rfl) b_23 b_31 b_15 b_26 ?_
 try simp only [layz]
 refine tk 39 (opN rfl) b_23 b_31 b_15 b_26 ?_
 try simp only [layz]
 refine tk 40 (opN rfl) b_23 b_31 b_15 b_26 ?_
 try simp only [layz]
 refine wpAnyH_ready (rs := [38]) b_23 b_30 ?_
 refine (AllReadyH.cons (opN rfl) (fun K hK => ?_) AllReadyH.nil)
 go_simp
 go_at_call 59
 refine Calls.mono (C_impl_EqualData _ _ a _ d (Ty.rd_below b_2 ra) (Ty.rd_below b_2 rd_) sba sbd) ?_
 rintro e u38 ⟨rfl, hu38⟩
 refine hK.out _ _ (HC.out _ b_2) (fun hHeld => ?_)
 clear hK K
 try simp only [layz]
 refine wpAnyH_ready (rs := [41]) b_23 b_30 ?_
 refine (AllReadyH.cons (opN rfl) (fun K hK => ?_) AllReadyH.nil)
 go_simp
 go_at_call 29
 refine Calls.mono (C_laws_sameThingG _ _ a _ d (Ty.rd_below b_2 ra) (Ty.rd_below b_2 rd_) sba sbd) ?_
 rintro e u41 ⟨rfl, hu41⟩
 refine hK.out _ _ (HC.out _ b_2) (fun hHeld => ?_)
 clear hK K
 try simp only [layz]
 refine tk 42 (opN rfl) b_23 b_31 b_15 b_26 ?_
 try simp only [layz]
 refine tk 43 (opN rfl) b_23 b_31 b_15 b_26 ?_
 try simp only [layz]
 refine tk 44 (opN rfl) b_23 b_31 b_15 b_26 ?_
 try simp only [layz]
 refine tk 45 (opN rfl) b_23 b_31 b_15 b_26 ?_
 try simp only [layz]
 refine tk 46 (opN rfl) b_23 b_31 b_15 b_26 ?_
 try simp only [layz]
 refine tk 48 (opN rfl) b_23 b_31 b_15 b_26 ?_
 try simp only [layz]
 refine tk 49 (opN rfl) b_23 b_31 b_15 b_26 ?_
 try simp only [layz]
 refine wpAnyH_ready (rs := [47]) b_23 b_30 ?_
 refine (AllReadyH.cons (opN rfl) (fun K hK => ?_) AllReadyH.nil)
 go_simp
 go_at_call 43
 refine Calls.mono (C_impl_FreshAt _ _ f now (Ty.rd_below b_2 rf) sbf inow) ?_
 rintro e u47 ⟨rfl, hu47⟩
 refine hK.out _ _ (HC.out _ b_2) (fun hHeld => ?_)
 clear hK K
 try simp only [layz]
 refine wpAnyH_ready (rs := [50]) b_23 b_30 ?_
 refine (AllReadyH.cons (opN rfl) (fun K hK => ?_) AllReadyH.nil)
 go_simp
 go_at_call 60
 refine Calls.mono (C_spec_FreshAt _ _ f now (Ty.rd_below b_2 rf) sbf inow) ?_
 rintro e u50 ⟨rfl, hu50⟩
 refine hK.out _ _ (HC.out _ b_2) (fun hHeld => ?_)
 clear hK K
 try simp only [layz]
 refine tk 51 (opN rfl) b_23 b_31 b_15 b_26 ?_
 try simp only [layz]
 refine tk 52 (opN rfl) b_23 b_31 b_15 b_26 ?_
 try simp only [layz]
 refine tk 53 (opN rfl) b_23 b_31 b_15 b_26 ?_
 try simp only [layz]
 refine tk 54 (opN rfl) b_23 b_31 b_15 b_26 ?_
 try simp only [layz]
 refine tk 56 (opN rfl) b_23 b_31 b_15 b_26 ?_
 try simp only [layz]
 refine wpAnyH_ready (rs := [55]) b_23 b_30 ?_
 refine (AllReadyH.cons (opN rfl) (fun K hK => ?_) AllReadyH.nil)
 go_simp
 go_at_call 42
 refine Calls.mono (C_impl_ValidData _ _ x (Ty.rd_below b_2 rx) sbx) ?_
 rintro e u55 ⟨rfl, hu55⟩
 refine hK.out _ _ (HC.out _ b_2) (fun hHeld => ?_)
 clear hK K
 try simp only [layz]
 refine wpAnyH_ready (rs := [57]) b_23 b_30 ?_
 refine (AllReadyH.cons (opN rfl) (fun K hK => ?_) AllReadyH.nil)
 go_simp
 go_at_call 61
 refine Calls.mono (C_spec_ValidData _ _ x (Ty.rd_below b_2 rx) sbx) ?_
 rintro e u57 ⟨rfl, hu57⟩
 refine hK.out _ _ (HC.out _ b_2) (fun hHeld => ?_)
 clear hK K
 try simp only [layz]
 refine tk 58 (opN rfl) b_23 b_31 b_15 b_26 ?_
 try simp only [layz]
 refine tk 59 (opN rfl) b_23 b_31 b_15 b_26 ?_
 try simp only [layz]
 refine tk 60 (opN rfl) b_23 b_31 b_15 b_26 ?_
 try simp only [layz]
 refine tk 61 (opN rfl) b_23 b_31 b_15 b_26 ?_
 try simp only [layz]
 refine tk 63 (opN rfl) b_23 b_31 b_15 b_26 ?_
 try simp only [layz]
 refine wpAnyH_ready (rs := [62]) b_23 b_30 ?_
 refine (AllReadyH.cons (opN rfl) (fun K hK => ?_) AllReadyH.nil)
 go_simp
 go_at_call 63
 refine Calls.mono (S_impl_SignedPortion _ _ x (Ty.rd_below b_2 rx) sbx) ?_
 rintro e u62 ⟨A62, c62, g62, rfl, how62, -, hu62⟩
 have r62 := Ty.ow_rd how62
 clear how62
 refine hK.out _ _ (HC.out _ b_2) (fun hHeld => ?_)
 clear hK K
 try simp only [layz]
 refine wpAnyH_ready (rs := [64]) b_23 b_30 ?_
 refine (AllReadyH.cons (opN rfl) (fun K hK => ?_) AllReadyH.nil)
 go_simp
 go_at_call 64
 refine Calls.mono (S_spec_SignedPortion _ _ x (Ty.rd_below b_2 rx) sbx) ?_
 rintro e u64 ⟨A64, c64, g64, rfl, how64, -, hu64⟩
 have r64 := Ty.ow_rd how64
 clear how64
 refine hK.out _ _ (HC.out _ b_2) (fun hHeld => ?_)
 clear hK K
 try simp only [layz]
 refine wpAnyH_ready (rs := [65]) b_23 b_30 ?_
 refine (AllReadyH.cons (opN rfl) (fun K hK => ?_) AllReadyH.nil)
 go_simp
 go_at_call 62
 refine Calls.mono (C_laws_sameIntsG _ _ _ _ _ (Ty.rd_below b_2 r62) (Ty.rd_below b_2 r64)) ?_
 rw [decide_self]
 rintro e u65 ⟨rfl, hu65⟩
 refine hK.out _ _ (HC.out _ b_2) (fun hHeld => ?_)
 clear hK K
 try simp only [layz]
 refine tk 66 (opN rfl) b_23 b_31 b_15 b_26 ?_
 try simp only [layz]
 refine tk 67 (opN rfl) b_23 b_31 b_15 b_26 ?_
 try simp only [layz]
 refine wpAnyH_done b_23 ?_ _
 refine NoPanic.normal ?_
 as_aux_lemma =>
  have hU : Below V9.heap.size V9 u65 := b_2
  replace hW := bel_trans hW hU
  replace r0 := Ty.rd_below hU r0
  replace rx := Ty.rd_below hU rx
  replace rb := Ty.rd_below hU rb
  replace rc := Ty.rd_below hU rc
  replace ry := Ty.rd_below hU ry
  replace rr := Ty.rd_below hU rr
  replace bX := Blk.below bX hU (Blk.lt bX)
  replace bY := Blk.below bY hU (Blk.lt bY)
  replace bR := Blk.below bR hU (Blk.lt bR)
  clear hU HC
  have hYK := HK
  clear HY HK hYK rz rs ra rd_ rf bZ bS bA bD bF
  go_upto_region 14 with fail
  go_cut [143] (fun s wx => s = .bool false ∧ Below u65.heap.size u65 wx)
  case first =>
   as_aux_lemma =>
    cases ok
    case' false =>
     go_wp2_with fail
     go_meet
     exact ⟨rfl, Below.refl _ _⟩
    case' true =>
     obtain ⟨hyv, hye⟩ := HF.out (by first | rfl | trivial)
     replace hyv := Lib.hid hyv
     replace hye := Lib.hid hye
     have hJ : Below u65.heap.size u65 u65 := Below.refl _ _
     obtain ⟨kbY0, kbY1, kbY2, kbY3, kbY4, -, -, -, -, -, -⟩ := bk5 bY
     have zkbY := bY.lt
     go_wp2_with fail
     clear kbY0 kbY1 kbY2 kbY3 kbY4 zkbY
     refine Calls.mono (C_impl_ValidData _ _ y ry sby) ?_
     rw [hyv.out]
     rintro e t1 ⟨rfl, hb⟩
     replace r0 := Ty.rd_below hb r0
     replace rx := Ty.rd_below hb rx
     replace rb := Ty.rd_below hb rb
     replace rc := Ty.rd_below hb rc
     replace ry := Ty.rd_below hb ry
     replace rr := Ty.rd_below hb rr
     replace bX := Blk.below bX hb (Blk.lt bX)
     replace bY := Blk.below bY hb (Blk.lt bY)
     replace bR := Blk.below bR hb (Blk.lt bR)
     replace hW := bel_trans hW hb
     replace hJ := bel_trans hJ hb
     clear hb
     obtain ⟨kbY0, kbY1, kbY2, kbY3, kbY4, -, -, -, -, -, -⟩ := bk5 bY
     have zkbY := bY.lt
     go_wp2_with fail
     clear kbY0 kbY1 kbY2 kbY3 kbY4 zkbY
     refine Calls.mono (C_impl_EncodeData _ _ y ry sby) ?_
     rintro e t2 ⟨A2, c2, f2, rfl, how, -, hb⟩
     have re := Ty.ow_rd how
     rw [hye.out] at re
     rw [hye.out]
     clear how
     replace r0 := Ty.rd_below hb r0
     replace rx := Ty.rd_below hb rx
     replace rb := Ty.rd_below hb rb
     replace rc := Ty.rd_below hb rc
     replace ry := Ty.rd_below hb ry
     replace rr := Ty.rd_below hb rr
     replace bX := Blk.below bX hb (Blk.lt bX)
     replace bY := Blk.below bY hb (Blk.lt bY)
     replace bR := Blk.below bR hb (Blk.lt bR)
     replace hW := bel_trans hW hb
     replace hJ := bel_trans hJ hb
     clear hb
     go_wp2_with fail
     refine Calls.mono (C_laws_sameG _ _ _ _ _ re rc) ?_
     rw [decide_self]
     rintro e q0 ⟨rfl, hb⟩
     replace r0 := Ty.rd_below hb r0
     replace rx := Ty.rd_below hb rx
     replace rb := Ty.rd_below hb rb
     replace rc := Ty.rd_below hb rc
     replace ry := Ty.rd_below hb ry
     replace rr := Ty.rd_below hb rr
     replace bX := Blk.below bX hb (Blk.lt bX)
     replace bY := Blk.below bY hb (Blk.lt bY)
     replace bR := Blk.below bR hb (Blk.lt bR)
     replace re := Ty.rd_below hb re
     replace hW := bel_trans hW hb
     replace hJ := bel_trans hJ hb
     clear hb
     go_wp2_with fail
     go_meet
     exact ⟨rfl, hJ⟩
  clear HF ry rc bY
  obtain ⟨q0, hwc⟩ : ∃ V, V = wc := ⟨_, rfl⟩
  subst hwc
  obtain ⟨rfl, hb⟩ := hcut
  replace r0 := Ty.rd_below hb r0
  replace rx := Ty.rd_below hb rx
  replace rb := Ty.rd_below hb rb
  replace rr := Ty.rd_below hb rr
  replace bX := Blk.below bX hb (Blk.lt bX)
  replace bR := Blk.below bR hb (Blk.lt bR)
  replace hW := bel_trans hW hb
  clear hb
  go_wp2_with fail
  refine Calls.mono (C_impl_DecodeData _ _ b rb sbb) ?_
  obtain ⟨e1, he⟩ : ∃ y, y = f0_DecodeData b := ⟨_, rfl⟩
  obtain ⟨vx, hvx⟩ : ∃ o, o = f_ValidData x := ⟨_, rfl⟩
  have hbk : f1_DecodeData b = vx := by rw [HB.out, f1_back, hvx]
  have HE := Lib.hid (show vx = true → e1 = x from fun hv => by rw [he, HB.out, f0_back (hvx.symm.trans hv)])
  have sbe := decode_bulk b
  rw [← he] at sbe
  rw [← he, hbk]
  have HVX := Lib.hid hvx
  clear he hvx hbk
  rintro e q1 ⟨cq1, fq1, rfl, how, -, hb⟩
  obtain ⟨E0, Ea, E1, Ebb, E2, Ec, rfl⟩ := ow_Data how
  have re := Ty.ow_rd how
  clear how
  replace r0 := Ty.rd_below hb r0
  replace rx := Ty.rd_below hb rx
  replace rb := Ty.rd_below hb rb
  replace rr := Ty.rd_below hb rr
  replace bX := Blk.below bX hb (Blk.lt bX)
  replace bR := Blk.below bR hb (Blk.lt bR)
  replace hW := bel_trans hW hb
  clear hb
  obtain ⟨kbX0, kbX1, kbX2, kbX3, kbX4, -, -, -, -, -, -⟩ := bk5 bX
  have zkbX := bX.lt
  go_upto_region 17 with fail
  clear kbX0 kbX1 kbX2 kbX3 kbX4 zkbX
  obtain ⟨Q1, hQ1⟩ : ∃ V, V = (q1.alloc (.cells #[.slice E0 (List.length e1.1) Ea, .slice E1 (List.length e1.2.1) Ebb, .slice E2 (List.length e1.2.2.1) Ec, .int .i64 e1.2.2.2.1, .int .i64 e1.2.2.2.2] 46)) := ⟨_, rfl⟩
  have bQ1 : Below q1.heap.size q1 Q1 := by rw [hQ1]; exact b_2
  have bE : Blk Q1 (q1.heap.size) 46 #[.slice E0 (List.length e1.1) Ea, .slice E1 (List.length e1.2.1) Ebb, .slice E2 (List.length e1.2.2.1) Ec, .int .i64 e1.2.2.2.1, .int .i64 e1.2.2.2.2] := by rw [hQ1]; have := Blk.new q1 46 #[.slice E0 (List.length e1.1) Ea, .slice E1 (List.length e1.2.1) Ebb, .slice E2 (List.length e1.2.2.1) Ec, .int .i64 e1.2.2.2.1, .int .i64 e1.2.2.2.2]; (try simp only [World.size_alloc] at this); exact this
  have zbE := bE.lt
  rw [← hQ1]
  clear hQ1
  replace r0 := Ty.rd_below bQ1 r0
  replace rx := Ty.rd_below bQ1 rx
  replace rb := Ty.rd_below bQ1 rb
  replace rr := Ty.rd_below bQ1 rr
  replace bX := Blk.below bX bQ1 (Blk.lt bX)
  replace bR := Blk.below bR bQ1 (Blk.lt bR)
  replace re := Ty.rd_below bQ1 re
  replace hW := bel_trans hW bQ1
  clear bQ1
  go_cut [161] (fun s wx => s = .bool false ∧ Below Q1.heap.size Q1 wx)
  case first =>
   as_aux_lemma =>
    have hJ : Below Q1.heap.size Q1 Q1 := Below.refl _ _
    obtain ⟨kbX0, kbX1, kbX2, kbX3, kbX4, -, -, -, -, -, -⟩ := bk5 bX
    have zkbX := bX.lt
    go_wp2_with fail
    clear kbX0 kbX1 kbX2 kbX3 kbX4 zkbX
    refine Calls.mono (C_impl_ValidData _ _ x rx sbx) ?_
    rw [← HVX.out]
    rintro e q2 ⟨rfl, hb⟩
    replace r0 := Ty.rd_below hb r0
    replace rx := Ty.rd_below hb rx
    replace rb := Ty.rd_below hb rb
    replace rr := Ty.rd_below hb rr
    replace bX := Blk.below bX hb (Blk.lt bX)
    replace bR := Blk.below bR hb (Blk.lt bR)
    replace re := Ty.rd_below hb re
    replace bE := Blk.below bE hb (Blk.lt bE)
    replace hW := bel_trans hW hb
    replace hJ := bel_trans hJ hb
    clear hb
    cases vx
    case' false =>
     obtain ⟨kbE0, kbE1, kbE2, kbE3, kbE4, -, -, -, -, -, -⟩ := bk5 bE
     have zkbE := bE.lt
     obtain ⟨kbX0, kbX1, kbX2, kbX3, kbX4, -, -, -, -, -, -⟩ := bk5 bX
     have zkbX := bX.lt
     go_wp2_with fail
     go_meet
     exact ⟨rfl, hJ⟩
    case' true =>
     obtain ⟨kbE0, kbE1, kbE2, kbE3, kbE4, -, -, -, -, -, -⟩ := bk5 bE
     have zkbE := bE.lt
     obtain ⟨kbX0, kbX1, kbX2, kbX3, kbX4, -, -, -, -, -, -⟩ := bk5 bX
     have zkbX := bX.lt
     go_wp2_with fail
     clear kbE0 kbE1 kbE2 kbE3 kbE4 zkbE
     clear kbX0 kbX1 kbX2 kbX3 kbX4 zkbX
     refine Calls.mono (C_laws_sameThingG _ _ e1 _ x re rx sbe sbx) ?_
     rw [HE.out (by first | rfl | trivial), eqData_self]
     rintro e q3 ⟨rfl, hb⟩
     replace r0 := Ty.rd_below hb r0
     replace rx := Ty.rd_below hb rx
     replace rb := Ty.rd_below hb rb
     replace rr := Ty.rd_below hb rr
     replace bX := Blk.below bX hb (Blk.lt bX)
     replace bR := Blk.below bR hb (Blk.lt bR)
     replace re := Ty.rd_below hb re
     replace bE := Blk.below bE hb (Blk.lt bE)
     replace hW := bel_trans hW hb
     replace hJ := bel_trans hJ hb
     clear hb
     go_wp2_with fail
     go_meet
     exact ⟨rfl, hJ⟩
  clear HE HVX sbe re bE bX rx rb HB
  obtain ⟨q3, hwc⟩ : ∃ V, V = wc := ⟨_, rfl⟩
  subst hwc
  obtain ⟨rfl, hb⟩ := hcut
  replace r0 := Ty.rd_below hb r0
  replace rr := Ty.rd_below hb rr
  replace bR := Blk.below bR hb (Blk.lt bR)
  replace hW := bel_trans hW hb
  clear hb
  obtain ⟨kbR0, kbR1, kbR2, kbR3, kbR4, -, -, -, -, -, -⟩ := bk5 bR
  have zkbR := bR.lt
  go_wp2_with fail
  clear kbR0 kbR1 kbR2 kbR3 kbR4 zkbR
  refine Calls.mono (C_impl_SignData _ g _ r rr ig sbr) ?_
  rintro e q4 ⟨cq4, fq4, rfl, how, -, hb⟩
  obtain ⟨t, ht⟩ : ∃ y, y = f_SignData g r := ⟨_, rfl⟩
  have HT := Lib.hid ht
  rw [← ht] at how
  clear ht
  obtain ⟨T0, Ta, T1, Tb, T2, Tc, rfl⟩ := ow_Data how
  have rt := Ty.ow_rd how
  clear how
  replace r0 := Ty.rd_below hb r0
  replace rr := Ty.rd_below hb rr
  replace bR := Blk.below bR hb (Blk.lt bR)
  replace hW := bel_trans hW hb
  clear hb
  go_wp2_with fail
  obtain ⟨Q4, hQ4⟩ : ∃ V, V = (q4.alloc (.cells #[.slice T0 (List.length t.1) Ta, .slice T1 (List.length t.2.1) Tb, .slice T2 (List.length t.2.2.1) Tc, .int .i64 t.2.2.2.1, .int .i64 t.2.2.2.2] 46)) := ⟨_, rfl⟩
  have bQ4 : Below q4.heap.size q4 Q4 := by rw [hQ4]; exact b_2
  have bT : Blk Q4 (q4.heap.size) 46 #[.slice T0 (List.length t.1) Ta, .slice T1 (List.length t.2.1) Tb, .slice T2 (List.length t.2.2.1) Tc, .int .i64 t.2.2.2.1, .int .i64 t.2.2.2.2] := by rw [hQ4]; have := Blk.new q4 46 #[.slice T0 (List.length t.1) Ta, .slice T1 (List.length t.2.1) Tb, .slice T2 (List.length t.2.2.1) Tc, .int .i64 t.2.2.2.1, .int .i64 t.2.2.2.2]; (try simp only [World.size_alloc] at this); exact this
  have zbT := bT.lt
  rw [← hQ4]
  clear hQ4
  replace r0 := Ty.rd_below bQ4 r0
  replace rr := Ty.rd_below bQ4 rr
  replace bR := Blk.below bR bQ4 (Blk.lt bR)
  replace rt := Ty.rd_below bQ4 rt
  replace hW := bel_trans hW bQ4
  clear bQ4
  have sbt : Ty.bulk tData t ≤ 1048576 := by rw [HT.out]; exact sbr
  obtain ⟨kbT0, kbT1, kbT2, kbT3, kbT4, -, -, -, -, -, -⟩ := bk5 bT
  have zkbT := bT.lt
  go_wp2_with fail
  clear kbT0 kbT1 kbT2 kbT3 kbT4 zkbT
  refine Calls.mono (C_impl_ValidSecret _ _) ?_
  rintro e q5 ⟨rfl, hq⟩
  obtain rfl : Q4 = q5 := hq.symm
  clear hq
  cases hs : inR g 1 2147483646
  case' false =>
   have hvf : f_VerifyData g t = false := by rw [HT.out, verify_signed, hs]
   replace hvf := Lib.hid hvf
   clear hs HT
   obtain ⟨kbT0, kbT1, kbT2, kbT3, kbT4, -, -, -, -, -, -⟩ := bk5 bT
   have zkbT := bT.lt
   go_wp2_with fail
   clear kbT0 kbT1 kbT2 kbT3 kbT4 zkbT
   refine Calls.mono (C_impl_VerifyData _ g _ t rt ig sbt) ?_
   rw [hvf.out]
   rintro e q6 ⟨rfl, hb⟩
   go_wp2
   go_ret
   exact ⟨rfl, bel_trans hW hb⟩
  case' true =>
   as_aux_lemma =>
    have hvt : f_VerifyData g t = true := by rw [HT.out, verify_signed, hs]
    replace hvt := Lib.hid hvt
    clear hs
    obtain ⟨kbT0, kbT1, kbT2, kbT3, kbT4, -, -, -, -, -, -⟩ := bk5 bT
    have zkbT := bT.lt
    obtain ⟨_, _, _, _, _, _, heq, rt0, rt1, rt2, ti3, ti4⟩ := rd_Data rt
    simp only [List.cons.injEq, Value.slice.injEq, and_true, true_and] at heq
    obtain ⟨⟨rfl, rfl⟩, ⟨rfl, rfl⟩, ⟨rfl, rfl⟩⟩ := heq
    obtain ⟨_, _, _, _, _, _, -, -, -, -, ri3, -⟩ := rd_Data rr
    have HVU := Lib.hid (things_until HT.out ri3)
    have HVV := Lib.hid (things_sig HT.out)
    have HTX := Lib.hid (fun (i : Nat) (hi : i < t.2.1.length) (c : UInt8) (hc : c ≠ t.2.1[i]) => things_text HT.out hi hc)
    have hcl : List.length t.2.1 ≤ 61 := by rw [HT.out]; exact hrl
    clear HT ri3 rr bR
    have zT1 : q4.heap.size < Q4.heap.size + 1 := by omega
    have zT2 : q4.heap.size < Q4.heap.size + 1 + 1 := by omega
    have zT3 : q4.heap.size < Q4.heap.size + 1 + 1 + 1 := by omega
    have zT4 : q4.heap.size < Q4.heap.size + 1 + 1 + 1 + 1 := by omega
    have HL : Hid (GRow .byte (Q4.heap.size + 1 + 1 + 1) [] ((((Q4.alloc (.cells #[.slice T0 (List.length t.1) Ta, .slice T1 (List.length t.2.1) Tb, .slice T2 (List.length t.2.2.1) Tc, .int .i64 (wrap64 (t.2.2.2.1 + 1)), .int .i64 t.2.2.2.2] 46)).alloc (.cells #[.slice T0 (List.length t.1) Ta, .slice T1 (List.length t.2.1) Tb, .slice T2 (List.length t.2.2.1) Tc, .int .i64 t.2.2.2.1, .int .i64 ((wrap64 (t.2.2.2.2 + 1)).tmod 2147483647)] 46)).alloc (.cells #[.slice T0 (List.length t.1) Ta, .slice T1 (List.length t.2.1) Tb, .slice T2 (List.length t.2.2.1) Tc, .int .i64 t.2.2.2.1, .int .i64 t.2.2.2.2] 46)).alloc (.cells #[] 5)) 5 (.slice (some ⟨Q4.heap.size + 1 + 1 + 1, 0, none⟩) 0 0) []) := by
     have := GRow.ofRow (e := .byte) (F := flatB) rfl (Row.lit0 (base := Q4.heap.size + 1 + 1 + 1) flatB (((Q4.alloc (.cells #[.slice T0 (List.length t.1) Ta, .slice T1 (List.length t.2.1) Tb, .slice T2 (List.length t.2.2.1) Tc, .int .i64 (wrap64 (t.2.2.2.1 + 1)), .int .i64 t.2.2.2.2] 46)).alloc (.cells #[.slice T0 (List.length t.1) Ta, .slice T1 (List.length t.2.1) Tb, .slice T2 (List.length t.2.2.1) Tc, .int .i64 t.2.2.2.1, .int .i64 ((wrap64 (t.2.2.2.2 + 1)).tmod 2147483647)] 46)).alloc (.cells #[.slice T0 (List.length t.1) Ta, .slice T1 (List.length t.2.1) Tb, .slice T2 (List.length t.2.2.1) Tc, .int .i64 t.2.2.2.1, .int .i64 t.2.2.2.2] 46)) 5 (by simp only [World.size_alloc]; exact Nat.le_refl _))
     simp only [World.size_alloc] at this
     exact Lib.hid this
    set_option maxRecDepth 100000 in go_wp2_with (at_builtin; go_loud (refine wpList_append_grow (e := .byte) rfl _ _ 22 rfl (Q4.heap.size + 1 + 1 + 1) [] 5 info_Byte rfl Try.underlying22 (.slice (some ⟨Q4.heap.size + 1 + 1 + 1, 0, none⟩) 0 0) (.slice T1 (List.length t.2.1) Tb) [] t.2.1 b_31 b_31 HL.out (ASrc.flat rfl (Ty.rd_below b_2 rt1)) ?_ ?_ ?_ ?_ ?_))
    case refine_1 => intro q hq; simp at hq
    case refine_2 => simp only [List.length_nil]; omega
    case refine_3 => simp only [List.length_nil]; unfold maxLen; omega
    case refine_4 => simp only [World.size_alloc]; omega
    intro v' a0 hr' hg'
    have hQ0 : Below Q4.heap.size Q4 a0 := bel_grown b_2 b_20 hg' (fun q hq => by simp [Value.ownBlock] at hq; omega)
    have hne : ∀ q : Nat, q < Q4.heap.size + 1 + 1 + 1 → some q ≠ (Value.slice (some ⟨Q4.heap.size + 1 + 1 + 1, 0, none⟩) 0 0).ownBlock := fun q hq h => by simp [Value.ownBlock] at h; omega
    have bU : Blk a0 Q4.heap.size 46 #[.slice T0 (List.length t.1) Ta, .slice T1 (List.length t.2.1) Tb, .slice T2 (List.length t.2.2.1) Tc, .int .i64 (wrap64 (t.2.2.2.1 + 1)), .int .i64 t.2.2.2.2] := Blk.grown ((((Blk.new Q4 46 #[.slice T0 (List.length t.1) Ta, .slice T1 (List.length t.2.1) Tb, .slice T2 (List.length t.2.2.1) Tc, .int .i64 (wrap64 (t.2.2.2.1 + 1)), .int .i64 t.2.2.2.2]).alloc _).alloc _).alloc _) hg' (hne _ b_29)
    have bV : Blk a0 (Q4.heap.size + 1) 46 #[.slice T0 (List.length t.1) Ta, .slice T1 (List.length t.2.1) Tb, .slice T2 (List.length t.2.2.1) Tc, .int .i64 t.2.2.2.1, .int .i64 ((wrap64 (t.2.2.2.2 + 1)).tmod 2147483647)] := by
     have := Blk.new (Q4.alloc (.cells #[.slice T0 (List.length t.1) Ta, .slice T1 (List.length t.2.1) Tb, .slice T2 (List.length t.2.2.1) Tc, .int .i64 (wrap64 (t.2.2.2.1 + 1)), .int .i64 t.2.2.2.2] 46)) 46 #[.slice T0 (List.length t.1) Ta, .slice T1 (List.length t.2.1) Tb, .slice T2 (List.length t.2.2.1) Tc, .int .i64 t.2.2.2.1, .int .i64 ((wrap64 (t.2.2.2.2 + 1)).tmod 2147483647)]
     simp only [World.size_alloc] at this
     exact Blk.grown ((this.alloc _).alloc _) hg' (hne _ b_29)
    have bW : Blk a0 (Q4.heap.size + 1 + 1) 46 #[.slice T0 (List.length t.1) Ta, .slice T1 (List.length t.2.1) Tb, .slice T2 (List.length t.2.2.1) Tc, .int .i64 t.2.2.2.1, .int .i64 t.2.2.2.2] := by
     have := Blk.new ((Q4.alloc (.cells #[.slice T0 (List.length t.1) Ta, .slice T1 (List.length t.2.1) Tb, .slice T2 (List.length t.2.2.1) Tc, .int .i64 (wrap64 (t.2.2.2.1 + 1)), .int .i64 t.2.2.2.2] 46)).alloc (.cells #[.slice T0 (List.length t.1) Ta, .slice T1 (List.length t.2.1) Tb, .slice T2 (List.length t.2.2.1) Tc, .int .i64 t.2.2.2.1, .int .i64 ((wrap64 (t.2.2.2.2 + 1)).tmod 2147483647)] 46)) 46 #[.slice T0 (List.length t.1) Ta, .slice T1 (List.length t.2.1) Tb, .slice T2 (List.length t.2.2.1) Tc, .int .i64 t.2.2.2.1, .int .i64 t.2.2.2.2]
     simp only [World.size_alloc] at this
     exact Blk.grown (this.alloc _) hg' (hne _ b_29)
    have hG : GRow .byte (Q4.heap.size + 1 + 1 + 1) [] a0 5 v' t.2.1 := hr'
    obtain ⟨A9, c9, rfl⟩ := hG.form
    have zq0 := hg'.size
    (try simp only [World.size_alloc] at zq0)
    clear hr' hg' hne HL zT1 zT2 zT3 zT4
    clear kbT0 kbT1 kbT2 kbT3 kbT4 zkbT
    have bT0 := Blk.below bT hQ0 bT.lt
    obtain ⟨kbT0, kbT1, kbT2, kbT3, kbT4, -, -, -, -, -, -⟩ := bk5 bT0
    obtain ⟨kbW0, kbW1, kbW2, kbW3, kbW4, -, -, -, -, -, -⟩ := bk5 bW
    have zkT := bT0.lt
    have zkW := bW.lt
    have fW : a0.frozen? ⟨Q4.heap.size + 1 + 1, 1, none⟩ = false := bW.f1
    by_cases h0 : 0 < List.length t.2.1
    ·as_aux_lemma =>
      have q0 : (0 : Int) < (List.length t.2.1 : Int) := by omega
      have q2 : ¬ t.2.1 = [] := by intro h; rw [h] at h0; simp at h0
      have q1 : ((List.length t.2.1 : Int) == 0) = false := by rw [beq_eq_false_iff_ne]; omega
      go_wp2_with fail
      obtain ⟨a1, ha1⟩ : ∃ V, V = a0.setCell ⟨Q4.heap.size + 1 + 1, 1, none⟩ (.slice A9 (List.length t.2.1) c9) := ⟨_, rfl⟩
      rw [← ha1]
      have hQ1 : Below Q4.heap.size Q4 a1 := by rw [ha1]; exact bel_set hQ0 b_25 _
      have bT1 : Blk a1 q4.heap.size 46 #[.slice T0 (List.length t.1) Ta, .slice T1 (List.length t.2.1) Tb, .slice T2 (List.length t.2.2.1) Tc, .int .i64 t.2.2.2.1, .int .i64 t.2.2.2.2] := by rw [ha1]; exact bT0.far (p := ⟨Q4.heap.size + 1 + 1, 1, none⟩) b_25 _
      replace bU : Blk a1 Q4.heap.size 46 #[.slice T0 (List.length t.1) Ta, .slice T1 (List.length t.2.1) Tb, .slice T2 (List.length t.2.2.1) Tc, .int .i64 (wrap64 (t.2.2.2.1 + 1)), .int .i64 t.2.2.2.2] := by rw [ha1]; exact bU.far (p := ⟨Q4.heap.size + 1 + 1, 1, none⟩) b_25 _
      replace bV : Blk a1 (Q4.heap.size + 1) 46 #[.slice T0 (List.length t.1) Ta, .slice T1 (List.length t.2.1) Tb, .slice T2 (List.length t.2.2.1) Tc, .int .i64 t.2.2.2.1, .int .i64 ((wrap64 (t.2.2.2.2 + 1)).tmod 2147483647)] := by rw [ha1]; exact bV.far (p := ⟨Q4.heap.size + 1 + 1, 1, none⟩) b_25 _
      replace bW : Blk a1 (Q4.heap.size + 1 + 1) 46 #[.slice T0 (List.length t.1) Ta, .slice A9 (List.length t.2.1) c9, .slice T2 (List.length t.2.2.1) Tc, .int .i64 t.2.2.2.1, .int .i64 t.2.2.2.2] := by rw [ha1]; exact bW.set_ 1 _
      replace hG : GRow .byte (Q4.heap.size + 1 + 1 + 1) [] a1 5 (.slice A9 (List.length t.2.1) c9) t.2.1 := by rw [ha1]; exact hG.set (p := ⟨Q4.heap.size + 1 + 1, 1, none⟩) (.inl b_25) _
      clear kbT0 kbW0 kbT1 kbW1 kbT2 kbW2 kbT3 kbW3 kbT4 kbW4 zkT zkW fW
      clear ha1 bT0 hQ0
      have zq1 := hQ1.size
      have HC1 : Hid (∀ U, Below a1.heap.size a1 U → U.cell? ⟨Q4.heap.size + 1 + 1, 1, none⟩ = some (.slice A9 (List.length t.2.1) c9)) := fun U hU => (bW.below hU bW.lt).cell 1
      have r01 := Ty.rd_below hQ1 r0
      refine wp_region_noPanic ?_
      refine wp_region_held_drew (S := (fun U => U.cell? ⟨Q4.heap.size + 1 + 1, 1, none⟩ = some (.slice A9 (List.length t.2.1) c9))) b_23 ?_ (fun hHeld => ?_)
      ·exact HC1.out _ b_2
      refine tk 0 (opN rfl) b_23 b_31 b_15 b_26 ?_
      try simp only [layz]
      refine tk 2 (opN rfl) b_23 b_31 b_15 b_26 ?_
      try simp only [layz]
      refine tk 3 (opN rfl) b_23 b_31 b_15 b_26 ?_
      try simp only [layz]
      refine tk 4 (opN rfl) b_23 b_31 b_15 b_26 ?_
      try simp only [layz]
      refine wpAnyH_ready (rs := [1]) b_23 b_30 ?_
      refine (AllReadyH.cons (opN rfl) (fun K hK => ?_) AllReadyH.nil)
      go_simp
      go_at_call 15
      refine (C_laws_at _ _ x0 2 (Ty.rd_below b_2 r01) b_29 b_28).mono ?_
      rintro e z1 ⟨hz1, k2, rfl, k20, k21⟩
      subst hz1
      obtain ⟨n2, rfl⟩ : ∃ n : Nat, k2 = n := ⟨k2.toNat, by omega⟩
      obtain ⟨m, hm⟩ : ∃ m : Nat, m = n2 % List.length t.2.1 := ⟨_, rfl⟩
      have hml : m < List.length t.2.1 := by rw [hm]; exact Nat.mod_lt _ h0
      have hrem : (n2 : Int).tmod (List.length t.2.1 : Int) = (m : Int) := by rw [hm]; rfl
      have hrem2 : (n2 : Int) % (List.length t.2.1 : Int) = (m : Int) := by rw [hm]; rfl
      clear hm
      refine hK.out _ _ (HC1.out _ b_2) (fun hHeld => ?_)
      clear hK K
      try simp only [layz]
      refine tk 5 (opN rfl) b_23 b_31 b_15 b_26 ?_
      try simp only [layz]
      refine tk 6 (opN rfl) b_23 b_31 b_15 b_26 ?_
      try simp only [layz]
      refine wpAnyH_done b_23 ?_ _
      refine NoPanic.normal ?_
      have hD1 : Below Q4.heap.size Q4 a1.drew := bel_drew hQ1
      obtain ⟨d1, hd1⟩ : ∃ V, V = a1.drew := ⟨_, rfl⟩
      rw [← hd1]
      have HG1 : GRow .byte (Q4.heap.size + 1 + 1 + 1) [] d1 5 (.slice A9 (List.length t.2.1) c9) t.2.1 := by rw [hd1]; exact hG.drew
      obtain ⟨g9, ds, hA, hdl, hcell, hfr, hgb, hrd9, -⟩ := HG1.at (k := m) hml
      obtain ⟨u9, rfl⟩ : ∃ u, ds = [u] := List.length_eq_one_iff.1 hdl
      obtain rfl : u9 = .int .u8 ((t.2.1[m]).toNat : Int) := by have := (flatB.rd d1 _ _).1 hrd9; exact (List.cons.inj this.1).1
      subst hA
      have e1 : d1.cell? ⟨g9, m, none⟩ = some (.int .u8 ((t.2.1[m]).toNat : Int)) := by simpa [Ty.sz] using hcell 0 b_28
      have f1 := hfr m
      have i1 : (0 : Int) ≤ (m : Int) := by omega
      have i2 : (m : Int) < (List.length t.2.1 : Int) := by omega
      have zg : g9 < d1.heap.size := hgb.2.1
      have zg0 := hgb.1
      have HGD := Lib.hid HG1
      have bT2 : Blk d1 q4.heap.size 46 #[.slice T0 (List.length t.1) Ta, .slice T1 (List.length t.2.1) Tb, .slice T2 (List.length t.2.2.1) Tc, .int .i64 t.2.2.2.1, .int .i64 t.2.2.2.2] := by rw [hd1]; exact bT1.drew
      have bU2 : Blk d1 Q4.heap.size 46 #[.slice T0 (List.length t.1) Ta, .slice T1 (List.length t.2.1) Tb, .slice T2 (List.length t.2.2.1) Tc, .int .i64 (wrap64 (t.2.2.2.1 + 1)), .int .i64 t.2.2.2.2] := by rw [hd1]; exact bU.drew
      have bV2 : Blk d1 (Q4.heap.size + 1) 46 #[.slice T0 (List.length t.1) Ta, .slice T1 (List.length t.2.1) Tb, .slice T2 (List.length t.2.2.1) Tc, .int .i64 t.2.2.2.1, .int .i64 ((wrap64 (t.2.2.2.2 + 1)).tmod 2147483647)] := by rw [hd1]; exact bV.drew
      have bW2 : Blk d1 (Q4.heap.size + 1 + 1) 46 #[.slice T0 (List.length t.1) Ta, .slice (some ⟨g9, 0, none⟩) (List.length t.2.1) c9, .slice T2 (List.length t.2.2.1) Tc, .int .i64 t.2.2.2.1, .int .i64 t.2.2.2.2] := by rw [hd1]; exact bW.drew
      have r03 := Ty.rd_below hD1 r0
      rw [← hd1] at r03 hD1
      have hQ2 := hD1
      clear hcell hfr hdl hrd9 hG HG1 bT1 bU bV bW HC1 hD1 r01 hd1
      have HC2 : Hid (∀ U, Below d1.heap.size d1 U → U.cell? ⟨Q4.heap.size + 1 + 1, 1, none⟩ = some (.slice (some ⟨g9, 0, none⟩) (List.length t.2.1) c9)) := fun U hU => (bW2.below hU bW2.lt).cell 1
      go_wp2_with fail
      refine wp_region_noPanic ?_
      refine wp_region_held_drew (S := (fun U => U.cell? ⟨Q4.heap.size + 1 + 1, 1, none⟩ = some (.slice (some ⟨g9, 0, none⟩) (List.length t.2.1) c9))) b_23 ?_ (fun hHeld => ?_)
      ·exact HC2.out _ b_2
      refine tk 0 (opN rfl) b_23 b_31 b_15 b_26 ?_
      try simp only [layz]
      refine tk 2 (opN rfl) b_23 b_31 b_15 b_26 ?_
      try simp only [layz]
      refine tk 3 (opN rfl) b_23 b_31 b_15 b_26 ?_
      try simp only [layz]
      refine tk 5 (opN rfl) b_23 b_31 b_15 b_26 ?_
      try simp only [layz]
      refine tk 9 (opN rfl) b_23 b_31 b_15 b_26 ?_
      try simp only [layz]
      refine tk 1 (opN rfl) b_23 b_31 b_15 b_26 ?_
      try simp only [layz]
      refine tk 4 (opN rfl) b_23 b_31 b_15 b_26 ?_
      try simp only [layz]
      refine tk 6 (opN rfl) b_23 b_31 b_15 b_26 ?_
      try simp only [layz]
      refine wpAnyH_ready (rs := [7, 10]) b_23 b_30 ?_
      refine (AllReadyH.cons (opN rfl) (fun K hK => ?_) (AllReadyH.cons (opN rfl) (fun K hK => ?_) AllReadyH.nil))
      ·have e2 : d1.drew.cell? ⟨g9, m, none⟩ = some (.int .u8 ((t.2.1[m]).toNat : Int)) := e1
       go_simp
       clear e2
       refine hK.out _ _ (HC2.out _ b_2) (fun hHeld => ?_)
       clear hK K
       try simp only [layz]
       refine tk 8 (opN rfl) b_23 b_31 b_15 b_26 ?_
       try simp only [layz]
       refine wpAnyH_ready (rs := [10]) b_23 b_30 ?_
       refine (AllReadyH.cons (opN rfl) (fun K hK => ?_) AllReadyH.nil)
       go_simp
       go_at_call 15
       refine (C_laws_at _ _ x0 3 (Ty.rd_below b_2 r03) b_29 b_28).mono ?_
       rintro e z2 ⟨hz2, k3, rfl, k30, k31⟩
       subst hz2
       refine hK.out _ _ (HC2.out _ b_2) (fun hHeld => ?_)
       clear hK K
       try simp only [layz]
       refine tk 11 (opN rfl) b_23 b_31 b_15 b_26 ?_
       try simp only [layz]
       refine tk 12 (opN rfl) b_23 b_31 b_15 b_26 ?_
       try simp only [layz]
       refine tk 13 (opN rfl) b_23 b_31 b_15 b_26 ?_
       try simp only [layz]
       refine tk 14 (opN rfl) b_23 b_31 b_15 b_26 ?_
       try simp only [layz]
       refine wpAnyH_ready (rs := [15]) b_23 b_30 ?_
       refine (AllReadyH.cons (opN rfl) (fun K hK => ?_) AllReadyH.nil)
       go_simp
       refine abs_world (fun a2 ha2 => ?_)
       obtain ⟨z9, hz9⟩ : ∃ z, z = IntKind.u8.wrap (IntKind.u8.wrap (((t.2.1[m]).toNat : Int) + 1) + IntKind.u8.wrap (k3.tmod 255)) := ⟨_, rfl⟩
       rw [← hz9] at ha2
       have hz0 : 0 ≤ z9 ∧ z9 ≤ 255 := by rw [hz9]; exact u8_bd _
       have hzc : UInt8.ofNat z9.toNat ≠ t.2.1[m] := bent_ne hz9 k30 k31
       clear hz9
       obtain ⟨r9, hr9⟩ : ∃ r, r = t.2.1.set m (UInt8.ofNat z9.toNat) := ⟨_, rfl⟩
       have hl9 : r9.length = List.length t.2.1 := by rw [hr9]; exact List.length_set
       have hV9 := HTX.out m hml _ hzc
       rw [← hr9] at hV9
       replace hV9 := Lib.hid hV9
       have HS := HGD.out.setAt (k := m) (j := 0) hml b_28 (.int .u8 z9) (UInt8.ofNat z9.toNat) (fun W ds hd => byte_set hz0.1 hz0.2 hd)
       simp only [Ty.sz, Nat.mul_one, Nat.add_zero] at HS
       rw [← hr9] at HS
       have hS9 : (Ty.sl .byte).rd a2 [.slice (some ⟨g9, 0, none⟩) (List.length t.2.1) c9] r9 := by rw [ha2]; exact HS.drew.rd
       have hQ3 : Below Q4.heap.size Q4 a2 := by rw [ha2]; exact bel_drew (bel_set hQ2 b_25 _)
       have bT3 : Blk a2 (q4.heap.size) 46 #[.slice T0 (List.length t.1) Ta, .slice T1 (List.length t.2.1) Tb, .slice T2 (List.length t.2.2.1) Tc, .int .i64 t.2.2.2.1, .int .i64 t.2.2.2.2] := by rw [ha2]; exact (bT2.far (p := ⟨g9, m, none⟩) b_25 _).drew
       have bU : Blk a2 (Q4.heap.size) 46 #[.slice T0 (List.length t.1) Ta, .slice T1 (List.length t.2.1) Tb, .slice T2 (List.length t.2.2.1) Tc, .int .i64 (wrap64 (t.2.2.2.1 + 1)), .int .i64 t.2.2.2.2] := by rw [ha2]; exact (bU2.far (p := ⟨g9, m, none⟩) b_25 _).drew
       have bV : Blk a2 (Q4.heap.size + 1) 46 #[.slice T0 (List.length t.1) Ta, .slice T1 (List.length t.2.1) Tb, .slice T2 (List.length t.2.2.1) Tc, .int .i64 t.2.2.2.1, .int .i64 ((wrap64 (t.2.2.2.2 + 1)).tmod 2147483647)] := by rw [ha2]; exact (bV2.far (p := ⟨g9, m, none⟩) b_25 _).drew
       have bW : Blk a2 (Q4.heap.size + 1 + 1) 46 #[.slice T0 (List.length t.1) Ta, .slice (some ⟨g9, 0, none⟩) (List.length t.2.1) c9, .slice T2 (List.length t.2.2.1) Tc, .int .i64 t.2.2.2.1, .int .i64 t.2.2.2.2] := by rw [ha2]; exact (bW2.far (p := ⟨g9, m, none⟩) b_25 _).drew
       have k9 := bW.cell 1
       clear ha2 HS hr9 HGD bT2 bU2 bV2 bW2 hQ2 e1 f1 hzc hz0
       refine hK.out _ _ (k9) (fun hHeld => ?_)
       clear hK K
       try simp only [layz]
       refine wpAnyH_done b_23 ?_ _
       refine NoPanic.normal ?_
       clear k9 HC2
       as_aux_lemma =>
        go_wp2_with fail
        have HC3 : Hid (∀ U, Below a2.heap.size a2 U → U.cell? ⟨q4.heap.size, 0, none⟩ = some (.slice T0 (List.length t.1) Ta) ∧ U.cell? ⟨q4.heap.size, 1, none⟩ = some (.slice T1 (List.length t.2.1) Tb) ∧ U.cell? ⟨q4.heap.size, 2, none⟩ = some (.slice T2 (List.length t.2.2.1) Tc) ∧ U.cell? ⟨q4.heap.size, 3, none⟩ = some (.int .i64 t.2.2.2.1) ∧ U.cell? ⟨q4.heap.size, 4, none⟩ = some (.int .i64 t.2.2.2.2) ∧ U.cell? ⟨Q4.heap.size, 0, none⟩ = some (.slice T0 (List.length t.1) Ta) ∧ U.cell? ⟨Q4.heap.size, 1, none⟩ = some (.slice T1 (List.length t.2.1) Tb) ∧ U.cell? ⟨Q4.heap.size, 2, none⟩ = some (.slice T2 (List.length t.2.2.1) Tc) ∧ U.cell? ⟨Q4.heap.size, 3, none⟩ = some (.int .i64 (wrap64 (t.2.2.2.1 + 1))) ∧ U.cell? ⟨Q4.heap.size, 4, none⟩ = some (.int .i64 t.2.2.2.2) ∧ U.cell? ⟨Q4.heap.size + 1, 0, none⟩ = some (.slice T0 (List.length t.1) Ta) ∧ U.cell? ⟨Q4.heap.size + 1, 1, none⟩ = some (.slice T1 (List.length t.2.1) Tb) ∧ U.cell? ⟨Q4.heap.size + 1, 2, none⟩ = some (.slice T2 (List.length t.2.2.1) Tc) ∧ U.cell? ⟨Q4.heap.size + 1, 3, none⟩ = some (.int .i64 t.2.2.2.1) ∧ U.cell? ⟨Q4.heap.size + 1, 4, none⟩ = some (.int .i64 ((wrap64 (t.2.2.2.2 + 1)).tmod 2147483647)) ∧ U.cell? ⟨Q4.heap.size + 1 + 1, 0, none⟩ = some (.slice T0 (List.length t.1) Ta) ∧ U.cell? ⟨Q4.heap.size + 1 + 1, 1, none⟩ = some (.slice (some ⟨g9, 0, none⟩) (List.length t.2.1) c9) ∧ U.cell? ⟨Q4.heap.size + 1 + 1, 2, none⟩ = some (.slice T2 (List.length t.2.2.1) Tc) ∧ U.cell? ⟨Q4.heap.size + 1 + 1, 3, none⟩ = some (.int .i64 t.2.2.2.1) ∧ U.cell? ⟨Q4.heap.size + 1 + 1, 4, none⟩ = some (.int .i64 t.2.2.2.2)) := fun U hU => ⟨(bT3.below hU bT3.lt).cell 0, (bT3.below hU bT3.lt).cell 1, (bT3.below hU bT3.lt).cell 2, (bT3.below hU bT3.lt).cell 3, (bT3.below hU bT3.lt).cell 4, (bU.below hU bU.lt).cell 0, (bU.below hU bU.lt).cell 1, (bU.below hU bU.lt).cell 2, (bU.below hU bU.lt).cell 3, (bU.below hU bU.lt).cell 4, (bV.below hU bV.lt).cell 0, (bV.below hU bV.lt).cell 1, (bV.below hU bV.lt).cell 2, (bV.below hU bV.lt).cell 3, (bV.below hU bV.lt).cell 4, (bW.below hU bW.lt).cell 0, (bW.below hU bW.lt).cell 1, (bW.below hU bW.lt).cell 2, (bW.below hU bW.lt).cell 3, (bW.below hU bW.lt).cell 4⟩
        have ru : tData.rd a2 [.slice T0 (List.length t.1) Ta, .slice T1 (List.length t.2.1) Tb, .slice T2 (List.length t.2.2.1) Tc, .int .i64 (wrap64 (t.2.2.2.1 + 1)), .int .i64 t.2.2.2.2] (withUntil t (wrap64 (t.2.2.2.1 + 1))) := ⟨[_], _, rfl, Ty.rd_below hQ3 rt0, [_], _, rfl, Ty.rd_below hQ3 rt1, [_], _, rfl, Ty.rd_below hQ3 rt2, [_], [_], rfl, ⟨rfl, wr64b _⟩, ⟨rfl, ti4⟩⟩
        have rv : tData.rd a2 [.slice T0 (List.length t.1) Ta, .slice T1 (List.length t.2.1) Tb, .slice T2 (List.length t.2.2.1) Tc, .int .i64 t.2.2.2.1, .int .i64 ((wrap64 (t.2.2.2.2 + 1)).tmod 2147483647)] (signed t ((wrap64 (t.2.2.2.2 + 1)).tmod 2147483647)) := ⟨[_], _, rfl, Ty.rd_below hQ3 rt0, [_], _, rfl, Ty.rd_below hQ3 rt1, [_], _, rfl, Ty.rd_below hQ3 rt2, [_], [_], rfl, ⟨rfl, ti3⟩, ⟨rfl, tm64 _⟩⟩
        have rw_ : tData.rd a2 [.slice T0 (List.length t.1) Ta, .slice (some ⟨g9, 0, none⟩) (List.length t.2.1) c9, .slice T2 (List.length t.2.2.1) Tc, .int .i64 t.2.2.2.1, .int .i64 t.2.2.2.2] (withText t r9) := ⟨[_], _, rfl, Ty.rd_below hQ3 rt0, [_], _, rfl, hS9, [_], _, rfl, Ty.rd_below hQ3 rt2, [_], [_], rfl, ⟨rfl, ti3⟩, ⟨rfl, ti4⟩⟩
        have rtV := Ty.rd_below hQ3 rt
        have sbw : Ty.bulk tData (withText t r9) ≤ 1048576 := by rw [bulk_text (by first | rfl | exact hl9)]; exact sbt
        have sbu : Ty.bulk tData (withUntil t (wrap64 (t.2.2.2.1 + 1))) ≤ 1048576 := sbt
        have sbv : Ty.bulk tData (signed t ((wrap64 (t.2.2.2.2 + 1)).tmod 2147483647)) ≤ 1048576 := sbt
        refine wp_region_noPanic ?_
        refine wp_region_held_drew (S := (fun U => U.cell? ⟨q4.heap.size, 0, none⟩ = some (.slice T0 (List.length t.1) Ta) ∧ U.cell? ⟨q4.heap.size, 1, none⟩ = some (.slice T1 (List.length t.2.1) Tb) ∧ U.cell? ⟨q4.heap.size, 2, none⟩ = some (.slice T2 (List.length t.2.2.1) Tc) ∧ U.cell? ⟨q4.heap.size, 3, none⟩ = some (.int .i64 t.2.2.2.1) ∧ U.cell? ⟨q4.heap.size, 4, none⟩ = some (.int .i64 t.2.2.2.2) ∧ U.cell? ⟨Q4.heap.size, 0, none⟩ = some (.slice T0 (List.length t.1) Ta) ∧ U.cell? ⟨Q4.heap.size, 1, none⟩ = some (.slice T1 (List.length t.2.1) Tb) ∧ U.cell? ⟨Q4.heap.size, 2, none⟩ = some (.slice T2 (List.length t.2.2.1) Tc) ∧ U.cell? ⟨Q4.heap.size, 3, none⟩ = some (.int .i64 (wrap64 (t.2.2.2.1 + 1))) ∧ U.cell? ⟨Q4.heap.size, 4, none⟩ = some (.int .i64 t.2.2.2.2) ∧ U.cell? ⟨Q4.heap.size + 1, 0, none⟩ = some (.slice T0 (List.length t.1) Ta) ∧ U.cell? ⟨Q4.heap.size + 1, 1, none⟩ = some (.slice T1 (List.length t.2.1) Tb) ∧ U.cell? ⟨Q4.heap.size + 1, 2, none⟩ = some (.slice T2 (List.length t.2.2.1) Tc) ∧ U.cell? ⟨Q4.heap.size + 1, 3, none⟩ = some (.int .i64 t.2.2.2.1) ∧ U.cell? ⟨Q4.heap.size + 1, 4, none⟩ = some (.int .i64 ((wrap64 (t.2.2.2.2 + 1)).tmod 2147483647)) ∧ U.cell? ⟨Q4.heap.size + 1 + 1, 0, none⟩ = some (.slice T0 (List.length t.1) Ta) ∧ U.cell? ⟨Q4.heap.size + 1 + 1, 1, none⟩ = some (.slice (some ⟨g9, 0, none⟩) (List.length t.2.1) c9) ∧ U.cell? ⟨Q4.heap.size + 1 + 1, 2, none⟩ = some (.slice T2 (List.length t.2.2.1) Tc) ∧ U.cell? ⟨Q4.heap.size + 1 + 1, 3, none⟩ = some (.int .i64 t.2.2.2.1) ∧ U.cell? ⟨Q4.heap.size + 1 + 1, 4, none⟩ = some (.int .i64 t.2.2.2.2))) b_23 ?_ (fun hHeld => ?_)
        ·exact HC3.out _ b_2
        refine tk 0 (opN rfl) b_23 b_31 b_15 b_26 ?_
        try simp only [layz]
        refine tk 1 (opN rfl) b_23 b_31 b_15 b_26 ?_
        try simp only [layz]
        refine wpAnyH_ready (rs := [2]) b_23 b_30 ?_
        refine (AllReadyH.cons (opN rfl) (fun K hK => ?_) AllReadyH.nil)
        go_simp
        go_at_call 57
        refine Calls.mono (C_impl_VerifyData _ g _ t (Ty.rd_below b_2 rtV) ig sbt) ?_
        rw [hvt.out]
        rintro e y2 ⟨rfl, hy2⟩
        refine hK.out _ _ (HC3.out _ b_2) (fun hHeld => ?_)
        clear hK K
        try simp only [layz]
        refine tk 3 (opN rfl) b_23 b_31 b_15 b_26 ?_
        try simp only [layz]
        refine tk 4 (opN rfl) b_23 b_31 b_15 b_26 ?_
        try simp only [layz]
        refine tk 5 (opN rfl) b_23 b_31 b_15 b_26 ?_
        try simp only [layz]
        refine wpAnyH_ready (rs := [6]) b_23 b_30 ?_
        refine (AllReadyH.cons (opN rfl) (fun K hK => ?_) AllReadyH.nil)
        go_simp
        go_at_call 57
        refine Calls.mono (C_impl_VerifyData _ g _ (withUntil t (wrap64 (t.2.2.2.1 + 1))) (Ty.rd_below b_2 ru) ig sbu) ?_
        rw [HVU.out]
        rintro e y6 ⟨rfl, hy6⟩
        refine hK.out _ _ (HC3.out _ b_2) (fun hHeld => ?_)
        clear hK K
        try simp only [layz]
        refine tk 7 (opN rfl) b_23 b_31 b_15 b_26 ?_
        try simp only [layz]
        refine tk 8 (opN rfl) b_23 b_31 b_15 b_26 ?_
        try simp only [layz]
        refine tk 9 (opN rfl) b_23 b_31 b_15 b_26 ?_
        try simp only [layz]
        refine tk 10 (opN rfl) b_23 b_31 b_15 b_26 ?_
        try simp only [layz]
        refine tk 11 (opN rfl) b_23 b_31 b_15 b_26 ?_
        try simp only [layz]
        refine wpAnyH_ready (rs := [12]) b_23 b_30 ?_
        refine (AllReadyH.cons (opN rfl) (fun K hK => ?_) AllReadyH.nil)
        go_simp
        go_at_call 57
        refine Calls.mono (C_impl_VerifyData _ g _ (signed t ((wrap64 (t.2.2.2.2 + 1)).tmod 2147483647)) (Ty.rd_below b_2 rv) ig sbv) ?_
        rw [HVV.out]
        rintro e y12 ⟨rfl, hy12⟩
        refine hK.out _ _ (HC3.out _ b_2) (fun hHeld => ?_)
        clear hK K
        try simp only [layz]
        refine tk 13 (opN rfl) b_23 b_31 b_15 b_26 ?_
        try simp only [layz]
        refine tk 14 (opN rfl) b_23 b_31 b_15 b_26 ?_
        try simp only [layz]
        refine tk 15 (opN rfl) b_23 b_31 b_15 b_26 ?_
        try simp only [layz]
        refine tk 16 (opN rfl) b_23 b_31 b_15 b_26 ?_
        try simp only [layz]
        refine tk 17 (opN rfl) b_23 b_31 b_15 b_26 ?_
        try simp only [layz]
        refine tk 19 (opN rfl) b_23 b_31 b_15 b_26 ?_
        try simp only [layz]
        refine tk 20 (opN rfl) b_23 b_31 b_15 b_26 ?_
        try simp only [layz]
        refine tk 21 (opN rfl) b_23 b_31 b_15 b_26 ?_
        try simp only [layz]
        refine tk 22 (opN rfl) b_23 b_31 b_15 b_26 ?_
        try simp only [layz]
        refine wpAnyH_ready (rs := [18]) b_23 b_30 ?_
        refine (AllReadyH.cons (opN rfl) (fun K hK => ?_) AllReadyH.nil)
        go_simp
        go_at_call 57
        refine Calls.mono (C_impl_VerifyData _ g _ (withText t r9) (Ty.rd_below b_2 rw_) ig sbw) ?_
        rw [hV9.out]
        rintro e y18 ⟨rfl, hy18⟩
        refine hK.out _ _ (HC3.out _ b_2) (fun hHeld => ?_)
        clear hK K
        try simp only [layz]
        refine tk 23 (opN rfl) b_23 b_31 b_15 b_26 ?_
        try simp only [layz]
        refine tk 24 (opN rfl) b_23 b_31 b_15 b_26 ?_
        try simp only [layz]
        refine tk 25 (opN rfl) b_23 b_31 b_15 b_26 ?_
        try simp only [layz]
        refine wpAnyH_done b_23 ?_ _
        refine NoPanic.normal ?_
        have hT : Below a2.heap.size a2 y18 := b_2
        go_wp2
        go_ret
        exact ⟨rfl, bel_trans hW (bel_trans hQ3 (hT.mono (by have := (hQ3).size; omega)))⟩
      ·go_simp
       go_at_call 15
       refine (C_laws_at _ _ x0 3 (Ty.rd_below b_2 r03) b_29 b_28).mono ?_
       rintro e z2 ⟨hz2, k3, rfl, k30, k31⟩
       subst hz2
       refine hK.out _ _ (HC2.out _ b_2) (fun hHeld => ?_)
       clear hK K
       try simp only [layz]
       refine tk 11 (opN rfl) b_23 b_31 b_15 b_26 ?_
       try simp only [layz]
       refine tk 12 (opN rfl) b_23 b_31 b_15 b_26 ?_
       try simp only [layz]
       refine wpAnyH_ready (rs := [7]) b_23 b_30 ?_
       refine (AllReadyH.cons (opN rfl) (fun K hK => ?_) AllReadyH.nil)
       have e2 : d1.drew.cell? ⟨g9, m, none⟩ = some (.int .u8 ((t.2.1[m]).toNat : Int)) := e1
       go_simp
       clear e2
       refine hK.out _ _ (HC2.out _ b_2) (fun hHeld => ?_)
       clear hK K
       try simp only [layz]
       refine tk 8 (opN rfl) b_23 b_31 b_15 b_26 ?_
       try simp only [layz]
       refine tk 13 (opN rfl) b_23 b_31 b_15 b_26 ?_
       try simp only [layz]
       refine tk 14 (opN rfl) b_23 b_31 b_15 b_26 ?_
       try simp only [layz]
       refine wpAnyH_ready (rs := [15]) b_23 b_30 ?_
       refine (AllReadyH.cons (opN rfl) (fun K hK => ?_) AllReadyH.nil)
       go_simp
       refine abs_world (fun a2 ha2 => ?_)
       obtain ⟨z9, hz9⟩ : ∃ z, z = IntKind.u8.wrap (IntKind.u8.wrap (((t.2.1[m]).toNat : Int) + 1) + IntKind.u8.wrap (k3.tmod 255)) := ⟨_, rfl⟩
       rw [← hz9] at ha2
       have hz0 : 0 ≤ z9 ∧ z9 ≤ 255 := by rw [hz9]; exact u8_bd _
       have hzc : UInt8.ofNat z9.toNat ≠ t.2.1[m] := bent_ne hz9 k30 k31
       clear hz9
       obtain ⟨r9, hr9⟩ : ∃ r, r = t.2.1.set m (UInt8.ofNat z9.toNat) := ⟨_, rfl⟩
       have hl9 : r9.length = List.length t.2.1 := by rw [hr9]; exact List.length_set
       have hV9 := HTX.out m hml _ hzc
       rw [← hr9] at hV9
       replace hV9 := Lib.hid hV9
       have HS := HGD.out.setAt (k := m) (j := 0) hml b_28 (.int .u8 z9) (UInt8.ofNat z9.toNat) (fun W ds hd => byte_set hz0.1 hz0.2 hd)
       simp only [Ty.sz, Nat.mul_one, Nat.add_zero] at HS
       rw [← hr9] at HS
       have hS9 : (Ty.sl .byte).rd a2 [.slice (some ⟨g9, 0, none⟩) (List.length t.2.1) c9] r9 := by rw [ha2]; exact HS.drew.rd
       have hQ3 : Below Q4.heap.size Q4 a2 := by rw [ha2]; exact bel_drew (bel_set hQ2 b_25 _)
       have bT3 : Blk a2 (q4.heap.size) 46 #[.slice T0 (List.length t.1) Ta, .slice T1 (List.length t.2.1) Tb, .slice T2 (List.length t.2.2.1) Tc, .int .i64 t.2.2.2.1, .int .i64 t.2.2.2.2] := by rw [ha2]; exact (bT2.far (p := ⟨g9, m, none⟩) b_25 _).drew
       have bU : Blk a2 (Q4.heap.size) 46 #[.slice T0 (List.length t.1) Ta, .slice T1 (List.length t.2.1) Tb, .slice T2 (List.length t.2.2.1) Tc, .int .i64 (wrap64 (t.2.2.2.1 + 1)), .int .i64 t.2.2.2.2] := by rw [ha2]; exact (bU2.far (p := ⟨g9, m, none⟩) b_25 _).drew
       have bV : Blk a2 (Q4.heap.size + 1) 46 #[.slice T0 (List.length t.1) Ta, .slice T1 (List.length t.2.1) Tb, .slice T2 (List.length t.2.2.1) Tc, .int .i64 t.2.2.2.1, .int .i64 ((wrap64 (t.2.2.2.2 + 1)).tmod 2147483647)] := by rw [ha2]; exact (bV2.far (p := ⟨g9, m, none⟩) b_25 _).drew
       have bW : Blk a2 (Q4.heap.size + 1 + 1) 46 #[.slice T0 (List.length t.1) Ta, .slice (some ⟨g9, 0, none⟩) (List.length t.2.1) c9, .slice T2 (List.length t.2.2.1) Tc, .int .i64 t.2.2.2.1, .int .i64 t.2.2.2.2] := by rw [ha2]; exact (bW2.far (p := ⟨g9, m, none⟩) b_25 _).drew
       have k9 := bW.cell 1
       clear ha2 HS hr9 HGD bT2 bU2 bV2 bW2 hQ2 e1 f1 hzc hz0
       refine hK.out _ _ (k9) (fun hHeld => ?_)
       clear hK K
       try simp only [layz]
       refine wpAnyH_done b_23 ?_ _
       refine NoPanic.normal ?_
       clear k9 HC2
       as_aux_lemma =>
        go_wp2_with fail
        have HC3 : Hid (∀ U, Below a2.heap.size a2 U → U.cell? ⟨q4.heap.size, 0, none⟩ = some (.slice T0 (List.length t.1) Ta) ∧ U.cell? ⟨q4.heap.size, 1, none⟩ = some (.slice T1 (List.length t.2.1) Tb) ∧ U.cell? ⟨q4.heap.size, 2, none⟩ = some (.slice T2 (List.length t.2.2.1) Tc) ∧ U.cell? ⟨q4.heap.size, 3, none⟩ = some (.int .i64 t.2.2.2.1) ∧ U.cell? ⟨q4.heap.size, 4, none⟩ = some (.int .i64 t.2.2.2.2) ∧ U.cell? ⟨Q4.heap.size, 0, none⟩ = some (.slice T0 (List.length t.1) Ta) ∧ U.cell? ⟨Q4.heap.size, 1, none⟩ = some (.slice T1 (List.length t.2.1) Tb) ∧ U.cell? ⟨Q4.heap.size, 2, none⟩ = some (.slice T2 (List.length t.2.2.1) Tc) ∧ U.cell? ⟨Q4.heap.size, 3, none⟩ = some (.int .i64 (wrap64 (t.2.2.2.1 + 1))) ∧ U.cell? ⟨Q4.heap.size, 4, none⟩ = some (.int .i64 t.2.2.2.2) ∧ U.cell? ⟨Q4.heap.size + 1, 0, none⟩ = some (.slice T0 (List.length t.1) Ta) ∧ U.cell? ⟨Q4.heap.size + 1, 1, none⟩ = some (.slice T1 (List.length t.2.1) Tb) ∧ U.cell? ⟨Q4.heap.size + 1, 2, none⟩ = some (.slice T2 (List.length t.2.2.1) Tc) ∧ U.cell? ⟨Q4.heap.size + 1, 3, none⟩ = some (.int .i64 t.2.2.2.1) ∧ U.cell? ⟨Q4.heap.size + 1, 4, none⟩ = some (.int .i64 ((wrap64 (t.2.2.2.2 + 1)).tmod 2147483647)) ∧ U.cell? ⟨Q4.heap.size + 1 + 1, 0, none⟩ = some (.slice T0 (List.length t.1) Ta) ∧ U.cell? ⟨Q4.heap.size + 1 + 1, 1, none⟩ = some (.slice (some ⟨g9, 0, none⟩) (List.length t.2.1) c9) ∧ U.cell? ⟨Q4.heap.size + 1 + 1, 2, none⟩ = some (.slice T2 (List.length t.2.2.1) Tc) ∧ U.cell? ⟨Q4.heap.size + 1 + 1, 3, none⟩ = some (.int .i64 t.2.2.2.1) ∧ U.cell? ⟨Q4.heap.size + 1 + 1, 4, none⟩ = some (.int .i64 t.2.2.2.2)) := fun U hU => ⟨(bT3.below hU bT3.lt).cell 0, (bT3.below hU bT3.lt).cell 1, (bT3.below hU bT3.lt).cell 2, (bT3.below hU bT3.lt).cell 3, (bT3.below hU bT3.lt).cell 4, (bU.below hU bU.lt).cell 0, (bU.below hU bU.lt).cell 1, (bU.below hU bU.lt).cell 2, (bU.below hU bU.lt).cell 3, (bU.below hU bU.lt).cell 4, (bV.below hU bV.lt).cell 0, (bV.below hU bV.lt).cell 1, (bV.below hU bV.lt).cell 2, (bV.below hU bV.lt).cell 3, (bV.below hU bV.lt).cell 4, (bW.below hU bW.lt).cell 0, (bW.below hU bW.lt).cell 1, (bW.below hU bW.lt).cell 2, (bW.below hU bW.lt).cell 3, (bW.below hU bW.lt).cell 4⟩
        have ru : tData.rd a2 [.slice T0 (List.length t.1) Ta, .slice T1 (List.length t.2.1) Tb, .slice T2 (List.length t.2.2.1) Tc, .int .i64 (wrap64 (t.2.2.2.1 + 1)), .int .i64 t.2.2.2.2] (withUntil t (wrap64 (t.2.2.2.1 + 1))) := ⟨[_], _, rfl, Ty.rd_below hQ3 rt0, [_], _, rfl, Ty.rd_below hQ3 rt1, [_], _, rfl, Ty.rd_below hQ3 rt2, [_], [_], rfl, ⟨rfl, wr64b _⟩, ⟨rfl, ti4⟩⟩
        have rv : tData.rd a2 [.slice T0 (List.length t.1) Ta, .slice T1 (List.length t.2.1) Tb, .slice T2 (List.length t.2.2.1) Tc, .int .i64 t.2.2.2.1, .int .i64 ((wrap64 (t.2.2.2.2 + 1)).tmod 2147483647)] (signed t ((wrap64 (t.2.2.2.2 + 1)).tmod 2147483647)) := ⟨[_], _, rfl, Ty.rd_below hQ3 rt0, [_], _, rfl, Ty.rd_below hQ3 rt1, [_], _, rfl, Ty.rd_below hQ3 rt2, [_], [_], rfl, ⟨rfl, ti3⟩, ⟨rfl, tm64 _⟩⟩
        have rw_ : tData.rd a2 [.slice T0 (List.length t.1) Ta, .slice (some ⟨g9, 0, none⟩) (List.length t.2.1) c9, .slice T2 (List.length t.2.2.1) Tc, .int .i64 t.2.2.2.1, .int .i64 t.2.2.2.2] (withText t r9) := ⟨[_], _, rfl, Ty.rd_below hQ3 rt0, [_], _, rfl, hS9, [_], _, rfl, Ty.rd_below hQ3 rt2, [_], [_], rfl, ⟨rfl, ti3⟩, ⟨rfl, ti4⟩⟩
        have rtV := Ty.rd_below hQ3 rt
        have sbw : Ty.bulk tData (withText t r9) ≤ 1048576 := by rw [bulk_text (by first | rfl | exact hl9)]; exact sbt
        have sbu : Ty.bulk tData (withUntil t (wrap64 (t.2.2.2.1 + 1))) ≤ 1048576 := sbt
        have sbv : Ty.bulk tData (signed t ((wrap64 (t.2.2.2.2 + 1)).tmod 2147483647)) ≤ 1048576 := sbt
        refine wp_region_noPanic ?_
        refine wp_region_held_drew (S := (fun U => U.cell? ⟨q4.heap.size, 0, none⟩ = some (.slice T0 (List.length t.1) Ta) ∧ U.cell? ⟨q4.heap.size, 1, none⟩ = some (.slice T1 (List.length t.2.1) Tb) ∧ U.cell? ⟨q4.heap.size, 2, none⟩ = some (.slice T2 (List.length t.2.2.1) Tc) ∧ U.cell? ⟨q4.heap.size, 3, none⟩ = some (.int .i64 t.2.2.2.1) ∧ U.cell? ⟨q4.heap.size, 4, none⟩ = some (.int .i64 t.2.2.2.2) ∧ U.cell? ⟨Q4.heap.size, 0, none⟩ = some (.slice T0 (List.length t.1) Ta) ∧ U.cell? ⟨Q4.heap.size, 1, none⟩ = some (.slice T1 (List.length t.2.1) Tb) ∧ U.cell? ⟨Q4.heap.size, 2, none⟩ = some (.slice T2 (List.length t.2.2.1) Tc) ∧ U.cell? ⟨Q4.heap.size, 3, none⟩ = some (.int .i64 (wrap64 (t.2.2.2.1 + 1))) ∧ U.cell? ⟨Q4.heap.size, 4, none⟩ = some (.int .i64 t.2.2.2.2) ∧ U.cell? ⟨Q4.heap.size + 1, 0, none⟩ = some (.slice T0 (List.length t.1) Ta) ∧ U.cell? ⟨Q4.heap.size + 1, 1, none⟩ = some (.slice T1 (List.length t.2.1) Tb) ∧ U.cell? ⟨Q4.heap.size + 1, 2, none⟩ = some (.slice T2 (List.length t.2.2.1) Tc) ∧ U.cell? ⟨Q4.heap.size + 1, 3, none⟩ = some (.int .i64 t.2.2.2.1) ∧ U.cell? ⟨Q4.heap.size + 1, 4, none⟩ = some (.int .i64 ((wrap64 (t.2.2.2.2 + 1)).tmod 2147483647)) ∧ U.cell? ⟨Q4.heap.size + 1 + 1, 0, none⟩ = some (.slice T0 (List.length t.1) Ta) ∧ U.cell? ⟨Q4.heap.size + 1 + 1, 1, none⟩ = some (.slice (some ⟨g9, 0, none⟩) (List.length t.2.1) c9) ∧ U.cell? ⟨Q4.heap.size + 1 + 1, 2, none⟩ = some (.slice T2 (List.length t.2.2.1) Tc) ∧ U.cell? ⟨Q4.heap.size + 1 + 1, 3, none⟩ = some (.int .i64 t.2.2.2.1) ∧ U.cell? ⟨Q4.heap.size + 1 + 1, 4, none⟩ = some (.int .i64 t.2.2.2.2))) b_23 ?_ (fun hHeld => ?_)
        ·exact HC3.out _ b_2
        refine tk 0 (opN rfl) b_23 b_31 b_15 b_26 ?_
        try simp only [layz]
        refine tk 1 (opN rfl) b_23 b_31 b_15 b_26 ?_
        try simp only [layz]
        refine wpAnyH_ready (rs := [2]) b_23 b_30 ?_
        refine (AllReadyH.cons (opN rfl) (fun K hK => ?_) AllReadyH.nil)
        go_simp
        go_at_call 57
        refine Calls.mono (C_impl_VerifyData _ g _ t (Ty.rd_below b_2 rtV) ig sbt) ?_
        rw [hvt.out]
        rintro e y2 ⟨rfl, hy2⟩
        refine hK.out _ _ (HC3.out _ b_2) (fun hHeld => ?_)
        clear hK K
        try simp only [layz]
        refine tk 3 (opN rfl) b_23 b_31 b_15 b_26 ?_
        try simp only [layz]
        refine tk 4 (opN rfl) b_23 b_31 b_15 b_26 ?_
        try simp only [layz]
        refine tk 5 (opN rfl) b_23 b_31 b_15 b_26 ?_
        try simp only [layz]
        refine wpAnyH_ready (rs := [6]) b_23 b_30 ?_
        refine (AllReadyH.cons (opN rfl) (fun K hK => ?_) AllReadyH.nil)
        go_simp
        go_at_call 57
        refine Calls.mono (C_impl_VerifyData _ g _ (withUntil t (wrap64 (t.2.2.2.1 + 1))) (Ty.rd_below b_2 ru) ig sbu) ?_
        rw [HVU.out]
        rintro e y6 ⟨rfl, hy6⟩
        refine hK.out _ _ (HC3.out _ b_2) (fun hHeld => ?_)
        clear hK K
        try simp only [layz]
        refine tk 7 (opN rfl) b_23 b_31 b_15 b_26 ?_
        try simp only [layz]
        refine tk 8 (opN rfl) b_23 b_31 b_15 b_26 ?_
        try simp only [layz]
        refine tk 9 (opN rfl) b_23 b_31 b_15 b_26 ?_
        try simp only [layz]
        refine tk 10 (opN rfl) b_23 b_31 b_15 b_26 ?_
        try simp only [layz]
        refine tk 11 (opN rfl) b_23 b_31 b_15 b_26 ?_
        try simp only [layz]
        refine wpAnyH_ready (rs := [12]) b_23 b_30 ?_
        refine (AllReadyH.cons (opN rfl) (fun K hK => ?_) AllReadyH.nil)
        go_simp
        go_at_call 57
        refine Calls.mono (C_impl_VerifyData _ g _ (signed t ((wrap64 (t.2.2.2.2 + 1)).tmod 2147483647)) (Ty.rd_below b_2 rv) ig sbv) ?_
        rw [HVV.out]
        rintro e y12 ⟨rfl, hy12⟩
        refine hK.out _ _ (HC3.out _ b_2) (fun hHeld => ?_)
        clear hK K
        try simp only [layz]
        refine tk 13 (opN rfl) b_23 b_31 b_15 b_26 ?_
        try simp only [layz]
        refine tk 14 (opN rfl) b_23 b_31 b_15 b_26 ?_
        try simp only [layz]
        refine tk 15 (opN rfl) b_23 b_31 b_15 b_26 ?_
        try simp only [layz]
        refine tk 16 (opN rfl) b_23 b_31 b_15 b_26 ?_
        try simp only [layz]
        refine tk 17 (opN rfl) b_23 b_31 b_15 b_26 ?_
        try simp only [layz]
        refine tk 19 (opN rfl) b_23 b_31 b_15 b_26 ?_
        try simp only [layz]
        refine tk 20 (opN rfl) b_23 b_31 b_15 b_26 ?_
        try simp only [layz]
        refine tk 21 (opN rfl) b_23 b_31 b_15 b_26 ?_
        try simp only [layz]
        refine tk 22 (opN rfl) b_23 b_31 b_15 b_26 ?_
        try simp only [layz]
        refine wpAnyH_ready (rs := [18]) b_23 b_30 ?_
        refine (AllReadyH.cons (opN rfl) (fun K hK => ?_) AllReadyH.nil)
        go_simp
        go_at_call 57
        refine Calls.mono (C_impl_VerifyData _ g _ (withText t r9) (Ty.rd_below b_2 rw_) ig sbw) ?_
        rw [hV9.out]
        rintro e y18 ⟨rfl, hy18⟩
        refine hK.out _ _ (HC3.out _ b_2) (fun hHeld => ?_)
        clear hK K
        try simp only [layz]
        refine tk 23 (opN rfl) b_23 b_31 b_15 b_26 ?_
        try simp only [layz]
        refine tk 24 (opN rfl) b_23 b_31 b_15 b_26 ?_
        try simp only [layz]
        refine tk 25 (opN rfl) b_23 b_31 b_15 b_26 ?_
        try simp only [layz]
        refine wpAnyH_done b_23 ?_ _
        refine NoPanic.normal ?_
        have hT : Below a2.heap.size a2 y18 := b_2
        go_wp2
        go_ret
        exact ⟨rfl, bel_trans hW (bel_trans hQ3 (hT.mono (by have := (hQ3).size; omega)))⟩
    ·as_aux_lemma =>
      have q0 : ¬ ((0 : Int) < (List.length t.2.1 : Int)) := by omega
      have q1 : ((List.length t.2.1 : Int) == 0) = true := by rw [beq_iff_eq]; omega
      go_wp2_with fail
      obtain ⟨a1, ha1⟩ : ∃ V, V = a0.setCell ⟨Q4.heap.size + 1 + 1, 1, none⟩ (.slice A9 (List.length t.2.1) c9) := ⟨_, rfl⟩
      rw [← ha1]
      have hQ1 : Below Q4.heap.size Q4 a1 := by rw [ha1]; exact bel_set hQ0 b_25 _
      have bT1 : Blk a1 q4.heap.size 46 #[.slice T0 (List.length t.1) Ta, .slice T1 (List.length t.2.1) Tb, .slice T2 (List.length t.2.2.1) Tc, .int .i64 t.2.2.2.1, .int .i64 t.2.2.2.2] := by rw [ha1]; exact bT0.far (p := ⟨Q4.heap.size + 1 + 1, 1, none⟩) b_25 _
      replace bU : Blk a1 Q4.heap.size 46 #[.slice T0 (List.length t.1) Ta, .slice T1 (List.length t.2.1) Tb, .slice T2 (List.length t.2.2.1) Tc, .int .i64 (wrap64 (t.2.2.2.1 + 1)), .int .i64 t.2.2.2.2] := by rw [ha1]; exact bU.far (p := ⟨Q4.heap.size + 1 + 1, 1, none⟩) b_25 _
      replace bV : Blk a1 (Q4.heap.size + 1) 46 #[.slice T0 (List.length t.1) Ta, .slice T1 (List.length t.2.1) Tb, .slice T2 (List.length t.2.2.1) Tc, .int .i64 t.2.2.2.1, .int .i64 ((wrap64 (t.2.2.2.2 + 1)).tmod 2147483647)] := by rw [ha1]; exact bV.far (p := ⟨Q4.heap.size + 1 + 1, 1, none⟩) b_25 _
      replace bW : Blk a1 (Q4.heap.size + 1 + 1) 46 #[.slice T0 (List.length t.1) Ta, .slice A9 (List.length t.2.1) c9, .slice T2 (List.length t.2.2.1) Tc, .int .i64 t.2.2.2.1, .int .i64 t.2.2.2.2] := by rw [ha1]; exact bW.set_ 1 _
      replace hG : GRow .byte (Q4.heap.size + 1 + 1 + 1) [] a1 5 (.slice A9 (List.length t.2.1) c9) t.2.1 := by rw [ha1]; exact hG.set (p := ⟨Q4.heap.size + 1 + 1, 1, none⟩) (.inl b_25) _
      clear kbT0 kbW0 kbT1 kbW1 kbT2 kbW2 kbT3 kbW3 kbT4 kbW4 zkT zkW fW
      clear ha1 bT0 hQ0
      have zq1 := hQ1.size
      have HC3 : Hid (∀ U, Below a1.heap.size a1 U → U.cell? ⟨q4.heap.size, 0, none⟩ = some (.slice T0 (List.length t.1) Ta) ∧ U.cell? ⟨q4.heap.size, 1, none⟩ = some (.slice T1 (List.length t.2.1) Tb) ∧ U.cell? ⟨q4.heap.size, 2, none⟩ = some (.slice T2 (List.length t.2.2.1) Tc) ∧ U.cell? ⟨q4.heap.size, 3, none⟩ = some (.int .i64 t.2.2.2.1) ∧ U.cell? ⟨q4.heap.size, 4, none⟩ = some (.int .i64 t.2.2.2.2) ∧ U.cell? ⟨Q4.heap.size, 0, none⟩ = some (.slice T0 (List.length t.1) Ta) ∧ U.cell? ⟨Q4.heap.size, 1, none⟩ = some (.slice T1 (List.length t.2.1) Tb) ∧ U.cell? ⟨Q4.heap.size, 2, none⟩ = some (.slice T2 (List.length t.2.2.1) Tc) ∧ U.cell? ⟨Q4.heap.size, 3, none⟩ = some (.int .i64 (wrap64 (t.2.2.2.1 + 1))) ∧ U.cell? ⟨Q4.heap.size, 4, none⟩ = some (.int .i64 t.2.2.2.2) ∧ U.cell? ⟨Q4.heap.size + 1, 0, none⟩ = some (.slice T0 (List.length t.1) Ta) ∧ U.cell? ⟨Q4.heap.size + 1, 1, none⟩ = some (.slice T1 (List.length t.2.1) Tb) ∧ U.cell? ⟨Q4.heap.size + 1, 2, none⟩ = some (.slice T2 (List.length t.2.2.1) Tc) ∧ U.cell? ⟨Q4.heap.size + 1, 3, none⟩ = some (.int .i64 t.2.2.2.1) ∧ U.cell? ⟨Q4.heap.size + 1, 4, none⟩ = some (.int .i64 ((wrap64 (t.2.2.2.2 + 1)).tmod 2147483647)) ∧ U.cell? ⟨Q4.heap.size + 1 + 1, 0, none⟩ = some (.slice T0 (List.length t.1) Ta) ∧ U.cell? ⟨Q4.heap.size + 1 + 1, 1, none⟩ = some (.slice A9 (List.length t.2.1) c9) ∧ U.cell? ⟨Q4.heap.size + 1 + 1, 2, none⟩ = some (.slice T2 (List.length t.2.2.1) Tc) ∧ U.cell? ⟨Q4.heap.size + 1 + 1, 3, none⟩ = some (.int .i64 t.2.2.2.1) ∧ U.cell? ⟨Q4.heap.size + 1 + 1, 4, none⟩ = some (.int .i64 t.2.2.2.2)) := fun U hU => ⟨(bT1.below hU bT1.lt).cell 0, (bT1.below hU bT1.lt).cell 1, (bT1.below hU bT1.lt).cell 2, (bT1.below hU bT1.lt).cell 3, (bT1.below hU bT1.lt).cell 4, (bU.below hU bU.lt).cell 0, (bU.below hU bU.lt).cell 1, (bU.below hU bU.lt).cell 2, (bU.below hU bU.lt).cell 3, (bU.below hU bU.lt).cell 4, (bV.below hU bV.lt).cell 0, (bV.below hU bV.lt).cell 1, (bV.below hU bV.lt).cell 2, (bV.below hU bV.lt).cell 3, (bV.below hU bV.lt).cell 4, (bW.below hU bW.lt).cell 0, (bW.below hU bW.lt).cell 1, (bW.below hU bW.lt).cell 2, (bW.below hU bW.lt).cell 3, (bW.below hU bW.lt).cell 4⟩
      have ru : tData.rd a1 [.slice T0 (List.length t.1) Ta, .slice T1 (List.length t.2.1) Tb, .slice T2 (List.length t.2.2.1) Tc, .int .i64 (wrap64 (t.2.2.2.1 + 1)), .int .i64 t.2.2.2.2] (withUntil t (wrap64 (t.2.2.2.1 + 1))) := ⟨[_], _, rfl, Ty.rd_below hQ1 rt0, [_], _, rfl, Ty.rd_below hQ1 rt1, [_], _, rfl, Ty.rd_below hQ1 rt2, [_], [_], rfl, ⟨rfl, wr64b _⟩, ⟨rfl, ti4⟩⟩
      have rv : tData.rd a1 [.slice T0 (List.length t.1) Ta, .slice T1 (List.length t.2.1) Tb, .slice T2 (List.length t.2.2.1) Tc, .int .i64 t.2.2.2.1, .int .i64 ((wrap64 (t.2.2.2.2 + 1)).tmod 2147483647)] (signed t ((wrap64 (t.2.2.2.2 + 1)).tmod 2147483647)) := ⟨[_], _, rfl, Ty.rd_below hQ1 rt0, [_], _, rfl, Ty.rd_below hQ1 rt1, [_], _, rfl, Ty.rd_below hQ1 rt2, [_], [_], rfl, ⟨rfl, ti3⟩, ⟨rfl, tm64 _⟩⟩
      have rw_ : tData.rd a1 [.slice T0 (List.length t.1) Ta, .slice A9 (List.length t.2.1) c9, .slice T2 (List.length t.2.2.1) Tc, .int .i64 t.2.2.2.1, .int .i64 t.2.2.2.2] (withText t t.2.1) := ⟨[_], _, rfl, Ty.rd_below hQ1 rt0, [_], _, rfl, hG.rd, [_], _, rfl, Ty.rd_below hQ1 rt2, [_], [_], rfl, ⟨rfl, ti3⟩, ⟨rfl, ti4⟩⟩
      have rtV := Ty.rd_below hQ1 rt
      have sbw : Ty.bulk tData (withText t t.2.1) ≤ 1048576 := by rw [bulk_text (by first | rfl | exact hl9)]; exact sbt
      have sbu : Ty.bulk tData (withUntil t (wrap64 (t.2.2.2.1 + 1))) ≤ 1048576 := sbt
      have sbv : Ty.bulk tData (signed t ((wrap64 (t.2.2.2.2 + 1)).tmod 2147483647)) ≤ 1048576 := sbt
      refine wp_region_noPanic ?_
      refine wp_region_held_drew (S := (fun U => U.cell? ⟨q4.heap.size, 0, none⟩ = some (.slice T0 (List.length t.1) Ta) ∧ U.cell? ⟨q4.heap.size, 1, none⟩ = some (.slice T1 (List.length t.2.1) Tb) ∧ U.cell? ⟨q4.heap.size, 2, none⟩ = some (.slice T2 (List.length t.2.2.1) Tc) ∧ U.cell? ⟨q4.heap.size, 3, none⟩ = some (.int .i64 t.2.2.2.1) ∧ U.cell? ⟨q4.heap.size, 4, none⟩ = some (.int .i64 t.2.2.2.2) ∧ U.cell? ⟨Q4.heap.size, 0, none⟩ = some (.slice T0 (List.length t.1) Ta) ∧ U.cell? ⟨Q4.heap.size, 1, none⟩ = some (.slice T1 (List.length t.2.1) Tb) ∧ U.cell? ⟨Q4.heap.size, 2, none⟩ = some (.slice T2 (List.length t.2.2.1) Tc) ∧ U.cell? ⟨Q4.heap.size, 3, none⟩ = some (.int .i64 (wrap64 (t.2.2.2.1 + 1))) ∧ U.cell? ⟨Q4.heap.size, 4, none⟩ = some (.int .i64 t.2.2.2.2) ∧ U.cell? ⟨Q4.heap.size + 1, 0, none⟩ = some (.slice T0 (List.length t.1) Ta) ∧ U.cell? ⟨Q4.heap.size + 1, 1, none⟩ = some (.slice T1 (List.length t.2.1) Tb) ∧ U.cell? ⟨Q4.heap.size + 1, 2, none⟩ = some (.slice T2 (List.length t.2.2.1) Tc) ∧ U.cell? ⟨Q4.heap.size + 1, 3, none⟩ = some (.int .i64 t.2.2.2.1) ∧ U.cell? ⟨Q4.heap.size + 1, 4, none⟩ = some (.int .i64 ((wrap64 (t.2.2.2.2 + 1)).tmod 2147483647)) ∧ U.cell? ⟨Q4.heap.size + 1 + 1, 0, none⟩ = some (.slice T0 (List.length t.1) Ta) ∧ U.cell? ⟨Q4.heap.size + 1 + 1, 1, none⟩ = some (.slice A9 (List.length t.2.1) c9) ∧ U.cell? ⟨Q4.heap.size + 1 + 1, 2, none⟩ = some (.slice T2 (List.length t.2.2.1) Tc) ∧ U.cell? ⟨Q4.heap.size + 1 + 1, 3, none⟩ = some (.int .i64 t.2.2.2.1) ∧ U.cell? ⟨Q4.heap.size + 1 + 1, 4, none⟩ = some (.int .i64 t.2.2.2.2))) b_23 ?_ (fun hHeld => ?_)
      ·exact HC3.out _ b_2
      refine tk 0 (opN rfl) b_23 b_31 b_15 b_26 ?_
      try simp only [layz]
      refine tk 1 (opN rfl) b_23 b_31 b_15 b_26 ?_
      try simp only [layz]
      refine wpAnyH_ready (rs := [2]) b_23 b_30 ?_
      refine (AllReadyH.cons (opN rfl) (fun K hK => ?_) AllReadyH.nil)
      go_simp
      go_at_call 57
      refine Calls.mono (C_impl_VerifyData _ g _ t (Ty.rd_below b_2 rtV) ig sbt) ?_
      rw [hvt.out]
      rintro e y2 ⟨rfl, hy2⟩
      refine hK.out _ _ (HC3.out _ b_2) (fun hHeld => ?_)
      clear hK K
      try simp only [layz]
      refine tk 3 (opN rfl) b_23 b_31 b_15 b_26 ?_
      try simp only [layz]
      refine tk 4 (opN rfl) b_23 b_31 b_15 b_26 ?_
      try simp only [layz]
      refine tk 5 (opN rfl) b_23 b_31 b_15 b_26 ?_
      try simp only [layz]
      refine wpAnyH_ready (rs := [6]) b_23 b_30 ?_
      refine (AllReadyH.cons (opN rfl) (fun K hK => ?_) AllReadyH.nil)
      go_simp
      go_at_call 57
      refine Calls.mono (C_impl_VerifyData _ g _ (withUntil t (wrap64 (t.2.2.2.1 + 1))) (Ty.rd_below b_2 ru) ig sbu) ?_
      rw [HVU.out]
      rintro e y6 ⟨rfl, hy6⟩
      refine hK.out _ _ (HC3.out _ b_2) (fun hHeld => ?_)
      clear hK K
      try simp only [layz]
      refine tk 7 (opN rfl) b_23 b_31 b_15 b_26 ?_
      try simp only [layz]
      refine tk 8 (opN rfl) b_23 b_31 b_15 b_26 ?_
      try simp only [layz]
      refine tk 9 (opN rfl) b_23 b_31 b_15 b_26 ?_
      try simp only [layz]
      refine tk 10 (opN rfl) b_23 b_31 b_15 b_26 ?_
      try simp only [layz]
      refine tk 11 (opN rfl) b_23 b_31 b_15 b_26 ?_
      try simp only [layz]
      refine wpAnyH_ready (rs := [12]) b_23 b_30 ?_
      refine (AllReadyH.cons (opN rfl) (fun K hK => ?_) AllReadyH.nil)
      go_simp
      go_at_call 57
      refine Calls.mono (C_impl_VerifyData _ g _ (signed t ((wrap64 (t.2.2.2.2 + 1)).tmod 2147483647)) (Ty.rd_below b_2 rv) ig sbv) ?_
      rw [HVV.out]
      rintro e y12 ⟨rfl, hy12⟩
      refine hK.out _ _ (HC3.out _ b_2) (fun hHeld => ?_)
      clear hK K
      try simp only [layz]
      refine tk 13 (opN rfl) b_23 b_31 b_15 b_26 ?_
      try simp only [layz]
      refine tk 14 (opN rfl) b_23 b_31 b_15 b_26 ?_
      try simp only [layz]
      refine tk 15 (opN rfl) b_23 b_31 b_15 b_26 ?_
      try simp only [layz]
      refine tk 16 (opN rfl) b_23 b_31 b_15 b_26 ?_
      try simp only [layz]
      refine tk 17 (opN rfl) b_23 b_31 b_15 b_26 ?_
      try simp only [layz]
      refine tk 19 (opN rfl) b_23 b_31 b_15 b_26 ?_
      try simp only [layz]
      refine tk 20 (opN rfl) b_23 b_31 b_15 b_26 ?_
      try simp only [layz]
      refine tk 21 (opN rfl) b_23 b_31 b_15 b_26 ?_
      try simp only [layz]
      refine tk 22 (opN rfl) b_23 b_31 b_15 b_26 ?_
      try simp only [layz]
      refine wpAnyH_ready (rs := [18]) b_23 b_30 ?_
      refine (AllReadyH.cons (opN rfl) (fun K hK => ?_) AllReadyH.nil)
      go_simp
      go_at_call 57
      refine Calls.mono (C_impl_VerifyData _ g _ (withText t t.2.1) (Ty.rd_below b_2 rw_) ig sbw) ?_
      rw [show f_VerifyData g (withText t t.2.1) = true from hvt.out]
      rintro e y18 ⟨rfl, hy18⟩
      refine hK.out _ _ (HC3.out _ b_2) (fun hHeld => ?_)
      clear hK K
      try simp only [layz]
      refine tk 23 (opN rfl) b_23 b_31 b_15 b_26 ?_
      try simp only [layz]
      refine tk 24 (opN rfl) b_23 b_31 b_15 b_26 ?_
      try simp only [layz]
      refine tk 25 (opN rfl) b_23 b_31 b_15 b_26 ?_
      try simp only [layz]
      refine wpAnyH_done b_23 ?_ _
      refine NoPanic.normal ?_
      have hT : Below a1.heap.size a1 y18 := b_2
      go_wp2
      go_ret
      exact ⟨rfl, bel_trans hW (bel_trans hQ1 (hT.mono (by have := (hQ1).size; omega)))⟩
end Go.Proofs.Ytldgbnlcnlfmeaa
