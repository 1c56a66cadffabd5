/- Proved here: the given statement FnCachesSaid: the data that were cached last are kept as long as there is capacity, and the store stays right; the law returns true for every code. No condition. -/
/- Texts of this claim, merged by a program: LFnCaches ClFnCaches. -/
import Derived.Test.YtldgbnlcnlfmeaaQcP
import Derived.Test.YtldgbnlcnlfmeaaQc15
import Derived.Test.YtldgbnlcnlfmeaaQc16
import Derived.Test.YtldgbnlcnlfmeaaQc17
import Derived.Test.YtldgbnlcnlfmeaaQc7
import Derived.Test.YtldgbnlcnlfmeaaQc4
import Derived.Test.YtldgbnlcnlfmeaaQc5
import Derived.Deep.RegionHeld3
import Derived.Deep.DeepCutAuto
import Derived.Test.YtldgbnlcnlfmeaaQc0
import Derived.ShutString
namespace Go.Proofs.Ytldgbnlcnlfmeaa
open Go.RowKit
set_option linter.unusedVariables false
set_option linter.unusedSimpArgs false
theorem eqData_self2 (x : Ty.D tData) : f_EqualData x x = true := by unfold f_EqualData; simp
theorem eqSt_self (x : Ty.D tContentStore) : f_EqualContentStores x x = true := by unfold f_EqualContentStores; simp
theorem caches_bulk {c : Ty.D tContentStore} {x : Ty.D tData} {now : Int} (h1 : Ty.bulk tContentStore c ≤ 5000) (h2 : Ty.bulk tData x ≤ 201) : Ty.bulk tContentStore (f_CacheData c x now) ≤ 1048576 := by
 obtain ⟨a, l⟩ := c
 have h := cache_bulk (c := a) (l := l) (x := x) (now := now)
 have h3 : Ty.bulk tContentStore (a, l) = 0 + Ty.bulk (.sl tCacheEntry) l := rfl
 show 0 + Ty.bulk (.sl tCacheEntry) (f_CacheData (a, l) x now).2 ≤ 1048576
 omega
theorem look_bulk {k : Ty.D tContentStore} {n : List (List UInt8)} {t : Int} (h : Ty.bulk tContentStore k ≤ 1048576) : Ty.bulk tData (f0_CacheLookup k n t) ≤ 1048576 := by
 unfold f0_CacheLookup
 cases hq : k.2.find? (lookP n t) with
 | none => exact Nat.zero_le _
 | some e =>
  obtain ⟨i, hi, he⟩ := List.getElem_of_mem (List.mem_of_find?_eq_some hq)
  subst he
  exact entry_bulk' (Ty.bulk_at (store_bulk' h) hi)
theorem touch_bulk {k : Ty.D tContentStore} {n : List (List UInt8)} {t : Int} (h : Ty.bulk tContentStore k ≤ 1048576) : Ty.bulk tContentStore (f_Touch k n t) ≤ 1048576 := by
 have h1 := touchE_bulk n t k.2
 have h2 := store_bulk' h
 show 0 + Ty.bulk (.sl tCacheEntry) (touchE n t k.2) ≤ 1048576
 omega
theorem evict_bulk {k : Ty.D tContentStore} {t : Int} (h : Ty.bulk tContentStore k ≤ 1048576) : Ty.bulk tContentStore (f_EvictStale k t) ≤ 1048576 := by
 have h1 := bulk_filter (e := tCacheEntry) (pFresh t) k.2
 have h2 := store_bulk' h
 show 0 + Ty.bulk (.sl tCacheEntry) (k.2.filter (pFresh t)) ≤ 1048576
 omega
theorem new_bulk (e : Int) : Ty.bulk tContentStore (f_NewContentStore e) ≤ 1048576 := by show 0 + 0 ≤ 1048576; omega
set_option maxRecDepth 100000 in
set_option maxHeartbeats 8000000 in
theorem L_FnCaches (w : World) (v0 : Value) (x0 : Ty.D (.sl .byte)) (h0 : Ty.rd w (.sl .byte) [v0] x0) :
  Calls Try.prog 5 #[v0] w (RetB w true) := by
 obtain ⟨A0, c0, rfl, hc0, hm0, hn0⟩ := Ty.rd_sl h0
 go_enter Try.func5, Try.ntmps5
 go_wp2_with fail
 refine (C_laws_bigG _ _ _ _).mono ?_
 rintro e w1 ⟨rfl, hw1⟩
 obtain rfl : w = w1 := hw1.symm
 by_cases hbig : (x0.length : Int) > 1048576
 ·go_wp2
  go_ret
  exact ⟨rfl, b_6⟩
 go_wp2_with fail
 refine Calls.mono (C_spec_DrawCacheData _ _ x0 (Ty.rd_below b_6 h0)) ?_
 rintro e w1 ⟨⟨C0, Ca, c, csx, x, now, rfl, rc, okc, rx, okx, inow⟩, hb⟩
 obtain ⟨X0, Xa, X1, Xb, X2, Xc, rfl, -⟩ := rd_Data rx
 have sbx5 := thing_bulk okx
 have sbx := Nat.le_trans (thing_bulk okx) (show 201 ≤ 1048576 by decide)
 have sbc5 := okSt.bulk okc
 have sbc := Nat.le_trans (okSt.bulk okc) (show 5000 ≤ 1048576 by decide)
 clear okx okc
 have r0 := Ty.rd_below hb h0
 have hW := bel_trans b_6 hb
 clear hb
 go_wp2_with fail
 obtain ⟨V1, hV1⟩ : ∃ V, V = ((w1.alloc (.cells #[.int .i64 c.1, .slice C0 (List.length c.2) Ca] 55)).alloc (.cells #[.slice X0 (List.length x.1) Xa, .slice X1 (List.length x.2.1) Xb, .slice X2 (List.length x.2.2.1) Xc, .int .i64 x.2.2.2.1, .int .i64 x.2.2.2.2] 46)) := ⟨_, rfl⟩
 have bV1 : Below w1.heap.size w1 V1 := by rw [hV1]; exact b_2
 have bC : Blk V1 (w1.heap.size) 55 #[.int .i64 c.1, .slice C0 (List.length c.2) Ca] := by rw [hV1]; have := Blk.new w1 55 #[.int .i64 c.1, .slice C0 (List.length c.2) Ca]; (try simp only [World.size_alloc] at this); exact (this).alloc _
 have zbC := bC.lt
 have bX : Blk V1 (w1.heap.size + 1) 46 #[.slice X0 (List.length x.1) Xa, .slice X1 (List.length x.2.1) Xb, .slice X2 (List.length x.2.2.1) Xc, .int .i64 x.2.2.2.1, .int .i64 x.2.2.2.2] := by rw [hV1]; have := Blk.new (w1.alloc (.cells #[.int .i64 c.1, .slice C0 (List.length c.2) Ca] 55)) 46 #[.slice X0 (List.length x.1) Xa, .slice X1 (List.length x.2.1) Xb, .slice X2 (List.length x.2.2.1) Xc, .int .i64 x.2.2.2.1, .int .i64 x.2.2.2.2]; (try simp only [World.size_alloc] at this); exact this
 have zbX := bX.lt
 rw [← hV1]
 clear hV1
 replace r0 := Ty.rd_below bV1 r0
 replace rx := Ty.rd_below bV1 rx
 replace rc := Ty.rd_below bV1 rc
 replace hW := bel_trans hW bV1
 clear bV1
 refine Calls.mono (C_impl_CacheData _ _ c _ x now rc rx sbc sbx inow) ?_
 obtain ⟨d, hd⟩ : ∃ y, y = f_CacheData c x now := ⟨_, rfl⟩
 have sbd : Ty.bulk tContentStore d ≤ 1048576 := by rw [hd]; exact caches_bulk sbc5 sbx5
 have HD := Lib.hid hd
 rw [← hd]
 clear hd
 rintro e w2 ⟨csd, fpd, rfl, howd, -, hb⟩
 obtain ⟨D0, Da, rfl⟩ := ow_ContentStore howd
 have rd_ := Ty.ow_rd howd
 clear howd
 replace r0 := Ty.rd_below hb r0
 replace rx := Ty.rd_below hb rx
 replace rc := Ty.rd_below hb rc
 replace bC := Blk.below bC hb (Blk.lt bC)
 replace bX := Blk.below bX hb (Blk.lt bX)
 replace hW := bel_trans hW hb
 clear hb
 go_wp2_with fail
 obtain ⟨V2, hV2⟩ : ∃ V, V = (w2.alloc (.cells #[.int .i64 d.1, .slice D0 (List.length d.2) Da] 55)) := ⟨_, rfl⟩
 have bV2 : Below w2.heap.size w2 V2 := by rw [hV2]; exact b_2
 have bD : Blk V2 (w2.heap.size) 55 #[.int .i64 d.1, .slice D0 (List.length d.2) Da] := by rw [hV2]; have := Blk.new w2 55 #[.int .i64 d.1, .slice D0 (List.length d.2) Da]; (try simp only [World.size_alloc] at this); exact this
 have zbD := bD.lt
 rw [← hV2]
 clear hV2
 replace r0 := Ty.rd_below bV2 r0
 replace rx := Ty.rd_below bV2 rx
 replace rc := Ty.rd_below bV2 rc
 replace bC := Blk.below bC bV2 (Blk.lt bC)
 replace bX := Blk.below bX bV2 (Blk.lt bX)
 replace rd_ := Ty.rd_below bV2 rd_
 replace hW := bel_trans hW bV2
 clear bV2
 refine Calls.mono (C_spec_DrawCacheLookup _ _ x0 r0) ?_
 rintro e w3 ⟨⟨K0, Ka, k, csn, n, t, rfl, rk, okk, rn, hnb, it⟩, hb⟩
 obtain ⟨N0, Na, rfl⟩ := Ty.rd_slv rn
 have sbk := Nat.le_trans (okSt.bulk okk) (show 5000 ≤ 1048576 by decide)
 have sbn : Ty.bulk (.sl .str) n ≤ 1048576 := Nat.le_trans hnb b_33
 clear okk hnb
 replace r0 := Ty.rd_below hb r0
 replace rx := Ty.rd_below hb rx
 replace rc := Ty.rd_below hb rc
 replace bC := Blk.below bC hb (Blk.lt bC)
 replace bX := Blk.below bX hb (Blk.lt bX)
 replace rd_ := Ty.rd_below hb rd_
 replace bD := Blk.below bD hb (Blk.lt bD)
 replace hW := bel_trans hW hb
 clear hb
 go_wp2_with fail
 obtain ⟨V3, hV3⟩ : ∃ V, V = ((w3.alloc (.cells #[.int .i64 k.1, .slice K0 (List.length k.2) Ka] 55)).alloc (.cells #[.slice N0 (List.length n) Na] 27)) := ⟨_, rfl⟩
 have bV3 : Below w3.heap.size w3 V3 := by rw [hV3]; exact b_2
 have bK : Blk V3 (w3.heap.size) 55 #[.int .i64 k.1, .slice K0 (List.length k.2) Ka] := by rw [hV3]; have := Blk.new w3 55 #[.int .i64 k.1, .slice K0 (List.length k.2) Ka]; (try simp only [World.size_alloc] at this); exact (this).alloc _
 have zbK := bK.lt
 have bN : Blk V3 (w3.heap.size + 1) 27 #[.slice N0 (List.length n) Na] := by rw [hV3]; have := Blk.new (w3.alloc (.cells #[.int .i64 k.1, .slice K0 (List.length k.2) Ka] 55)) 27 #[.slice N0 (List.length n) Na]; (try simp only [World.size_alloc] at this); exact this
 have zbN := bN.lt
 rw [← hV3]
 clear hV3
 replace r0 := Ty.rd_below bV3 r0
 replace rx := Ty.rd_below bV3 rx
 replace rc := Ty.rd_below bV3 rc
 replace bC := Blk.below bC bV3 (Blk.lt bC)
 replace bX := Blk.below bX bV3 (Blk.lt bX)
 replace rd_ := Ty.rd_below bV3 rd_
 replace bD := Blk.below bD bV3 (Blk.lt bD)
 replace rk := Ty.rd_below bV3 rk
 replace rn := Ty.rd_below bV3 rn
 replace hW := bel_trans hW bV3
 clear bV3
 refine Calls.mono (C_impl_CacheLookup _ _ k _ n t rk rn sbk sbn it) ?_
 obtain ⟨y, hy⟩ : ∃ y, y = f0_CacheLookup k n t := ⟨_, rfl⟩
 obtain ⟨ok, hok⟩ : ∃ o, o = f1_CacheLookup k n t := ⟨_, rfl⟩
 have HF := Lib.hid (show ok = true → f_FreshAt y t = true from fun h => by rw [hy]; exact look_fresh (hok.symm.trans h))
 have sby : Ty.bulk tData y ≤ 1048576 := by rw [hy]; exact look_bulk sbk
 have HY := Lib.hid hy
 have HK := Lib.hid hok
 rw [← hy, ← hok]
 clear hy hok
 rintro e w4 ⟨cs4, fp4, rfl, how4, -, hb⟩
 obtain ⟨Y0, Ya, Y1, Yb, Y2, Yc, rfl⟩ := ow_Data how4
 have ry := Ty.ow_rd how4
 clear how4
 replace r0 := Ty.rd_below hb r0
 replace rx := Ty.rd_below hb rx
 replace rc := Ty.rd_below hb rc
 replace bC := Blk.below bC hb (Blk.lt bC)
 replace bX := Blk.below bX hb (Blk.lt bX)
 replace rd_ := Ty.rd_below hb rd_
 replace bD := Blk.below bD hb (Blk.lt bD)
 replace rk := Ty.rd_below hb rk
 replace rn := Ty.rd_below hb rn
 replace bK := Blk.below bK hb (Blk.lt bK)
 replace bN := Blk.below bN hb (Blk.lt bN)
 replace hW := bel_trans hW hb
 clear hb
 have kbK0 : w4.cell? ⟨w3.heap.size, 0, none⟩ = some (.int .i64 k.1) := bK.cell 0
 have kbK1 : w4.cell? ⟨w3.heap.size, 1, none⟩ = some (.slice K0 (List.length k.2) Ka) := bK.cell 1
 have zkbK := bK.lt
 have kbN0 : w4.cell? ⟨w3.heap.size + 1, 0, none⟩ = some (.slice N0 (List.length n) Na) := bN.cell 0
 have zkbN := bN.lt
 go_wp2_with fail
 clear kbK0 kbK1 zkbK
 clear kbN0 zkbN
 obtain ⟨V4, hV4⟩ : ∃ V, V = (w4.alloc (.cells #[.slice Y0 (List.length y.1) Ya, .slice Y1 (List.length y.2.1) Yb, .slice Y2 (List.length y.2.2.1) Yc, .int .i64 y.2.2.2.1, .int .i64 y.2.2.2.2] 46)) := ⟨_, rfl⟩
 have bV4 : Below w4.heap.size w4 V4 := by rw [hV4]; exact b_2
 have bY : Blk V4 (w4.heap.size) 46 #[.slice Y0 (List.length y.1) Ya, .slice Y1 (List.length y.2.1) Yb, .slice Y2 (List.length y.2.2.1) Yc, .int .i64 y.2.2.2.1, .int .i64 y.2.2.2.2] := by rw [hV4]; have := Blk.new w4 46 #[.slice Y0 (List.length y.1) Ya, .slice Y1 (List.length y.2.1) Yb, .slice Y2 (List.length y.2.2.1) Yc, .int .i64 y.2.2.2.1, .int .i64 y.2.2.2.2]; (try simp only [World.size_alloc] at this); exact this
 have zbY := bY.lt
 rw [← hV4]
 clear hV4
 replace r0 := Ty.rd_below bV4 r0
 replace rx := Ty.rd_below bV4 rx
 replace rc := Ty.rd_below bV4 rc
 replace bC := Blk.below bC bV4 (Blk.lt bC)
 replace bX := Blk.below bX bV4 (Blk.lt bX)
 replace rd_ := Ty.rd_below bV4 rd_
 replace bD := Blk.below bD bV4 (Blk.lt bD)
 replace rk := Ty.rd_below bV4 rk
 replace rn := Ty.rd_below bV4 rn
 replace bK := Blk.below bK bV4 (Blk.lt bK)
 replace bN := Blk.below bN bV4 (Blk.lt bN)
 replace ry := Ty.rd_below bV4 ry
 replace hW := bel_trans hW bV4
 clear bV4
 refine Calls.mono (C_spec_CacheLookup _ _ k _ n t rk rn sbk sbn it) ?_
 rw [← HY.out, ← HK.out]
 rintro e w5 ⟨cs5, fp5, rfl, how5, -, hb⟩
 obtain ⟨Z0, Za, Z1, Zb, Z2, Zc, rfl⟩ := ow_Data how5
 have rz := Ty.ow_rd how5
 clear how5
 replace r0 := Ty.rd_below hb r0
 replace rx := Ty.rd_below hb rx
 replace rc := Ty.rd_below hb rc
 replace bC := Blk.below bC hb (Blk.lt bC)
 replace bX := Blk.below bX hb (Blk.lt bX)
 replace rd_ := Ty.rd_below hb rd_
 replace bD := Blk.below bD hb (Blk.lt bD)
 replace rk := Ty.rd_below hb rk
 replace rn := Ty.rd_below hb rn
 replace bK := Blk.below bK hb (Blk.lt bK)
 replace bN := Blk.below bN hb (Blk.lt bN)
 replace ry := Ty.rd_below hb ry
 replace bY := Blk.below bY hb (Blk.lt bY)
 replace hW := bel_trans hW hb
 clear hb
 go_wp2_with fail
 obtain ⟨V5, hV5⟩ : ∃ V, V = (w5.alloc (.cells #[.slice Z0 (List.length y.1) Za, .slice Z1 (List.length y.2.1) Zb, .slice Z2 (List.length y.2.2.1) Zc, .int .i64 y.2.2.2.1, .int .i64 y.2.2.2.2] 46)) := ⟨_, rfl⟩
 have bV5 : Below w5.heap.size w5 V5 := by rw [hV5]; exact b_2
 have bZ : Blk V5 (w5.heap.size) 46 #[.slice Z0 (List.length y.1) Za, .slice Z1 (List.length y.2.1) Zb, .slice Z2 (List.length y.2.2.1) Zc, .int .i64 y.2.2.2.1, .int .i64 y.2.2.2.2] := by rw [hV5]; have := Blk.new w5 46 #[.slice Z0 (List.length y.1) Za, .slice Z1 (List.length y.2.1) Zb, .slice Z2 (List.length y.2.2.1) Zc, .int .i64 y.2.2.2.1, .int .i64 y.2.2.2.2]; (try simp only [World.size_alloc] at this); exact this
 have zbZ := bZ.lt
 rw [← hV5]
 clear hV5
 replace r0 := Ty.rd_below bV5 r0
 replace rx := Ty.rd_below bV5 rx
 replace rc := Ty.rd_below bV5 rc
 replace bC := Blk.below bC bV5 (Blk.lt bC)
 replace bX := Blk.below bX bV5 (Blk.lt bX)
 replace rd_ := Ty.rd_below bV5 rd_
 replace bD := Blk.below bD bV5 (Blk.lt bD)
 replace rk := Ty.rd_below bV5 rk
 replace rn := Ty.rd_below bV5 rn
 replace bK := Blk.below bK bV5 (Blk.lt bK)
 replace bN := Blk.below bN bV5 (Blk.lt bN)
 replace ry := Ty.rd_below bV5 ry
 replace bY := Blk.below bY bV5 (Blk.lt bY)
 replace rz := Ty.rd_below bV5 rz
 replace hW := bel_trans hW bV5
 clear bV5
 refine Calls.mono (C_spec_DrawEvictStale _ _ x0 r0) ?_
 rintro e w6 ⟨⟨S0, Sa, s, wn, rfl, rs, oks, iwn⟩, hb⟩
 have sbs := Nat.le_trans (okSt.bulk oks) (show 5000 ≤ 1048576 by decide)
 clear oks
 replace r0 := Ty.rd_below hb r0
 replace rx := Ty.rd_below hb rx
 replace rc := Ty.rd_below hb rc
 replace bC := Blk.below bC hb (Blk.lt bC)
 replace bX := Blk.below bX hb (Blk.lt bX)
 replace rd_ := Ty.rd_below hb rd_
 replace bD := Blk.below bD hb (Blk.lt bD)
 replace rk := Ty.rd_below hb rk
 replace rn := Ty.rd_below hb rn
 replace bK := Blk.below bK hb (Blk.lt bK)
 replace bN := Blk.below bN hb (Blk.lt bN)
 replace ry := Ty.rd_below hb ry
 replace bY := Blk.below bY hb (Blk.lt bY)
 replace rz := Ty.rd_below hb rz
 replace bZ := Blk.below bZ hb (Blk.lt bZ)
 replace hW := bel_trans hW hb
 clear hb
 go_wp2_with fail
 obtain ⟨V6, hV6⟩ : ∃ V, V = (w6.alloc (.cells #[.int .i64 s.1, .slice S0 (List.length s.2) Sa] 55)) := ⟨_, rfl⟩
 have bV6 : Below w6.heap.size w6 V6 := by rw [hV6]; exact b_2
 have bS : Blk V6 (w6.heap.size) 55 #[.int .i64 s.1, .slice S0 (List.length s.2) Sa] := by rw [hV6]; have := Blk.new w6 55 #[.int .i64 s.1, .slice S0 (List.length s.2) Sa]; (try simp only [World.size_alloc] at this); exact this
 have zbS := bS.lt
 rw [← hV6]
 clear hV6
 replace r0 := Ty.rd_below bV6 r0
 replace rx := Ty.rd_below bV6 rx
 replace rc := Ty.rd_below bV6 rc
 replace bC := Blk.below bC bV6 (Blk.lt bC)
 replace bX := Blk.below bX bV6 (Blk.lt bX)
 replace rd_ := Ty.rd_below bV6 rd_
 replace bD := Blk.below bD bV6 (Blk.lt bD)
 replace rk := Ty.rd_below bV6 rk
 replace rn := Ty.rd_below bV6 rn
 replace bK := Blk.below bK bV6 (Blk.lt bK)
 replace bN := Blk.below bN bV6 (Blk.lt bN)
 replace ry := Ty.rd_below bV6 ry
 replace bY := Blk.below bY bV6 (Blk.lt bY)
 replace rz := Ty.rd_below bV6 rz
 replace bZ := Blk.below bZ bV6 (Blk.lt bZ)
 replace rs := Ty.rd_below bV6 rs
 replace hW := bel_trans hW bV6
 clear bV6
 refine Calls.mono (C_spec_DrawEqualContentStores _ _ x0 r0) ?_
 rintro e w7 ⟨⟨A0, Aa, a, B0, Ba, b, rfl, ra, oka, rb, okb⟩, hb⟩
 have sba := Nat.le_trans (okSt.bulk oka) (show 5000 ≤ 1048576 by decide)
 have sbb := Nat.le_trans (okSt.bulk okb) (show 5000 ≤ 1048576 by decide)
 clear oka okb
 replace r0 := Ty.rd_below hb r0
 replace rx := Ty.rd_below hb rx
 replace rc := Ty.rd_below hb rc
 replace bC := Blk.below bC hb (Blk.lt bC)
 replace bX := Blk.below bX hb (Blk.lt bX)
 replace rd_ := Ty.rd_below hb rd_
 replace bD := Blk.below bD hb (Blk.lt bD)
 replace rk := Ty.rd_below hb rk
 replace rn := Ty.rd_below hb rn
 replace bK := Blk.below bK hb (Blk.lt bK)
 replace bN := Blk.below bN hb (Blk.lt bN)
 replace ry := Ty.rd_below hb ry
 replace bY := Blk.below bY hb (Blk.lt bY)
 replace rz := Ty.rd_below hb rz
 replace bZ := Blk.below bZ hb (Blk.lt bZ)
 replace rs := Ty.rd_below hb rs
 replace bS := Blk.below bS hb (Blk.lt bS)
 replace hW := bel_trans hW hb
 clear hb
 go_wp2_with fail
 obtain ⟨V7, hV7⟩ : ∃ V, V = ((w7.alloc (.cells #[.int .i64 a.1, .slice A0 (List.length a.2) Aa] 55)).alloc (.cells #[.int .i64 b.1, .slice B0 (List.length b.2) Ba] 55)) := ⟨_, rfl⟩
 have bV7 : Below w7.heap.size w7 V7 := by rw [hV7]; exact b_2
 have bA : Blk V7 (w7.heap.size) 55 #[.int .i64 a.1, .slice A0 (List.length a.2) Aa] := by rw [hV7]; have := Blk.new w7 55 #[.int .i64 a.1, .slice A0 (List.length a.2) Aa]; (try simp only [World.size_alloc] at this); exact (this).alloc _
 have zbA := bA.lt
 have bB : Blk V7 (w7.heap.size + 1) 55 #[.int .i64 b.1, .slice B0 (List.length b.2) Ba] := by rw [hV7]; have := Blk.new (w7.alloc (.cells #[.int .i64 a.1, .slice A0 (List.length a.2) Aa] 55)) 55 #[.int .i64 b.1, .slice B0 (List.length b.2) Ba]; (try simp only [World.size_alloc] at this); exact this
 have zbB := bB.lt
 rw [← hV7]
 clear hV7
 replace r0 := Ty.rd_below bV7 r0
 replace rx := Ty.rd_below bV7 rx
 replace rc := Ty.rd_below bV7 rc
 replace bC := Blk.below bC bV7 (Blk.lt bC)
 replace bX := Blk.below bX bV7 (Blk.lt bX)
 replace rd_ := Ty.rd_below bV7 rd_
 replace bD := Blk.below bD bV7 (Blk.lt bD)
 replace rk := Ty.rd_below bV7 rk
 replace rn := Ty.rd_below bV7 rn
 replace bK := Blk.below bK bV7 (Blk.lt bK)
 replace bN := Blk.below bN bV7 (Blk.lt bN)
 replace ry := Ty.rd_below bV7 ry
 replace bY := Blk.below bY bV7 (Blk.lt bY)
 replace rz := Ty.rd_below bV7 rz
 replace bZ := Blk.below bZ bV7 (Blk.lt bZ)
 replace rs := Ty.rd_below bV7 rs
 replace bS := Blk.below bS bV7 (Blk.lt bS)
 replace ra := Ty.rd_below bV7 ra
 replace rb := Ty.rd_below bV7 rb
 replace hW := bel_trans hW bV7
 clear bV7
 refine Calls.mono (C_spec_DrawNewContentStore _ _ x0 r0) ?_
 rintro e w8 ⟨⟨e0, rfl, ie⟩, hb⟩
 replace r0 := Ty.rd_below hb r0
 replace rx := Ty.rd_below hb rx
 replace rc := Ty.rd_below hb rc
 replace bC := Blk.below bC hb (Blk.lt bC)
 replace bX := Blk.below bX hb (Blk.lt bX)
 replace rd_ := Ty.rd_below hb rd_
 replace bD := Blk.below bD hb (Blk.lt bD)
 replace rk := Ty.rd_below hb rk
 replace rn := Ty.rd_below hb rn
 replace bK := Blk.below bK hb (Blk.lt bK)
 replace bN := Blk.below bN hb (Blk.lt bN)
 replace ry := Ty.rd_below hb ry
 replace bY := Blk.below bY hb (Blk.lt bY)
 replace rz := Ty.rd_below hb rz
 replace bZ := Blk.below bZ hb (Blk.lt bZ)
 replace rs := Ty.rd_below hb rs
 replace bS := Blk.below bS hb (Blk.lt bS)
 replace ra := Ty.rd_below hb ra
 replace rb := Ty.rd_below hb rb
 replace bA := Blk.below bA hb (Blk.lt bA)
 replace bB := Blk.below bB hb (Blk.lt bB)
 replace hW := bel_trans hW hb
 clear hb
 go_upto_region 11 with fail
 obtain ⟨V9, hV9⟩ : ∃ V, V = w8 := ⟨_, rfl⟩
 subst hV9
 have HC : Hid (∀ V, Below V9.heap.size V9 V → V.cell? ⟨w1.heap.size, 0, none⟩ = some (.int .i64 c.1) ∧ V.cell? ⟨w1.heap.size, 1, none⟩ = some (.slice C0 (List.length c.2) Ca) ∧ V.cell? ⟨w1.heap.size + 1, 0, none⟩ = some (.slice X0 (List.length x.1) Xa) ∧ V.cell? ⟨w1.heap.size + 1, 1, none⟩ = some (.slice X1 (List.length x.2.1) Xb) ∧ V.cell? ⟨w1.heap.size + 1, 2, none⟩ = some (.slice X2 (List.length x.2.2.1) Xc) ∧ V.cell? ⟨w1.heap.size + 1, 3, none⟩ = some (.int .i64 x.2.2.2.1) ∧ V.cell? ⟨w1.heap.size + 1, 4, none⟩ = some (.int .i64 x.2.2.2.2) ∧ V.cell? ⟨w2.heap.size, 0, none⟩ = some (.int .i64 d.1) ∧ V.cell? ⟨w2.heap.size, 1, none⟩ = some (.slice D0 (List.length d.2) Da) ∧ V.cell? ⟨w3.heap.size, 0, none⟩ = some (.int .i64 k.1) ∧ V.cell? ⟨w3.heap.size, 1, none⟩ = some (.slice K0 (List.length k.2) Ka) ∧ V.cell? ⟨w3.heap.size + 1, 0, none⟩ = some (.slice N0 (List.length n) Na) ∧ V.cell? ⟨w4.heap.size, 0, none⟩ = some (.slice Y0 (List.length y.1) Ya) ∧ V.cell? ⟨w4.heap.size, 1, none⟩ = some (.slice Y1 (List.length y.2.1) Yb) ∧ V.cell? ⟨w4.heap.size, 2, none⟩ = some (.slice Y2 (List.length y.2.2.1) Yc) ∧ V.cell? ⟨w4.heap.size, 3, none⟩ = some (.int .i64 y.2.2.2.1) ∧ V.cell? ⟨w4.heap.size, 4, none⟩ = some (.int .i64 y.2.2.2.2) ∧ V.cell? ⟨w5.heap.size, 0, none⟩ = some (.slice Z0 (List.length y.1) Za) ∧ V.cell? ⟨w5.heap.size, 1, none⟩ = some (.slice Z1 (List.length y.2.1) Zb) ∧ V.cell? ⟨w5.heap.size, 2, none⟩ = some (.slice Z2 (List.length y.2.2.1) Zc) ∧ V.cell? ⟨w5.heap.size, 3, none⟩ = some (.int .i64 y.2.2.2.1) ∧ V.cell? ⟨w5.heap.size, 4, none⟩ = some (.int .i64 y.2.2.2.2) ∧ V.cell? ⟨w6.heap.size, 0, none⟩ = some (.int .i64 s.1) ∧ V.cell? ⟨w6.heap.size, 1, none⟩ = some (.slice S0 (List.length s.2) Sa) ∧ V.cell? ⟨w7.heap.size, 0, none⟩ = some (.int .i64 a.1) ∧ V.cell? ⟨w7.heap.size, 1, none⟩ = some (.slice A0 (List.length a.2) Aa) ∧ V.cell? ⟨w7.heap.size + 1, 0, none⟩ = some (.int .i64 b.1) ∧ V.cell? ⟨w7.heap.size + 1, 1, none⟩ = some (.slice B0 (List.length b.2) Ba)) := fun V hV => ⟨(bC.below hV bC.lt).cell 0, (bC.below hV bC.lt).cell 1, (bX.below hV bX.lt).cell 0, (bX.below hV bX.lt).cell 1, (bX.below hV bX.lt).cell 2, (bX.below hV bX.lt).cell 3, (bX.below hV bX.lt).cell 4, (bD.below hV bD.lt).cell 0, (bD.below hV bD.lt).cell 1, (bK.below hV bK.lt).cell 0, (bK.below hV bK.lt).cell 1, (bN.below hV bN.lt).cell 0, (bY.below hV bY.lt).cell 0, (bY.below hV bY.lt).cell 1, (bY.below hV bY.lt).cell 2, (bY.below hV bY.lt).cell 3, (bY.below hV bY.lt).cell 4, (bZ.below hV bZ.lt).cell 0, (bZ.below hV bZ.lt).cell 1, (bZ.below hV bZ.lt).cell 2, (bZ.below hV bZ.lt).cell 3, (bZ.below hV bZ.lt).cell 4, (bS.below hV bS.lt).cell 0, (bS.below hV bS.lt).cell 1, (bA.below hV bA.lt).cell 0, (bA.below hV bA.lt).cell 1, (bB.below hV bB.lt).cell 0, (bB.below hV bB.lt).cell 1⟩
 refine wp_region_noPanic ?_
 refine wp_region_held_drew (S := (fun V => V.cell? ⟨w1.heap.size, 0, none⟩ = some (.int .i64 c.1) ∧ V.cell? ⟨w1.heap.size, 1, none⟩ = some (.slice C0 (List.length c.2) Ca) ∧ V.cell? ⟨w1.heap.size + 1, 0, none⟩ = some (.slice X0 (List.length x.1) Xa) ∧ V.cell? ⟨w1.heap.size + 1, 1, none⟩ = some (.slice X1 (List.length x.2.1) Xb) ∧ V.cell? ⟨w1.heap.size + 1, 2, none⟩ = some (.slice X2 (List.length x.2.2.1) Xc) ∧ V.cell? ⟨w1.heap.size + 1, 3, none⟩ = some (.int .i64 x.2.2.2.1) ∧ V.cell? ⟨w1.heap.size + 1, 4, none⟩ = some (.int .i64 x.2.2.2.2) ∧ V.cell? ⟨w2.heap.size, 0, none⟩ = some (.int .i64 d.1) ∧ V.cell? ⟨w2.heap.size, 1, none⟩ = some (.slice D0 (List.length d.2) Da) ∧ V.cell? ⟨w3.heap.size, 0, none⟩ = some (.int .i64 k.1) ∧ V.cell? ⟨w3.heap.size, 1, none⟩ = some (.slice K0 (List.length k.2) Ka) ∧ V.cell? ⟨w3.heap.size + 1, 0, none⟩ = some (.slice N0 (List.length n) Na) ∧ V.cell? ⟨w4.heap.size, 0, none⟩ = some (.slice Y0 (List.length y.1) Ya) ∧ V.cell? ⟨w4.heap.size, 1, none⟩ = some (.slice Y1 (List.length y.2.1) Yb) ∧ V.cell? ⟨w4.heap.size, 2, none⟩ = some (.slice Y2 (List.length y.2.2.1) Yc) ∧ V.cell? ⟨w4.heap.size, 3, none⟩ = some (.int .i64 y.2.2.2.1) ∧ V.cell? ⟨w4.heap.size, 4, none⟩ = some (.int .i64 y.2.2.2.2) ∧ V.cell? ⟨w5.heap.size, 0, none⟩ = some (.slice Z0 (List.length y.1) Za) ∧ V.cell? ⟨w5.heap.size, 1, none⟩ = some (.slice Z1 (List.length y.2.1) Zb) ∧ V.cell? ⟨w5.heap.size, 2, none⟩ = some (.slice Z2 (List.length y.2.2.1) Zc) ∧ V.cell? ⟨w5.heap.size, 3, none⟩ = some (.int .i64 y.2.2.2.1) ∧ V.cell? ⟨w5.heap.size, 4, none⟩ = some (.int .i64 y.2.2.2.2) ∧ V.cell? ⟨w6.heap.size, 0, none⟩ = some (.int .i64 s.1) ∧ V.cell? ⟨w6.heap.size, 1, none⟩ = some (.slice S0 (List.length s.2) Sa) ∧ V.cell? ⟨w7.heap.size, 0, none⟩ = some (.int .i64 a.1) ∧ V.cell? ⟨w7.heap.size, 1, none⟩ = some (.slice A0 (List.length a.2) Aa) ∧ V.cell? ⟨w7.heap.size + 1, 0, none⟩ = some (.int .i64 b.1) ∧ V.cell? ⟨w7.heap.size + 1, 1, none⟩ = some (.slice B0 (List.length b.2) Ba))) b_28 ?_ (fun hHeld => ?_)
 ·exact HC.out _ b_2
 refine tk 0 (opN rfl) b_28 b_35 b_17 b_32 ?_
 try simp only [layz]
 refine tk 1 (opN rfl) b_28 b_35 b_17 b_32 ?_
 try simp only [layz]
 refine tk 2 (opN rfl) b_28 b_35 b_17 b_32 ?_
 try simp only [layz]
 refine tk 3 (opN rfl) b_28 b_35 b_17 b_32 ?_
 try simp only [layz]
 refine wpAnyH_ready (rs := [4]) b_28 (by simp) ?_
 refine (AllReadyH.cons (opN rfl) (fun K hK => ?_) AllReadyH.nil)
 go_simp
 go_at_call 28
 refine Calls.mono (C_spec_CacheData _ _ c _ x now (Ty.rd_below b_2 rc) (Ty.rd_below b_2 rx) sbc sbx inow) ?_
 rw [← HD.out]
 rintro e u4 ⟨cs4, g4, rfl, how4, -, hu4⟩
 have r4 := Ty.ow_rd how4
 obtain ⟨P0, Pa, rfl⟩ := ow_ContentStore how4
 clear how4
 refine hK.out _ _ (HC.out _ b_2) (fun hHeld => ?_)
 clear hK K
 try simp only [layz]
 refine wpAnyH_ready (rs := [5]) b_28 (by simp) ?_
 refine (AllReadyH.cons (opN rfl) (fun K hK => ?_) AllReadyH.nil)
 go_simp
 go_at_call 27
 refine Calls.mono (C_laws_sameCacheG _ _ d _ d (Ty.rd_below b_2 rd_) (Ty.rd_below b_2 r4) sbd sbd) ?_
 rw [eqSt_self]
 rintro e u5 ⟨rfl, hu5⟩
 refine hK.out _ _ (HC.out _ b_2) (fun hHeld => ?_)
 clear hK K
 try simp only [layz]
 refine tk 6 (opN rfl) b_28 b_35 b_17 b_32 ?_
 try simp only [layz]
 refine tk 7 (opN rfl) b_28 b_35 b_17 b_32 ?_
 try simp only [layz]
 refine tk 8 (opN rfl) b_28 b_35 b_17 b_32 ?_
 try simp only [layz]
 refine tk 9 (opN rfl) b_28 b_35 b_17 b_32 ?_
 try simp only [layz]
 refine wpAnyH_ready (rs := [10]) b_28 (by simp) ?_
 refine (AllReadyH.cons (opN rfl) (fun K hK => ?_) AllReadyH.nil)
 go_simp
 go_at_call 29
 refine Calls.mono (C_laws_sameThingG _ _ y _ y (Ty.rd_below b_2 ry) (Ty.rd_below b_2 rz) sby sby) ?_
 rw [eqData_self2]
 rintro e u10 ⟨rfl, hu10⟩
 refine hK.out _ _ (HC.out _ b_2) (fun hHeld => ?_)
 clear hK K
 try simp only [layz]
 refine tk 11 (opN rfl) b_28 b_35 b_17 b_32 ?_
 try simp only [layz]
 refine tk 12 (opN rfl) b_28 b_35 b_17 b_32 ?_
 try simp only [layz]
 refine tk 13 (opN rfl) b_28 b_35 b_17 b_32 ?_
 try simp only [layz]
 refine tk 14 (opN rfl) b_28 b_35 b_17 b_32 ?_
 try simp only [layz]
 refine tk 15 (opN rfl) b_28 b_35 b_17 b_32 ?_
 try simp only [layz]
 refine tk 16 (opN rfl) b_28 b_35 b_17 b_32 ?_
 try simp only [layz]
 refine tk 17 (opN rfl) b_28 b_35 b_17 b_32 ?_
 try simp only [layz]
 refine tk 18 (opN rfl) b_28 b_35 b_17 b_32 ?_
 try simp only [layz]
 refine tk 19 (opN rfl) b_28 b_35 b_17 b_32 ?_
 try simp only [layz]
 refine tk 20 (opN rfl) b_28 b_35 b_17 b_32 ?_
 try simp only [layz]
 refine tk 21 (opN rfl) b_28 b_35 b_17 b_32 ?_
 try simp only [layz]
 refine tk 23 (opN rfl) b_28 b_35 b_17 b_32 ?_
 try simp only [layz]
 refine tk 24 (opN rfl) b_28 b_35 b_17 b_32 ?_
 try simp only [layz]
 refine tk 25 (opN rfl) b_28 b_35 b_17 b_32 ?_
 try simp only [layz]
 refine wpAnyH_ready (rs := [22]) b_28 (by simp) ?_
 refine (AllReadyH.cons (opN rfl) (fun K hK => ?_) AllReadyH.nil)
 go_simp
 go_at_call 30
 refine Calls.mono (C_impl_Touch _ _ k _ n t (Ty.rd_below b_2 rk) (Ty.rd_below b_2 rn) sbk sbn it) ?_
 rintro e u22 ⟨cs22, g22, rfl, how22, -, hu22⟩
 have r22 := Ty.ow_rd how22
 obtain ⟨Q0, Qa, rfl⟩ := ow_ContentStore how22
 clear how22
 refine hK.out _ _ (HC.out _ b_2) (fun hHeld => ?_)
 clear hK K
 try simp only [layz]
 refine wpAnyH_ready (rs := [26]) b_28 (by simp) ?_
 refine (AllReadyH.cons (opN rfl) (fun K hK => ?_) AllReadyH.nil)
 go_simp
 go_at_call 31
 refine Calls.mono (C_spec_Touch _ _ k _ n t (Ty.rd_below b_2 rk) (Ty.rd_below b_2 rn) sbk sbn it) ?_
 rintro e u26 ⟨cs26, g26, rfl, how26, -, hu26⟩
 have r26 := Ty.ow_rd how26
 obtain ⟨R0, Ra, rfl⟩ := ow_ContentStore how26
 clear how26
 refine hK.out _ _ (HC.out _ b_2) (fun hHeld => ?_)
 clear hK K
 try simp only [layz]
 refine wpAnyH_ready (rs := [27]) b_28 (by simp) ?_
 refine (AllReadyH.cons (opN rfl) (fun K hK => ?_) AllReadyH.nil)
 go_simp
 go_at_call 27
 refine Calls.mono (C_laws_sameCacheG _ _ (f_Touch k n t) _ (f_Touch k n t) (Ty.rd_below b_2 r22) (Ty.rd_below b_2 r26) (touch_bulk sbk) (touch_bulk sbk)) ?_
 rw [eqSt_self]
 rintro e u27 ⟨rfl, hu27⟩
 refine hK.out _ _ (HC.out _ b_2) (fun hHeld => ?_)
 clear hK K
 try simp only [layz]
 refine tk 28 (opN rfl) b_28 b_35 b_17 b_32 ?_
 try simp only [layz]
 refine tk 29 (opN rfl) b_28 b_35 b_17 b_32 ?_
 try simp only [layz]
 refine tk 30 (opN rfl) b_28 b_35 b_17 b_32 ?_
 try simp only [layz]
 refine tk 31 (opN rfl) b_28 b_35 b_17 b_32 ?_
 try simp only [layz]
 refine tk 32 (opN rfl) b_28 b_35 b_17 b_32 ?_
 try simp only [layz]
 refine tk 34 (opN rfl) b_28 b_35 b_17 b_32 ?_
 try simp only [layz]
 refine tk 35 (opN rfl) b_28 b_35 b_17 b_32 ?_
 try simp only [layz]
 refine wpAnyH_ready (rs := [33]) b_28 (by simp) ?_
 refine (AllReadyH.cons (opN rfl) (fun K hK => ?_) AllReadyH.nil)
 go_simp
 go_at_call 32
 refine Calls.mono (C_impl_EvictStale _ _ s wn (Ty.rd_below b_2 rs) sbs iwn) ?_
 rintro e u33 ⟨cs33, g33, rfl, how33, -, hu33⟩
 have r33 := Ty.ow_rd how33
 obtain ⟨T0, Ta, rfl⟩ := ow_ContentStore how33
 clear how33
 refine hK.out _ _ (HC.out _ b_2) (fun hHeld => ?_)
 clear hK K
 try simp only [layz]
 refine wpAnyH_ready (rs := [36]) b_28 (by simp) ?_
 refine (AllReadyH.cons (opN rfl) (fun K hK => ?_) AllReadyH.nil)
 go_simp
 go_at_call 33
 refine Calls.mono (C_spec_EvictStale _ _ s wn (Ty.rd_below b_2 rs) sbs iwn) ?_
 rintro e u36 ⟨cs36, g36, rfl, how36, -, hu36⟩
 have r36 := Ty.ow_rd how36
 obtain ⟨U0, Ua, rfl⟩ := ow_ContentStore how36
 clear how36
 refine hK.out _ _ (HC.out _ b_2) (fun hHeld => ?_)
 clear hK K
 try simp only [layz]
 refine wpAnyH_ready (rs := [37]) b_28 (by simp) ?_
 refine (AllReadyH.cons (opN rfl) (fun K hK => ?_) AllReadyH.nil)
 go_simp
 go_at_call 27
 refine Calls.mono (C_laws_sameCacheG _ _ (f_EvictStale s wn) _ (f_EvictStale s wn) (Ty.rd_below b_2 r33) (Ty.rd_below b_2 r36) (evict_bulk sbs) (evict_bulk sbs)) ?_
 rw [eqSt_self]
 rintro e u37 ⟨rfl, hu37⟩
 refine hK.out _ _ (HC.out _ b_2) (fun hHeld => ?_)
 clear hK K
 try simp only [layz]
 refine tk 38 (opN rfl) b_28 b_35 b_17 b_32 ?_
 try simp only [layz]
 refine tk 39 (opN rfl) b_28 b_35 b_17 b_32 ?_
 try simp only [layz]
 refine tk 40 (opN rfl) b_28 b_35 b_17 b_32 ?_
 try simp only [layz]
 refine tk 41 (opN rfl) b_28 b_35 b_17 b_32 ?_
 try simp only [layz]
 refine tk 42 (opN rfl) b_28 b_35 b_17 b_32 ?_
 try simp only [layz]
 refine tk 44 (opN rfl) b_28 b_35 b_17 b_32 ?_
 try simp only [layz]
 refine tk 45 (opN rfl) b_28 b_35 b_17 b_32 ?_
 try simp only [layz]
 refine wpAnyH_ready (rs := [43]) b_28 (by simp) ?_
 refine (AllReadyH.cons (opN rfl) (fun K hK => ?_) AllReadyH.nil)
 go_simp
 go_at_call 34
 refine Calls.mono (C_impl_EqualContentStores _ _ a _ b (Ty.rd_below b_2 ra) (Ty.rd_below b_2 rb) sba sbb) ?_
 rintro e u43 ⟨rfl, hu43⟩
 refine hK.out _ _ (HC.out _ b_2) (fun hHeld => ?_)
 clear hK K
 try simp only [layz]
 refine wpAnyH_ready (rs := [46]) b_28 (by simp) ?_
 refine (AllReadyH.cons (opN rfl) (fun K hK => ?_) AllReadyH.nil)
 go_simp
 go_at_call 27
 refine Calls.mono (C_laws_sameCacheG _ _ a _ b (Ty.rd_below b_2 ra) (Ty.rd_below b_2 rb) sba sbb) ?_
 rintro e u46 ⟨rfl, hu46⟩
 refine hK.out _ _ (HC.out _ b_2) (fun hHeld => ?_)
 clear hK K
 try simp only [layz]
 refine tk 47 (opN rfl) b_28 b_35 b_17 b_32 ?_
 try simp only [layz]
 refine tk 48 (opN rfl) b_28 b_35 b_17 b_32 ?_
 try simp only [layz]
 refine tk 49 (opN rfl) b_28 b_35 b_17 b_32 ?_
 try simp only [layz]
 refine tk 50 (opN rfl) b_28 b_35 b_17 b_32 ?_
 try simp only [layz]
 refine tk 52 (opN rfl) b_28 b_35 b_17 b_32 ?_
 try simp only [layz]
 refine wpAnyH_ready (rs := [51]) b_28 (by simp) ?_
 refine (AllReadyH.cons (opN rfl) (fun K hK => ?_) AllReadyH.nil)
 go_simp
 go_at_call 35
 refine Calls.mono (C_impl_NewContentStore _ e0 ie) ?_
 rintro e u51 ⟨cs51, g51, rfl, how51, -, hu51⟩
 have r51 := Ty.ow_rd how51
 obtain ⟨G0, Ga, rfl⟩ := ow_ContentStore how51
 clear how51
 refine hK.out _ _ (HC.out _ b_2) (fun hHeld => ?_)
 clear hK K
 try simp only [layz]
 refine wpAnyH_ready (rs := [53]) b_28 (by simp) ?_
 refine (AllReadyH.cons (opN rfl) (fun K hK => ?_) AllReadyH.nil)
 go_simp
 go_at_call 36
 refine Calls.mono (C_spec_NewContentStore _ e0 ie) ?_
 rintro e u53 ⟨cs53, g53, rfl, how53, -, hu53⟩
 have r53 := Ty.ow_rd how53
 obtain ⟨H0, Ha, rfl⟩ := ow_ContentStore how53
 clear how53
 refine hK.out _ _ (HC.out _ b_2) (fun hHeld => ?_)
 clear hK K
 try simp only [layz]
 refine wpAnyH_ready (rs := [54]) b_28 (by simp) ?_
 refine (AllReadyH.cons (opN rfl) (fun K hK => ?_) AllReadyH.nil)
 go_simp
 go_at_call 27
 refine Calls.mono (C_laws_sameCacheG _ _ (f_NewContentStore e0) _ (f_NewContentStore e0) (Ty.rd_below b_2 r51) (Ty.rd_below b_2 r53) (new_bulk e0) (new_bulk e0)) ?_
 rw [eqSt_self]
 rintro e u54 ⟨rfl, hu54⟩
 refine hK.out _ _ (HC.out _ b_2) (fun hHeld => ?_)
 clear hK K
 try simp only [layz]
 refine tk 55 (opN rfl) b_28 b_35 b_17 b_32 ?_
 try simp only [layz]
 refine tk 56 (opN rfl) b_28 b_35 b_17 b_32 ?_
 try simp only [layz]
 refine tk 57 (opN rfl) b_28 b_35 b_17 b_32 ?_
 try simp only [layz]
 refine tk 58 (opN rfl) b_28 b_35 b_17 b_32 ?_
 try simp only [layz]
 refine tk 60 (opN rfl) b_28 b_35 b_17 b_32 ?_
 try simp only [layz]
 refine wpAnyH_ready (rs := [59]) b_28 (by simp) ?_
 refine (AllReadyH.cons (opN rfl) (fun K hK => ?_) AllReadyH.nil)
 go_simp
 go_at_call 38
 refine Calls.mono (C_impl_CachedNames _ _ c (Ty.rd_below b_2 rc) sbc) ?_
 rintro e u59 ⟨A59, c59, g59, rfl, how59, -, hu59⟩
 have r59 := Ty.ow_rd how59
 clear how59
 refine hK.out _ _ (HC.out _ b_2) (fun hHeld => ?_)
 clear hK K
 try simp only [layz]
 refine wpAnyH_ready (rs := [61]) b_28 (by simp) ?_
 refine (AllReadyH.cons (opN rfl) (fun K hK => ?_) AllReadyH.nil)
 go_simp
 go_at_call 39
 refine Calls.mono (C_spec_CachedNames _ _ c (Ty.rd_below b_2 rc) sbc) ?_
 rintro e u61 ⟨A61, c61, g61, rfl, how61, -, hu61⟩
 have r61 := Ty.ow_rd how61
 clear how61
 refine hK.out _ _ (HC.out _ b_2) (fun hHeld => ?_)
 clear hK K
 try simp only [layz]
 refine wpAnyH_ready (rs := [62]) b_28 (by simp) ?_
 refine (AllReadyH.cons (opN rfl) (fun K hK => ?_) AllReadyH.nil)
 go_simp
 go_at_call 37
 refine Calls.mono (C_laws_sameNames _ _ _ _ (Ty.rd_below b_2 r59) (Ty.rd_below b_2 r61)) ?_
 rintro e u62 ⟨rfl, hu62⟩
 refine hK.out _ _ (HC.out _ b_2) (fun hHeld => ?_)
 clear hK K
 try simp only [layz]
 refine tk 63 (opN rfl) b_28 b_35 b_17 b_32 ?_
 try simp only [layz]
 refine tk 64 (opN rfl) b_28 b_35 b_17 b_32 ?_
 try simp only [layz]
 refine tk 65 (opN rfl) b_28 b_35 b_17 b_32 ?_
 try simp only [layz]
 refine tk 66 (opN rfl) b_28 b_35 b_17 b_32 ?_
 try simp only [layz]
 refine tk 68 (opN rfl) b_28 b_35 b_17 b_32 ?_
 try simp only [layz]
 refine wpAnyH_ready (rs := [67]) b_28 (by simp) ?_
 refine (AllReadyH.cons (opN rfl) (fun K hK => ?_) AllReadyH.nil)
 go_simp
 go_at_call 40
 refine Calls.mono (C_impl_ValidContentStore _ _ c (Ty.rd_below b_2 rc) sbc) ?_
 rintro e u67 ⟨rfl, hu67⟩
 refine hK.out _ _ (HC.out _ b_2) (fun hHeld => ?_)
 clear hK K
 try simp only [layz]
 refine wpAnyH_ready (rs := [69]) b_28 (by simp) ?_
 refine (AllReadyH.cons (opN rfl) (fun K hK => ?_) AllReadyH.nil)
 go_simp
 go_at_call 41
 refine Calls.mono (C_spec_ValidContentStore _ _ c (Ty.rd_below b_2 rc) sbc) ?_
 rintro e u69 ⟨rfl, hu69⟩
 refine hK.out _ _ (HC.out _ b_2) (fun hHeld => ?_)
 clear hK K
 try simp only [layz]
 refine tk 70 (opN rfl) b_28 b_35 b_17 b_32 ?_
 try simp only [layz]
 refine tk 71 (opN rfl) b_28 b_35 b_17 b_32 ?_
 try simp only [layz]
 refine wpAnyH_done b_28 ?_ _
 refine NoPanic.normal ?_
 as_aux_lemma =>
  have hU : Below V9.heap.size V9 u69 := b_2
  replace hW := bel_trans hW hU
  replace rc := Ty.rd_below hU rc
  replace rx := Ty.rd_below hU rx
  replace rd_ := Ty.rd_below hU rd_
  replace ry := Ty.rd_below hU ry
  replace bC := Blk.below bC hU (Blk.lt bC)
  replace bX := Blk.below bX hU (Blk.lt bX)
  replace bD := Blk.below bD hU (Blk.lt bD)
  replace bY := Blk.below bY hU (Blk.lt bY)
  clear hU HC HY HK r0 rk rn rz rs ra rb bK bN bZ bS bA bB
  have kbC0 : u69.cell? ⟨w1.heap.size, 0, none⟩ = some (.int .i64 c.1) := bC.cell 0
  have kbC1 : u69.cell? ⟨w1.heap.size, 1, none⟩ = some (.slice C0 (List.length c.2) Ca) := bC.cell 1
  have zkbC := bC.lt
  go_wp2_with fail
  clear kbC0 kbC1 zkbC
  refine Calls.mono (C_impl_ValidContentStore _ _ c rc sbc) ?_
  obtain ⟨vc, hvc⟩ : ∃ v, v = f_ValidContentStore c := ⟨_, rfl⟩
  have HVC := Lib.hid hvc
  rw [← hvc]
  clear hvc
  rintro e q1 ⟨rfl, hb⟩
  replace rc := Ty.rd_below hb rc
  replace rx := Ty.rd_below hb rx
  replace rd_ := Ty.rd_below hb rd_
  replace ry := Ty.rd_below hb ry
  replace bC := Blk.below bC hb (Blk.lt bC)
  replace bX := Blk.below bX hb (Blk.lt bX)
  replace bD := Blk.below bD hb (Blk.lt bD)
  replace bY := Blk.below bY hb (Blk.lt bY)
  replace hW := bel_trans hW hb
  clear hb
  cases vc
  case' false =>
   go_wp2
   go_ret
   exact ⟨rfl, hW⟩
  case' true =>
   by_cases h0 : c.1 = 0
   ·as_aux_lemma =>
     have q0 : ((c.1 : Int) == 0) = true := by rw [beq_iff_eq]; exact h0
     have HZ := Lib.hid h0
     clear h0
     have kbC0 : q1.cell? ⟨w1.heap.size, 0, none⟩ = some (.int .i64 c.1) := bC.cell 0
     have kbC1 : q1.cell? ⟨w1.heap.size, 1, none⟩ = some (.slice C0 (List.length c.2) Ca) := bC.cell 1
     have zkbC := bC.lt
     have kbD0 : q1.cell? ⟨w2.heap.size, 0, none⟩ = some (.int .i64 d.1) := bD.cell 0
     have kbD1 : q1.cell? ⟨w2.heap.size, 1, none⟩ = some (.slice D0 (List.length d.2) Da) := bD.cell 1
     have zkbD := bD.lt
     go_wp2_with fail
     clear kbC0 kbC1 zkbC
     clear kbD0 kbD1 zkbD
     clear q0
     refine Calls.mono (C_laws_sameCacheG _ _ d _ c rd_ rc sbd sbc) ?_
     rw [HD.out, cache_not (.inl HZ.out), eqSt_self]
     rintro e q9 ⟨rfl, hb⟩
     replace rc := Ty.rd_below hb rc
     replace rx := Ty.rd_below hb rx
     replace rd_ := Ty.rd_below hb rd_
     replace ry := Ty.rd_below hb ry
     replace bC := Blk.below bC hb (Blk.lt bC)
     replace bX := Blk.below bX hb (Blk.lt bX)
     replace bD := Blk.below bD hb (Blk.lt bD)
     replace bY := Blk.below bY hb (Blk.lt bY)
     replace hW := bel_trans hW hb
     clear hb
     go_wp2
     go_ret
     exact ⟨rfl, hW⟩
   ·as_aux_lemma =>
     have q0 : ((c.1 : Int) == 0) = false := by rw [beq_eq_false_iff_ne]; exact h0
     have kbC0 : q1.cell? ⟨w1.heap.size, 0, none⟩ = some (.int .i64 c.1) := bC.cell 0
     have kbC1 : q1.cell? ⟨w1.heap.size, 1, none⟩ = some (.slice C0 (List.length c.2) Ca) := bC.cell 1
     have zkbC := bC.lt
     obtain ⟨kbX0, kbX1, kbX2, kbX3, kbX4, -, -, -, -, -, -⟩ := bk5 bX
     have zkbX := bX.lt
     go_wp2_with fail
     clear kbC0 kbC1 zkbC
     clear kbX0 kbX1 kbX2 kbX3 kbX4 zkbX
     refine Calls.mono (C_impl_ValidData _ _ x rx sbx) ?_
     obtain ⟨vx, hvx⟩ : ∃ v, v = f_ValidData x := ⟨_, rfl⟩
     have HVX := Lib.hid hvx
     rw [← hvx]
     clear hvx
     rintro e q2 ⟨rfl, hb⟩
     replace rc := Ty.rd_below hb rc
     replace rx := Ty.rd_below hb rx
     replace rd_ := Ty.rd_below hb rd_
     replace ry := Ty.rd_below hb ry
     replace bC := Blk.below bC hb (Blk.lt bC)
     replace bX := Blk.below bX hb (Blk.lt bX)
     replace bD := Blk.below bD hb (Blk.lt bD)
     replace bY := Blk.below bY hb (Blk.lt bY)
     replace hW := bel_trans hW hb
     clear hb
     cases vx
     case' false =>
      have kbC0 : q2.cell? ⟨w1.heap.size, 0, none⟩ = some (.int .i64 c.1) := bC.cell 0
      have kbC1 : q2.cell? ⟨w1.heap.size, 1, none⟩ = some (.slice C0 (List.length c.2) Ca) := bC.cell 1
      have zkbC := bC.lt
      have kbD0 : q2.cell? ⟨w2.heap.size, 0, none⟩ = some (.int .i64 d.1) := bD.cell 0
      have kbD1 : q2.cell? ⟨w2.heap.size, 1, none⟩ = some (.slice D0 (List.length d.2) Da) := bD.cell 1
      have zkbD := bD.lt
      go_wp2_with fail
      clear kbC0 kbC1 zkbC
      clear kbD0 kbD1 zkbD
      refine Calls.mono (C_laws_sameCacheG _ _ d _ c rd_ rc sbd sbc) ?_
      rw [HD.out, cache_not (.inr HVX.out.symm), eqSt_self]
      rintro e q9 ⟨rfl, hb⟩
      replace rc := Ty.rd_below hb rc
      replace rx := Ty.rd_below hb rx
      replace rd_ := Ty.rd_below hb rd_
      replace ry := Ty.rd_below hb ry
      replace bC := Blk.below bC hb (Blk.lt bC)
      replace bX := Blk.below bX hb (Blk.lt bX)
      replace bD := Blk.below bD hb (Blk.lt bD)
      replace bY := Blk.below bY hb (Blk.lt bY)
      replace hW := bel_trans hW hb
      clear hb
      go_wp2
      go_ret
      exact ⟨rfl, hW⟩
     case' true =>
      have HCV := Lib.hid (cache_valid (x := x) (now := now) HVC.out.symm)
      have HL0 := Lib.hid (cache_look0 (now := now) HVC.out.symm h0 HVX.out.symm)
      have HL1 := Lib.hid (cache_look1 (now := now) HVC.out.symm h0 HVX.out.symm)
      have HLN := Lib.hid (cache_len (x := x) (now := now) HVC.out.symm)
      rw [← HD.out] at HCV HL0 HL1 HLN
      clear HVC HVX HD
      obtain ⟨_, _, _, _, _, _, heq, xn0, -, -, xu, -⟩ := rd_Data rx
      simp only [List.cons.injEq, Value.slice.injEq, and_true, true_and] at heq
      obtain ⟨⟨rfl, rfl⟩, ⟨rfl, rfl⟩, ⟨rfl, rfl⟩⟩ := heq
      have sxn : Ty.bulk (.sl .str) x.1 ≤ 1048576 := Nat.le_trans (name_of_data_bulk x) sbx
      have kbD0 : q2.cell? ⟨w2.heap.size, 0, none⟩ = some (.int .i64 d.1) := bD.cell 0
      have kbD1 : q2.cell? ⟨w2.heap.size, 1, none⟩ = some (.slice D0 (List.length d.2) Da) := bD.cell 1
      have zkbD := bD.lt
      obtain ⟨kbX0, kbX1, kbX2, kbX3, kbX4, -, -, -, -, -, -⟩ := bk5 bX
      have zkbX := bX.lt
      go_wp2_with fail
      clear kbD0 kbD1 zkbD
      clear kbX0 kbX1 kbX2 kbX3 kbX4 zkbX
      refine Calls.mono (C_impl_CacheLookup _ _ d _ x.1 x.2.2.2.1 rd_ xn0 sbd sxn xu) ?_
      rw [HL0.out, HL1.out]
      rintro e q3 ⟨csw, fpw, rfl, howw, -, hb⟩
      obtain ⟨W0, Wa, W1, Wb, W2, Wc, rfl⟩ := ow_Data howw
      have rw_ := Ty.ow_rd howw
      clear howw
      replace rc := Ty.rd_below hb rc
      replace rx := Ty.rd_below hb rx
      replace rd_ := Ty.rd_below hb rd_
      replace ry := Ty.rd_below hb ry
      replace bC := Blk.below bC hb (Blk.lt bC)
      replace bX := Blk.below bX hb (Blk.lt bX)
      replace bD := Blk.below bD hb (Blk.lt bD)
      replace bY := Blk.below bY hb (Blk.lt bY)
      replace xn0 := Ty.rd_below hb xn0
      replace hW := bel_trans hW hb
      clear hb
      have kbD0 : q3.cell? ⟨w2.heap.size, 0, none⟩ = some (.int .i64 d.1) := bD.cell 0
      have kbD1 : q3.cell? ⟨w2.heap.size, 1, none⟩ = some (.slice D0 (List.length d.2) Da) := bD.cell 1
      have zkbD := bD.lt
      go_wp2_with fail
      clear kbD0 kbD1 zkbD
      obtain ⟨Q3, hQ3⟩ : ∃ V, V = (q3.alloc (.cells #[.slice W0 (List.length x.1) Wa, .slice W1 (List.length x.2.1) Wb, .slice W2 (List.length x.2.2.1) Wc, .int .i64 x.2.2.2.1, .int .i64 x.2.2.2.2] 46)) := ⟨_, rfl⟩
      have bQ3 : Below q3.heap.size q3 Q3 := by rw [hQ3]; exact b_2
      have bW : Blk Q3 (q3.heap.size) 46 #[.slice W0 (List.length x.1) Wa, .slice W1 (List.length x.2.1) Wb, .slice W2 (List.length x.2.2.1) Wc, .int .i64 x.2.2.2.1, .int .i64 x.2.2.2.2] := by rw [hQ3]; have := Blk.new q3 46 #[.slice W0 (List.length x.1) Wa, .slice W1 (List.length x.2.1) Wb, .slice W2 (List.length x.2.2.1) Wc, .int .i64 x.2.2.2.1, .int .i64 x.2.2.2.2]; (try simp only [World.size_alloc] at this); exact this
      have zbW := bW.lt
      rw [← hQ3]
      clear hQ3
      replace rc := Ty.rd_below bQ3 rc
      replace rx := Ty.rd_below bQ3 rx
      replace rd_ := Ty.rd_below bQ3 rd_
      replace ry := Ty.rd_below bQ3 ry
      replace bC := Blk.below bC bQ3 (Blk.lt bC)
      replace bX := Blk.below bX bQ3 (Blk.lt bX)
      replace bD := Blk.below bD bQ3 (Blk.lt bD)
      replace bY := Blk.below bY bQ3 (Blk.lt bY)
      replace xn0 := Ty.rd_below bQ3 xn0
      replace rw_ := Ty.rd_below bQ3 rw_
      replace hW := bel_trans hW bQ3
      clear bQ3
      refine Calls.mono (C_impl_ValidContentStore _ _ d rd_ sbd) ?_
      rw [HCV.out]
      rintro e q4 ⟨rfl, hb⟩
      replace rc := Ty.rd_below hb rc
      replace rx := Ty.rd_below hb rx
      replace rd_ := Ty.rd_below hb rd_
      replace ry := Ty.rd_below hb ry
      replace bC := Blk.below bC hb (Blk.lt bC)
      replace bX := Blk.below bX hb (Blk.lt bX)
      replace bD := Blk.below bD hb (Blk.lt bD)
      replace bY := Blk.below bY hb (Blk.lt bY)
      replace xn0 := Ty.rd_below hb xn0
      replace rw_ := Ty.rd_below hb rw_
      replace bW := Blk.below bW hb (Blk.lt bW)
      replace hW := bel_trans hW hb
      clear hb
      obtain ⟨kbW0, kbW1, kbW2, kbW3, kbW4, -, -, -, -, -, -⟩ := bk5 bW
      have zkbW := bW.lt
      obtain ⟨kbX0, kbX1, kbX2, kbX3, kbX4, -, -, -, -, -, -⟩ := bk5 bX
      have zkbX := bX.lt
      go_wp2_with fail
      clear kbW0 kbW1 kbW2 kbW3 kbW4 zkbW
      clear kbX0 kbX1 kbX2 kbX3 kbX4 zkbX
      refine Calls.mono (C_laws_sameThingG _ _ x _ x rw_ rx sbx sbx) ?_
      rw [eqData_self2]
      rintro e q5 ⟨rfl, hb⟩
      replace rc := Ty.rd_below hb rc
      replace rx := Ty.rd_below hb rx
      replace rd_ := Ty.rd_below hb rd_
      replace ry := Ty.rd_below hb ry
      replace bC := Blk.below bC hb (Blk.lt bC)
      replace bX := Blk.below bX hb (Blk.lt bX)
      replace bD := Blk.below bD hb (Blk.lt bD)
      replace bY := Blk.below bY hb (Blk.lt bY)
      replace xn0 := Ty.rd_below hb xn0
      replace rw_ := Ty.rd_below hb rw_
      replace bW := Blk.below bW hb (Blk.lt bW)
      replace hW := bel_trans hW hb
      clear hb
      have hle : ((List.length d.2 : Int) ≤ c.1) := HLN.out
      cases ok
      case' false =>
       have kbD0 : q5.cell? ⟨w2.heap.size, 0, none⟩ = some (.int .i64 d.1) := bD.cell 0
       have kbD1 : q5.cell? ⟨w2.heap.size, 1, none⟩ = some (.slice D0 (List.length d.2) Da) := bD.cell 1
       have zkbD := bD.lt
       have kbC0 : q5.cell? ⟨w1.heap.size, 0, none⟩ = some (.int .i64 c.1) := bC.cell 0
       have kbC1 : q5.cell? ⟨w1.heap.size, 1, none⟩ = some (.slice C0 (List.length c.2) Ca) := bC.cell 1
       have zkbC := bC.lt
       go_wp2_with fail
       clear kbD0 kbD1 zkbD
       clear kbC0 kbC1 zkbC
       refine Calls.mono (C_impl_EvictStale _ _ d wn rd_ sbd iwn) ?_
       rintro e q7 ⟨cs7, fp7, rfl, how7, -, hb⟩
       have r7 := Ty.ow_rd how7
       clear how7
       replace rc := Ty.rd_below hb rc
       replace rx := Ty.rd_below hb rx
       replace rd_ := Ty.rd_below hb rd_
       replace ry := Ty.rd_below hb ry
       replace bC := Blk.below bC hb (Blk.lt bC)
       replace bX := Blk.below bX hb (Blk.lt bX)
       replace bD := Blk.below bD hb (Blk.lt bD)
       replace bY := Blk.below bY hb (Blk.lt bY)
       replace xn0 := Ty.rd_below hb xn0
       replace rw_ := Ty.rd_below hb rw_
       replace bW := Blk.below bW hb (Blk.lt bW)
       replace hW := bel_trans hW hb
       clear hb
       go_wp2_with fail
       refine Calls.mono (C_impl_ValidContentStore _ _ _ r7 (evict_bulk sbd)) ?_
       rw [evict_valid HCV.out]
       rintro e q8 ⟨rfl, hb⟩
       replace rc := Ty.rd_below hb rc
       replace rx := Ty.rd_below hb rx
       replace rd_ := Ty.rd_below hb rd_
       replace ry := Ty.rd_below hb ry
       replace bC := Blk.below bC hb (Blk.lt bC)
       replace bX := Blk.below bX hb (Blk.lt bX)
       replace bD := Blk.below bD hb (Blk.lt bD)
       replace bY := Blk.below bY hb (Blk.lt bY)
       replace xn0 := Ty.rd_below hb xn0
       replace rw_ := Ty.rd_below hb rw_
       replace bW := Blk.below bW hb (Blk.lt bW)
       replace r7 := Ty.rd_below hb r7
       replace hW := bel_trans hW hb
       clear hb
       go_wp2
       go_ret
       exact ⟨rfl, hW⟩
      case' true =>
       have kbD0 : q5.cell? ⟨w2.heap.size, 0, none⟩ = some (.int .i64 d.1) := bD.cell 0
       have kbD1 : q5.cell? ⟨w2.heap.size, 1, none⟩ = some (.slice D0 (List.length d.2) Da) := bD.cell 1
       have zkbD := bD.lt
       have kbC0 : q5.cell? ⟨w1.heap.size, 0, none⟩ = some (.int .i64 c.1) := bC.cell 0
       have kbC1 : q5.cell? ⟨w1.heap.size, 1, none⟩ = some (.slice C0 (List.length c.2) Ca) := bC.cell 1
       have zkbC := bC.lt
       obtain ⟨kbY0, kbY1, kbY2, kbY3, kbY4, -, -, -, -, -, -⟩ := bk5 bY
       have zkbY := bY.lt
       go_wp2_with fail
       clear kbD0 kbD1 zkbD
       clear kbC0 kbC1 zkbC
       clear kbY0 kbY1 kbY2 kbY3 kbY4 zkbY
       refine Calls.mono (C_impl_FreshAt _ _ y t ry sby it) ?_
       rw [HF.out (by first | rfl | trivial)]
       rintro e q6 ⟨rfl, hb⟩
       replace rc := Ty.rd_below hb rc
       replace rx := Ty.rd_below hb rx
       replace rd_ := Ty.rd_below hb rd_
       replace ry := Ty.rd_below hb ry
       replace bC := Blk.below bC hb (Blk.lt bC)
       replace bX := Blk.below bX hb (Blk.lt bX)
       replace bD := Blk.below bD hb (Blk.lt bD)
       replace bY := Blk.below bY hb (Blk.lt bY)
       replace xn0 := Ty.rd_below hb xn0
       replace rw_ := Ty.rd_below hb rw_
       replace bW := Blk.below bW hb (Blk.lt bW)
       replace hW := bel_trans hW hb
       clear hb
       have kbD0 : q6.cell? ⟨w2.heap.size, 0, none⟩ = some (.int .i64 d.1) := bD.cell 0
       have kbD1 : q6.cell? ⟨w2.heap.size, 1, none⟩ = some (.slice D0 (List.length d.2) Da) := bD.cell 1
       have zkbD := bD.lt
       go_wp2_with fail
       clear kbD0 kbD1 zkbD
       refine Calls.mono (C_impl_EvictStale _ _ d wn rd_ sbd iwn) ?_
       rintro e q7 ⟨cs7, fp7, rfl, how7, -, hb⟩
       have r7 := Ty.ow_rd how7
       clear how7
       replace rc := Ty.rd_below hb rc
       replace rx := Ty.rd_below hb rx
       replace rd_ := Ty.rd_below hb rd_
       replace ry := Ty.rd_below hb ry
       replace bC := Blk.below bC hb (Blk.lt bC)
       replace bX := Blk.below bX hb (Blk.lt bX)
       replace bD := Blk.below bD hb (Blk.lt bD)
       replace bY := Blk.below bY hb (Blk.lt bY)
       replace xn0 := Ty.rd_below hb xn0
       replace rw_ := Ty.rd_below hb rw_
       replace bW := Blk.below bW hb (Blk.lt bW)
       replace hW := bel_trans hW hb
       clear hb
       go_wp2_with fail
       refine Calls.mono (C_impl_ValidContentStore _ _ _ r7 (evict_bulk sbd)) ?_
       rw [evict_valid HCV.out]
       rintro e q8 ⟨rfl, hb⟩
       replace rc := Ty.rd_below hb rc
       replace rx := Ty.rd_below hb rx
       replace rd_ := Ty.rd_below hb rd_
       replace ry := Ty.rd_below hb ry
       replace bC := Blk.below bC hb (Blk.lt bC)
       replace bX := Blk.below bX hb (Blk.lt bX)
       replace bD := Blk.below bD hb (Blk.lt bD)
       replace bY := Blk.below bY hb (Blk.lt bY)
       replace xn0 := Ty.rd_below hb xn0
       replace rw_ := Ty.rd_below hb rw_
       replace bW := Blk.below bW hb (Blk.lt bW)
       replace r7 := Ty.rd_below hb r7
       replace hW := bel_trans hW hb
       clear hb
       go_wp2
       go_ret
       exact ⟨rfl, hW⟩
end Go.Proofs.Ytldgbnlcnlfmeaa
/- Proved here: the given statement FnCachesSaid: the data that were cached last are kept as long as there is capacity, and the store stays right; the law returns true for every code. No condition. -/
namespace Go.Proofs.Ytldgbnlcnlfmeaa.clFnCaches
open Go.ChangeShapes Go.WideShapes Go.ChangeAt Go.RowKit
set_option linter.unusedVariables false
theorem own : ownKnob Try.prog.godebug = none := by kernel_rfl
theorem laidOut : laidOutB Try.prog = true := by kernel_rfl
section
variable {H : Type} {enc : TypeId × Value → H} {w : World} {base : Nat} {spare : Nat → Bool} {held : Bool}
theorem o_byte : Opens enc Try.prog w base spare held 5 .byte := opens_byte Try.underlying5
theorem o_ByteS : Opens enc Try.prog w base spare held 22 (.sl .byte) := opens_sl Try.underlying22 b_31 b_33 o_byte
end
set_option maxRecDepth 100000 in
theorem lifted (os : Os) (started : os.Started) (H : Type) (enc : TypeId × Value → H) :
  ReturnsInHanded {} Try.checked os 5 .any (Rows.fnCachesSpec.pre6 enc Try.prog Try.f5 Rows.fnCachesRow.domain false) (Rows.fnCachesSpec.post enc Try.prog Try.f5 false true false false) := by
 refine returnsInHanded_of_change (C := Try.checked) own started b_31 Try.func5
  (ChangeSpec.witness6 (enc := enc) (C := Try.checked) false ⟨#[], #[.slice none 0 0], []⟩ 8 b_31 b_31 b_31 b_31) ?_
 intro W base args ds gs before hval0 hW hcnd _
 have hval : ∀ (j : Nat) t v, Try.f5.params[j]? = some t → args[j]? = some v → Value.okWide Try.prog W .any base t v := hval0
 have hW' := hW
 obtain ⟨p, q, hA0, hV, rfl, hfz, hnd⟩ := hW
 have hA : DataW.TrodAll enc Try.prog W 0 (fun _ => true) true Try.f5.params.toList args.toList ds p := hA0
 rw [Try.params5] at hA hval
 obtain ⟨v0, vs0, d0, ds0, p0, q0, hargs, rfl, rfl, h0, r0⟩ := trodAll_cons hA
 obtain ⟨rfl, rfl, rfl⟩ := trodAll_nil r0
 obtain rfl : args = #[v0] := by cases args; simp_all
 obtain ⟨rfl, rfl⟩ := trodVars_none hV
 have k0 := h0
 have lt0 : ∀ x ∈ p0, x.block < W.heap.size := by obtain ⟨m, hm⟩ := k0; exact DataW.trod_lt m _ _ _ hm
 obtain ⟨A0, n0, c0, rfl⟩ := okWide_slice Try.underlying22 (hval 0 22 v0 rfl rfl)
 obtain ⟨f0, g0⟩ := h0
 obtain ⟨x0, xh0⟩ := o_ByteS _ _ _ g0
 clear hA0 hval0
 refine (L_FnCaches W _ x0 xh0).mono fun e W' ⟨he, bel⟩ => ?_
 subst he
 exact ⟨_, rfl, _, _, _, [], _, [], hW', trodAll_mk1 (shut_bool Try.underlying4 _), (trodAll_cons_mk (Below.trod laidOut b_31 (of_decide_eq_true b_31) k0 bel lt0) trodAll_mk0), rfl, bel.frame _, fun h => by cases h⟩
theorem proved : Rows.FnCachesSaid :=
 OpenClaim.holds_of_wide 5 Try.f5 rfl rfl rfl rfl rfl rfl rfl ⟨rfl, rfl, rfl, rfl, rfl⟩ rfl rfl rfl rfl rfl b_31 Try.func5 b_31
  (of_decide_eq_true b_31) (by unfold Func.isWrapper; first | (rw [if_pos (by decide +kernel)]; kernel_rfl) | (rw [if_neg (by decide +kernel)]; exact ⟨rfl, rfl⟩))
  (fun os started H enc _ => lifted os started H enc)
end Go.Proofs.Ytldgbnlcnlfmeaa.clFnCaches
