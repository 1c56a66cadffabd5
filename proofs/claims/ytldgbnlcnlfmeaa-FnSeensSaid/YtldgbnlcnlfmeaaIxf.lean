/- IndexFunc, ContainsFunc over slices of structs. Printed by gen13.py. -/
import Derived.Test.YtldgbnlcnlfmeaaVal
import Derived.Test.YtldgbnlcnlfmeaaDat
namespace Go.Proofs.Ytldgbnlcnlfmeaa
open Go.RowKit
set_option linter.unusedVariables false
set_option linter.unusedSimpArgs false

abbrev tBinding : Ty := .pr .str .str
theorem rd_Binding {w : World} {cs : List Value} {x : tBinding.D} (h : tBinding.rd w cs x) : cs = [vS x.1, vS x.2] ∧ x.1.length ≤ 9223372036854775807 ∧ x.2.length ≤ 9223372036854775807 := by
  obtain ⟨c1, c2, rfl, ⟨rfl, h1⟩, ⟨rfl, h2⟩⟩ := h
  exact ⟨rfl, h1, h2⟩
theorem rd_Binding_mk {w : World} {x : tBinding.D} (h1 : x.1.length ≤ 9223372036854775807) (h2 : x.2.length ≤ 9223372036854775807) : tBinding.rd w [vS x.1, vS x.2] x := ⟨[_], [_], rfl, ⟨rfl, h1⟩, ⟨rfl, h2⟩⟩
set_option maxHeartbeats 1000000 in
theorem C_IndexFunc_Name (w : World) (v : Value) (x : List (Ty.D (.sl .str))) (p : Ty.D (.sl .str) → Bool) (g : Nat) (lb : Array Value) (eg : ∀ args w, (callFunc g args).run Try.prog w = .ok (.enter g args) w)
    (h : (Ty.sl (.sl .str)).rd w [v] x) (hp : ∀ (W : World) (ds : List Value) (d : Ty.D (.sl .str)), d ∈ x → Ty.rd W (.sl .str) ds d → Below w.heap.size w W → Calls Try.prog g (#[.agg ds.toArray] ++ lb) W (RetB W (p d))) :
    Calls Try.prog 151 #[v, .func (.func g) #[] lb] w (RetI w (ixf p x)) := by
  obtain ⟨A, c, rfl, hc, hm, hn⟩ := Ty.rd_sl h
  have HP := Lib.hid hp
  clear hp
  go_enter Try.func151, Try.ntmps151
  go_wp2
  go_loopw [8] (fun i wr => ∃ k : Nat, k ≤ x.length ∧ i = .int .i64 k ∧ (x.take k).any p = false ∧ Below w.heap.size w wr) (fun i _ => x.length - (intOf i).toNat)
  case atStart => exact ⟨0, by omega, by first | rfl | simp, by first | rfl | simp, Below.refl _ _⟩
  case round =>
    obtain ⟨k, hk, rfl, ht, hb⟩ := hrel
    have HT := Lib.hid ht
    clear ht
    by_cases hlt : k < x.length
    · have HS := Lib.hid (any_take_succ p x hlt)
      obtain ⟨b, o, ds, rfl, hl, hcell, hrd⟩ := Ty.rd_at (Ty.rd_below hb h) hlt
      have hcall := HP.out wr ds x[k] (List.getElem_mem hlt) hrd hb
      obtain ⟨Aa0, ca0, rfl⟩ := Ty.rd_slv hrd
      have e0 : wr.cell? ⟨b, o + k, none⟩ = some (.slice Aa0 (List.length x[k]) ca0) := by simpa [Ty.sz] using hcell 0 (by decide)
      clear hcell hl
      cases hq : p x[k]
      · have HQ := Lib.hid hq
        rw [hq] at hcall
        go_wp2_with (go_at_fn g; refine hcall.mono ?_; rintro e w' ⟨rfl, hb'⟩)
        go_roundw
        case rel => exact ⟨k + 1, by omega, by go_num, by rw [HS.out, HT.out, HQ.out]; rfl, bel_trans hb hb'⟩
        case measure => simp [intOf]; omega
      · have HQ := Lib.hid hq
        rw [hq] at hcall
        go_wp2_with (go_at_fn g; refine hcall.mono ?_; rintro e w' ⟨rfl, hb'⟩)
        go_ret
        exact ⟨ret_int (ixf_hit p x hlt HT.out HQ.out).symm, bel_trans hb hb'⟩
    · have HE : Hid (x.any p = false) := by have := HT.out; rwa [List.take_of_length_le (by omega)] at this
      go_wp2
      go_ret
      exact ⟨ret_int (ixf_miss p x HE.out).symm, hb⟩
set_option maxHeartbeats 1000000 in
theorem C_ContainsFunc_Name (w : World) (v : Value) (x : List (Ty.D (.sl .str))) (p : Ty.D (.sl .str) → Bool) (g : Nat) (lb : Array Value) (eg : ∀ args w, (callFunc g args).run Try.prog w = .ok (.enter g args) w)
    (h : (Ty.sl (.sl .str)).rd w [v] x) (hp : ∀ (W : World) (ds : List Value) (d : Ty.D (.sl .str)), d ∈ x → Ty.rd W (.sl .str) ds d → Below w.heap.size w W → Calls Try.prog g (#[.agg ds.toArray] ++ lb) W (RetB W (p d))) :
    Calls Try.prog 83 #[v, .func (.func g) #[] lb] w (RetB w (x.any p)) := by
  have hcall := C_IndexFunc_Name w v x p g lb eg h hp
  go_enter Try.func83, Try.ntmps83
  go_wp2_with fail
  refine hcall.mono ?_
  rintro e w1 ⟨rfl, hb⟩
  go_wp2
  go_ret
  exact ⟨ret_bool (ixf_ge p x), hb⟩
set_option maxHeartbeats 1000000 in
theorem C_IndexFunc_Rule (w : World) (v : Value) (x : List (Ty.D tRule)) (p : Ty.D tRule → Bool) (g : Nat) (lb : Array Value) (eg : ∀ args w, (callFunc g args).run Try.prog w = .ok (.enter g args) w)
    (h : (Ty.sl tRule).rd w [v] x) (hp : ∀ (W : World) (ds : List Value) (d : Ty.D tRule), d ∈ x → Ty.rd W tRule ds d → Below w.heap.size w W → Calls Try.prog g (#[.agg ds.toArray] ++ lb) W (RetB W (p d))) :
    Calls Try.prog 184 #[v, .func (.func g) #[] lb] w (RetI w (ixf p x)) := by
  obtain ⟨A, c, rfl, hc, hm, hn⟩ := Ty.rd_sl h
  have HP := Lib.hid hp
  clear hp
  go_enter Try.func184, Try.ntmps184
  go_wp2
  go_loopw [8] (fun i wr => ∃ k : Nat, k ≤ x.length ∧ i = .int .i64 k ∧ (x.take k).any p = false ∧ Below w.heap.size w wr) (fun i _ => x.length - (intOf i).toNat)
  case atStart => exact ⟨0, by omega, by first | rfl | simp, by first | rfl | simp, Below.refl _ _⟩
  case round =>
    obtain ⟨k, hk, rfl, ht, hb⟩ := hrel
    have HT := Lib.hid ht
    clear ht
    by_cases hlt : k < x.length
    · have HS := Lib.hid (any_take_succ p x hlt)
      obtain ⟨b, o, ds, rfl, hl, hcell, hrd⟩ := Ty.rd_at (Ty.rd_below hb h) hlt
      have hcall := HP.out wr ds x[k] (List.getElem_mem hlt) hrd hb
      obtain ⟨Aa0, ca0, Aa1, ca1, rfl, sag0, sag1⟩ := rd_Rule hrd
      have e0 : wr.cell? ⟨b, o + k * 2, none⟩ = some (.slice Aa0 (List.length x[k].1) ca0) := by simpa [Ty.sz] using hcell 0 (by decide)
      have e1 : wr.cell? ⟨b, o + k * 2 + 1, none⟩ = some (.slice Aa1 (List.length x[k].2) ca1) := by simpa [Ty.sz] using hcell 1 (by decide)
      clear hcell hl
      cases hq : p x[k]
      · have HQ := Lib.hid hq
        rw [hq] at hcall
        go_wp2_with (go_at_fn g; refine hcall.mono ?_; rintro e w' ⟨rfl, hb'⟩)
        go_roundw
        case rel => exact ⟨k + 1, by omega, by go_num, by rw [HS.out, HT.out, HQ.out]; rfl, bel_trans hb hb'⟩
        case measure => simp [intOf]; omega
      · have HQ := Lib.hid hq
        rw [hq] at hcall
        go_wp2_with (go_at_fn g; refine hcall.mono ?_; rintro e w' ⟨rfl, hb'⟩)
        go_ret
        exact ⟨ret_int (ixf_hit p x hlt HT.out HQ.out).symm, bel_trans hb hb'⟩
    · have HE : Hid (x.any p = false) := by have := HT.out; rwa [List.take_of_length_le (by omega)] at this
      go_wp2
      go_ret
      exact ⟨ret_int (ixf_miss p x HE.out).symm, hb⟩
set_option maxHeartbeats 1000000 in
theorem C_IndexFunc_Data (w : World) (v : Value) (x : List (Ty.D tData)) (p : Ty.D tData → Bool) (g : Nat) (lb : Array Value) (eg : ∀ args w, (callFunc g args).run Try.prog w = .ok (.enter g args) w)
    (h : (Ty.sl tData).rd w [v] x) (hp : ∀ (W : World) (ds : List Value) (d : Ty.D tData), d ∈ x → Ty.rd W tData ds d → Below w.heap.size w W → Calls Try.prog g (#[.agg ds.toArray] ++ lb) W (RetB W (p d))) :
    Calls Try.prog 86 #[v, .func (.func g) #[] lb] w (RetI w (ixf p x)) := by
  obtain ⟨A, c, rfl, hc, hm, hn⟩ := Ty.rd_sl h
  have HP := Lib.hid hp
  clear hp
  go_enter Try.func86, Try.ntmps86
  go_wp2
  go_loopw [8] (fun i wr => ∃ k : Nat, k ≤ x.length ∧ i = .int .i64 k ∧ (x.take k).any p = false ∧ Below w.heap.size w wr) (fun i _ => x.length - (intOf i).toNat)
  case atStart => exact ⟨0, by omega, by first | rfl | simp, by first | rfl | simp, Below.refl _ _⟩
  case round =>
    obtain ⟨k, hk, rfl, ht, hb⟩ := hrel
    have HT := Lib.hid ht
    clear ht
    by_cases hlt : k < x.length
    · have HS := Lib.hid (any_take_succ p x hlt)
      obtain ⟨b, o, ds, rfl, hl, hcell, hrd⟩ := Ty.rd_at (Ty.rd_below hb h) hlt
      have hcall := HP.out wr ds x[k] (List.getElem_mem hlt) hrd hb
      obtain ⟨Aa0, ca0, Aa1, ca1, Aa2, ca2, rfl, sag0, sag1, sag2, sag3, sag4⟩ := rd_Data hrd
      have e0 : wr.cell? ⟨b, o + k * 5, none⟩ = some (.slice Aa0 (List.length x[k].1) ca0) := by simpa [Ty.sz] using hcell 0 (by decide)
      have e1 : wr.cell? ⟨b, o + k * 5 + 1, none⟩ = some (.slice Aa1 (List.length x[k].2.1) ca1) := by simpa [Ty.sz] using hcell 1 (by decide)
      have e2 : wr.cell? ⟨b, o + k * 5 + 2, none⟩ = some (.slice Aa2 (List.length x[k].2.2.1) ca2) := by simpa [Ty.sz] using hcell 2 (by decide)
      have e3 : wr.cell? ⟨b, o + k * 5 + 3, none⟩ = some (.int .i64 x[k].2.2.2.1) := by simpa [Ty.sz] using hcell 3 (by decide)
      have e4 : wr.cell? ⟨b, o + k * 5 + 4, none⟩ = some (.int .i64 x[k].2.2.2.2) := by simpa [Ty.sz] using hcell 4 (by decide)
      clear hcell hl
      cases hq : p x[k]
      · have HQ := Lib.hid hq
        rw [hq] at hcall
        go_wp2_with (go_at_fn g; refine hcall.mono ?_; rintro e w' ⟨rfl, hb'⟩)
        go_roundw
        case rel => exact ⟨k + 1, by omega, by go_num, by rw [HS.out, HT.out, HQ.out]; rfl, bel_trans hb hb'⟩
        case measure => simp [intOf]; omega
      · have HQ := Lib.hid hq
        rw [hq] at hcall
        go_wp2_with (go_at_fn g; refine hcall.mono ?_; rintro e w' ⟨rfl, hb'⟩)
        go_ret
        exact ⟨ret_int (ixf_hit p x hlt HT.out HQ.out).symm, bel_trans hb hb'⟩
    · have HE : Hid (x.any p = false) := by have := HT.out; rwa [List.take_of_length_le (by omega)] at this
      go_wp2
      go_ret
      exact ⟨ret_int (ixf_miss p x HE.out).symm, hb⟩
set_option maxHeartbeats 1000000 in
theorem C_IndexFunc_CacheEntry (w : World) (v : Value) (x : List (Ty.D tCacheEntry)) (p : Ty.D tCacheEntry → Bool) (g : Nat) (lb : Array Value) (eg : ∀ args w, (callFunc g args).run Try.prog w = .ok (.enter g args) w)
    (h : (Ty.sl tCacheEntry).rd w [v] x) (hp : ∀ (W : World) (ds : List Value) (d : Ty.D tCacheEntry), d ∈ x → Ty.rd W tCacheEntry ds d → Below w.heap.size w W → Calls Try.prog g (#[.agg ds.toArray] ++ lb) W (RetB W (p d))) :
    Calls Try.prog 159 #[v, .func (.func g) #[] lb] w (RetI w (ixf p x)) := by
  obtain ⟨A, c, rfl, hc, hm, hn⟩ := Ty.rd_sl h
  have HP := Lib.hid hp
  clear hp
  go_enter Try.func159, Try.ntmps159
  go_wp2
  go_loopw [8] (fun i wr => ∃ k : Nat, k ≤ x.length ∧ i = .int .i64 k ∧ (x.take k).any p = false ∧ Below w.heap.size w wr) (fun i _ => x.length - (intOf i).toNat)
  case atStart => exact ⟨0, by omega, by first | rfl | simp, by first | rfl | simp, Below.refl _ _⟩
  case round =>
    obtain ⟨k, hk, rfl, ht, hb⟩ := hrel
    have HT := Lib.hid ht
    clear ht
    by_cases hlt : k < x.length
    · have HS := Lib.hid (any_take_succ p x hlt)
      obtain ⟨b, o, ds, rfl, hl, hcell, hrd⟩ := Ty.rd_at (Ty.rd_below hb h) hlt
      have hcall := HP.out wr ds x[k] (List.getElem_mem hlt) hrd hb
      obtain ⟨Aa00, ca00, Aa01, ca01, Aa02, ca02, rfl, sag0, sag1⟩ := rd_CacheEntry hrd
      have e0 : wr.cell? ⟨b, o + k * 6, none⟩ = some (.slice Aa00 (List.length x[k].1.1) ca00) := by simpa [Ty.sz] using hcell 0 (by decide)
      have e1 : wr.cell? ⟨b, o + k * 6 + 1, none⟩ = some (.slice Aa01 (List.length x[k].1.2.1) ca01) := by simpa [Ty.sz] using hcell 1 (by decide)
      have e2 : wr.cell? ⟨b, o + k * 6 + 2, none⟩ = some (.slice Aa02 (List.length x[k].1.2.2.1) ca02) := by simpa [Ty.sz] using hcell 2 (by decide)
      have e3 : wr.cell? ⟨b, o + k * 6 + 3, none⟩ = some (.int .i64 x[k].1.2.2.2.1) := by simpa [Ty.sz] using hcell 3 (by decide)
      have e4 : wr.cell? ⟨b, o + k * 6 + 4, none⟩ = some (.int .i64 x[k].1.2.2.2.2) := by simpa [Ty.sz] using hcell 4 (by decide)
      have e5 : wr.cell? ⟨b, o + k * 6 + 5, none⟩ = some (.int .i64 x[k].2) := by simpa [Ty.sz] using hcell 5 (by decide)
      clear hcell hl
      cases hq : p x[k]
      · have HQ := Lib.hid hq
        rw [hq] at hcall
        go_wp2_with (go_at_fn g; refine hcall.mono ?_; rintro e w' ⟨rfl, hb'⟩)
        go_roundw
        case rel => exact ⟨k + 1, by omega, by go_num, by rw [HS.out, HT.out, HQ.out]; rfl, bel_trans hb hb'⟩
        case measure => simp [intOf]; omega
      · have HQ := Lib.hid hq
        rw [hq] at hcall
        go_wp2_with (go_at_fn g; refine hcall.mono ?_; rintro e w' ⟨rfl, hb'⟩)
        go_ret
        exact ⟨ret_int (ixf_hit p x hlt HT.out HQ.out).symm, bel_trans hb hb'⟩
    · have HE : Hid (x.any p = false) := by have := HT.out; rwa [List.take_of_length_le (by omega)] at this
      go_wp2
      go_ret
      exact ⟨ret_int (ixf_miss p x HE.out).symm, hb⟩
set_option maxHeartbeats 1000000 in
theorem C_ContainsFunc_CacheEntry (w : World) (v : Value) (x : List (Ty.D tCacheEntry)) (p : Ty.D tCacheEntry → Bool) (g : Nat) (lb : Array Value) (eg : ∀ args w, (callFunc g args).run Try.prog w = .ok (.enter g args) w)
    (h : (Ty.sl tCacheEntry).rd w [v] x) (hp : ∀ (W : World) (ds : List Value) (d : Ty.D tCacheEntry), d ∈ x → Ty.rd W tCacheEntry ds d → Below w.heap.size w W → Calls Try.prog g (#[.agg ds.toArray] ++ lb) W (RetB W (p d))) :
    Calls Try.prog 111 #[v, .func (.func g) #[] lb] w (RetB w (x.any p)) := by
  have hcall := C_IndexFunc_CacheEntry w v x p g lb eg h hp
  go_enter Try.func111, Try.ntmps111
  go_wp2_with fail
  refine hcall.mono ?_
  rintro e w1 ⟨rfl, hb⟩
  go_wp2
  go_ret
  exact ⟨ret_bool (ixf_ge p x), hb⟩
set_option maxHeartbeats 1000000 in
theorem C_IndexFunc_SeenNonce (w : World) (v : Value) (x : List (Ty.D tSeenNonce)) (p : Ty.D tSeenNonce → Bool) (g : Nat) (lb : Array Value) (eg : ∀ args w, (callFunc g args).run Try.prog w = .ok (.enter g args) w)
    (h : (Ty.sl tSeenNonce).rd w [v] x) (hp : ∀ (W : World) (ds : List Value) (d : Ty.D tSeenNonce), d ∈ x → Ty.rd W tSeenNonce ds d → Below w.heap.size w W → Calls Try.prog g (#[.agg ds.toArray] ++ lb) W (RetB W (p d))) :
    Calls Try.prog 145 #[v, .func (.func g) #[] lb] w (RetI w (ixf p x)) := by
  obtain ⟨A, c, rfl, hc, hm, hn⟩ := Ty.rd_sl h
  have HP := Lib.hid hp
  clear hp
  go_enter Try.func145, Try.ntmps145
  go_wp2
  go_loopw [8] (fun i wr => ∃ k : Nat, k ≤ x.length ∧ i = .int .i64 k ∧ (x.take k).any p = false ∧ Below w.heap.size w wr) (fun i _ => x.length - (intOf i).toNat)
  case atStart => exact ⟨0, by omega, by first | rfl | simp, by first | rfl | simp, Below.refl _ _⟩
  case round =>
    obtain ⟨k, hk, rfl, ht, hb⟩ := hrel
    have HT := Lib.hid ht
    clear ht
    by_cases hlt : k < x.length
    · have HS := Lib.hid (any_take_succ p x hlt)
      obtain ⟨b, o, ds, rfl, hl, hcell, hrd⟩ := Ty.rd_at (Ty.rd_below hb h) hlt
      have hcall := HP.out wr ds x[k] (List.getElem_mem hlt) hrd hb
      obtain ⟨Aa0, ca0, rfl, sag0, sag1⟩ := rd_SeenNonce hrd
      have e0 : wr.cell? ⟨b, o + k * 2, none⟩ = some (.slice Aa0 (List.length x[k].1) ca0) := by simpa [Ty.sz] using hcell 0 (by decide)
      have e1 : wr.cell? ⟨b, o + k * 2 + 1, none⟩ = some (.int .i64 x[k].2) := by simpa [Ty.sz] using hcell 1 (by decide)
      clear hcell hl
      cases hq : p x[k]
      · have HQ := Lib.hid hq
        rw [hq] at hcall
        go_wp2_with (go_at_fn g; refine hcall.mono ?_; rintro e w' ⟨rfl, hb'⟩)
        go_roundw
        case rel => exact ⟨k + 1, by omega, by go_num, by rw [HS.out, HT.out, HQ.out]; rfl, bel_trans hb hb'⟩
        case measure => simp [intOf]; omega
      · have HQ := Lib.hid hq
        rw [hq] at hcall
        go_wp2_with (go_at_fn g; refine hcall.mono ?_; rintro e w' ⟨rfl, hb'⟩)
        go_ret
        exact ⟨ret_int (ixf_hit p x hlt HT.out HQ.out).symm, bel_trans hb hb'⟩
    · have HE : Hid (x.any p = false) := by have := HT.out; rwa [List.take_of_length_le (by omega)] at this
      go_wp2
      go_ret
      exact ⟨ret_int (ixf_miss p x HE.out).symm, hb⟩
set_option maxHeartbeats 1000000 in
theorem C_ContainsFunc_SeenNonce (w : World) (v : Value) (x : List (Ty.D tSeenNonce)) (p : Ty.D tSeenNonce → Bool) (g : Nat) (lb : Array Value) (eg : ∀ args w, (callFunc g args).run Try.prog w = .ok (.enter g args) w)
    (h : (Ty.sl tSeenNonce).rd w [v] x) (hp : ∀ (W : World) (ds : List Value) (d : Ty.D tSeenNonce), d ∈ x → Ty.rd W tSeenNonce ds d → Below w.heap.size w W → Calls Try.prog g (#[.agg ds.toArray] ++ lb) W (RetB W (p d))) :
    Calls Try.prog 77 #[v, .func (.func g) #[] lb] w (RetB w (x.any p)) := by
  have hcall := C_IndexFunc_SeenNonce w v x p g lb eg h hp
  go_enter Try.func77, Try.ntmps77
  go_wp2_with fail
  refine hcall.mono ?_
  rintro e w1 ⟨rfl, hb⟩
  go_wp2
  go_ret
  exact ⟨ret_bool (ixf_ge p x), hb⟩
set_option maxHeartbeats 1000000 in
theorem C_IndexFunc_Requester (w : World) (v : Value) (x : List (Ty.D tRequester)) (p : Ty.D tRequester → Bool) (g : Nat) (lb : Array Value) (eg : ∀ args w, (callFunc g args).run Try.prog w = .ok (.enter g args) w)
    (h : (Ty.sl tRequester).rd w [v] x) (hp : ∀ (W : World) (ds : List Value) (d : Ty.D tRequester), d ∈ x → Ty.rd W tRequester ds d → Below w.heap.size w W → Calls Try.prog g (#[.agg ds.toArray] ++ lb) W (RetB W (p d))) :
    Calls Try.prog 144 #[v, .func (.func g) #[] lb] w (RetI w (ixf p x)) := by
  obtain ⟨A, c, rfl, hc, hm, hn⟩ := Ty.rd_sl h
  have HP := Lib.hid hp
  clear hp
  go_enter Try.func144, Try.ntmps144
  go_wp2
  go_loopw [8] (fun i wr => ∃ k : Nat, k ≤ x.length ∧ i = .int .i64 k ∧ (x.take k).any p = false ∧ Below w.heap.size w wr) (fun i _ => x.length - (intOf i).toNat)
  case atStart => exact ⟨0, by omega, by first | rfl | simp, by first | rfl | simp, Below.refl _ _⟩
  case round =>
    obtain ⟨k, hk, rfl, ht, hb⟩ := hrel
    have HT := Lib.hid ht
    clear ht
    by_cases hlt : k < x.length
    · have HS := Lib.hid (any_take_succ p x hlt)
      obtain ⟨b, o, ds, rfl, hl, hcell, hrd⟩ := Ty.rd_at (Ty.rd_below hb h) hlt
      have hcall := HP.out wr ds x[k] (List.getElem_mem hlt) hrd hb
      obtain ⟨rfl, sag0, sag1, sag2⟩ := rd_Requester hrd
      have e0 : wr.cell? ⟨b, o + k * 3, none⟩ = some (.int .i64 x[k].1) := by simpa [Ty.sz] using hcell 0 (by decide)
      have e1 : wr.cell? ⟨b, o + k * 3 + 1, none⟩ = some (.int .i64 x[k].2.1) := by simpa [Ty.sz] using hcell 1 (by decide)
      have e2 : wr.cell? ⟨b, o + k * 3 + 2, none⟩ = some (.int .i64 x[k].2.2) := by simpa [Ty.sz] using hcell 2 (by decide)
      clear hcell hl
      cases hq : p x[k]
      · have HQ := Lib.hid hq
        rw [hq] at hcall
        go_wp2_with (go_at_fn g; refine hcall.mono ?_; rintro e w' ⟨rfl, hb'⟩)
        go_roundw
        case rel => exact ⟨k + 1, by omega, by go_num, by rw [HS.out, HT.out, HQ.out]; rfl, bel_trans hb hb'⟩
        case measure => simp [intOf]; omega
      · have HQ := Lib.hid hq
        rw [hq] at hcall
        go_wp2_with (go_at_fn g; refine hcall.mono ?_; rintro e w' ⟨rfl, hb'⟩)
        go_ret
        exact ⟨ret_int (ixf_hit p x hlt HT.out HQ.out).symm, bel_trans hb hb'⟩
    · have HE : Hid (x.any p = false) := by have := HT.out; rwa [List.take_of_length_le (by omega)] at this
      go_wp2
      go_ret
      exact ⟨ret_int (ixf_miss p x HE.out).symm, hb⟩
set_option maxHeartbeats 1000000 in
theorem C_ContainsFunc_Requester (w : World) (v : Value) (x : List (Ty.D tRequester)) (p : Ty.D tRequester → Bool) (g : Nat) (lb : Array Value) (eg : ∀ args w, (callFunc g args).run Try.prog w = .ok (.enter g args) w)
    (h : (Ty.sl tRequester).rd w [v] x) (hp : ∀ (W : World) (ds : List Value) (d : Ty.D tRequester), d ∈ x → Ty.rd W tRequester ds d → Below w.heap.size w W → Calls Try.prog g (#[.agg ds.toArray] ++ lb) W (RetB W (p d))) :
    Calls Try.prog 75 #[v, .func (.func g) #[] lb] w (RetB w (x.any p)) := by
  have hcall := C_IndexFunc_Requester w v x p g lb eg h hp
  go_enter Try.func75, Try.ntmps75
  go_wp2_with fail
  refine hcall.mono ?_
  rintro e w1 ⟨rfl, hb⟩
  go_wp2
  go_ret
  exact ⟨ret_bool (ixf_ge p x), hb⟩
set_option maxHeartbeats 1000000 in
theorem C_IndexFunc_Binding (w : World) (v : Value) (x : List (Ty.D tBinding)) (p : Ty.D tBinding → Bool) (g : Nat) (lb : Array Value) (eg : ∀ args w, (callFunc g args).run Try.prog w = .ok (.enter g args) w)
    (h : (Ty.sl tBinding).rd w [v] x) (hp : ∀ (W : World) (ds : List Value) (d : Ty.D tBinding), d ∈ x → Ty.rd W tBinding ds d → Below w.heap.size w W → Calls Try.prog g (#[.agg ds.toArray] ++ lb) W (RetB W (p d))) :
    Calls Try.prog 191 #[v, .func (.func g) #[] lb] w (RetI w (ixf p x)) := by
  obtain ⟨A, c, rfl, hc, hm, hn⟩ := Ty.rd_sl h
  have HP := Lib.hid hp
  clear hp
  go_enter Try.func191, Try.ntmps191
  go_wp2
  go_loopw [8] (fun i wr => ∃ k : Nat, k ≤ x.length ∧ i = .int .i64 k ∧ (x.take k).any p = false ∧ Below w.heap.size w wr) (fun i _ => x.length - (intOf i).toNat)
  case atStart => exact ⟨0, by omega, by first | rfl | simp, by first | rfl | simp, Below.refl _ _⟩
  case round =>
    obtain ⟨k, hk, rfl, ht, hb⟩ := hrel
    have HT := Lib.hid ht
    clear ht
    by_cases hlt : k < x.length
    · have HS := Lib.hid (any_take_succ p x hlt)
      obtain ⟨b, o, ds, rfl, hl, hcell, hrd⟩ := Ty.rd_at (Ty.rd_below hb h) hlt
      have hcall := HP.out wr ds x[k] (List.getElem_mem hlt) hrd hb
      obtain ⟨rfl, sag0, sag1⟩ := rd_Binding hrd
      have e0 : wr.cell? ⟨b, o + k * 2, none⟩ = some (vS x[k].1) := by simpa [Ty.sz] using hcell 0 (by decide)
      have e1 : wr.cell? ⟨b, o + k * 2 + 1, none⟩ = some (vS x[k].2) := by simpa [Ty.sz] using hcell 1 (by decide)
      clear hcell hl
      cases hq : p x[k]
      · have HQ := Lib.hid hq
        rw [hq] at hcall
        go_wp2_with (go_at_fn g; refine hcall.mono ?_; rintro e w' ⟨rfl, hb'⟩)
        go_roundw
        case rel => exact ⟨k + 1, by omega, by go_num, by rw [HS.out, HT.out, HQ.out]; rfl, bel_trans hb hb'⟩
        case measure => simp [intOf]; omega
      · have HQ := Lib.hid hq
        rw [hq] at hcall
        go_wp2_with (go_at_fn g; refine hcall.mono ?_; rintro e w' ⟨rfl, hb'⟩)
        go_ret
        exact ⟨ret_int (ixf_hit p x hlt HT.out HQ.out).symm, bel_trans hb hb'⟩
    · have HE : Hid (x.any p = false) := by have := HT.out; rwa [List.take_of_length_le (by omega)] at this
      go_wp2
      go_ret
      exact ⟨ret_int (ixf_miss p x HE.out).symm, hb⟩
theorem hmf_ {P : Program} : ∀ (fn : Fn) (first cap : Array Value) (w : World), (Instr.makeFunc fn first cap).run P w = .ok (.func fn first cap) w := fun _ _ _ _ => rfl
end Go.Proofs.Ytldgbnlcnlfmeaa
