/- IndexFunc, ContainsFunc over slices of structs. Printed by gen13.py. -/
import Derived.Test.YtpjnidfdkggpfaaVal
import Derived.Test.YtpjnidfdkggpfaaDat
namespace Go.Proofs.Ytpjnidfdkggpfaa
open Go.RowKit
set_option linter.unusedVariables false
set_option linter.unusedSimpArgs false

abbrev tBinding : Ty := .pr .str .str
theorem rd_Binding {w : World} {cs : List Value} {x : tBinding.D} (h : tBinding.rd w cs x) : cs = [vS x.1, vS x.2] ∧ x.1.length ≤ 9223372036854775807 ∧ x.2.length ≤ 9223372036854775807 := by
  obtain ⟨c1, c2, rfl, ⟨rfl, h1⟩, ⟨rfl, h2⟩⟩ := h
  exact ⟨rfl, h1, h2⟩
theorem rd_Binding_mk {w : World} {x : tBinding.D} (h1 : x.1.length ≤ 9223372036854775807) (h2 : x.2.length ≤ 9223372036854775807) : tBinding.rd w [vS x.1, vS x.2] x := ⟨[_], [_], rfl, ⟨rfl, h1⟩, ⟨rfl, h2⟩⟩
set_option maxHeartbeats 1000000 in
theorem C_IndexFunc_Requester (w : World) (v : Value) (x : List (Ty.D tRequester)) (p : Ty.D tRequester → Bool) (g : Nat) (lb : Array Value) (eg : ∀ args w, (callFunc g args).run Try.prog w = .ok (.enter g args) w)
    (h : (Ty.sl tRequester).rd w [v] x) (hp : ∀ (W : World) (ds : List Value) (d : Ty.D tRequester), d ∈ x → Ty.rd W tRequester ds d → Below w.heap.size w W → Calls Try.prog g (#[.agg ds.toArray] ++ lb) W (RetB W (p d))) :
    Calls Try.prog 43 #[v, .func (.func g) #[] lb] w (RetI w (ixf p x)) := by
  obtain ⟨A, c, rfl, hc, hm, hn⟩ := Ty.rd_sl h
  have HP := Lib.hid hp
  clear hp
  go_enter Try.func43, Try.ntmps43
  go_wp2
  go_loopw [8] (fun i wr => ∃ k : Nat, k ≤ x.length ∧ i = .int .i64 k ∧ (x.take k).any p = false ∧ Below w.heap.size w wr) (fun i _ => x.length - (intOf i).toNat)
  case atStart => exact ⟨0, by omega, by first | rfl | simp, by first | rfl | simp, Below.refl _ _⟩
  case round =>
    obtain ⟨k, hk, rfl, ht, hb⟩ := hrel
    have HT := Lib.hid ht
    clear ht
    by_cases hlt : k < x.length
    · have HS := Lib.hid (any_take_succ p x hlt)
      obtain ⟨b, o, ds, rfl, hl, hcell, hrd⟩ := Ty.rd_at (Ty.rd_below hb h) hlt
      have hcall := HP.out wr ds x[k] (List.getElem_mem hlt) hrd hb
      obtain ⟨rfl, sag0, sag1, sag2⟩ := rd_Requester hrd
      have e0 : wr.cell? ⟨b, o + k * 3, none⟩ = some (.int .i64 x[k].1) := by simpa [Ty.sz] using hcell 0 (by decide)
      have e1 : wr.cell? ⟨b, o + k * 3 + 1, none⟩ = some (.int .i64 x[k].2.1) := by simpa [Ty.sz] using hcell 1 (by decide)
      have e2 : wr.cell? ⟨b, o + k * 3 + 2, none⟩ = some (.int .i64 x[k].2.2) := by simpa [Ty.sz] using hcell 2 (by decide)
      clear hcell hl
      cases hq : p x[k]
      · have HQ := Lib.hid hq
        rw [hq] at hcall
        go_wp2_with (go_at_fn g; refine hcall.mono ?_; rintro e w' ⟨rfl, hb'⟩)
        go_roundw
        case rel => exact ⟨k + 1, by omega, by go_num, by rw [HS.out, HT.out, HQ.out]; rfl, bel_trans hb hb'⟩
        case measure => simp [intOf]; omega
      · have HQ := Lib.hid hq
        rw [hq] at hcall
        go_wp2_with (go_at_fn g; refine hcall.mono ?_; rintro e w' ⟨rfl, hb'⟩)
        go_ret
        exact ⟨ret_int (ixf_hit p x hlt HT.out HQ.out).symm, bel_trans hb hb'⟩
    · have HE : Hid (x.any p = false) := by have := HT.out; rwa [List.take_of_length_le (by omega)] at this
      go_wp2
      go_ret
      exact ⟨ret_int (ixf_miss p x HE.out).symm, hb⟩
theorem hmf_ {P : Program} : ∀ (fn : Fn) (first cap : Array Value) (w : World), (Instr.makeFunc fn first cap).run P w = .ok (.func fn first cap) w := fun _ _ _ _ => rfl
end Go.Proofs.Ytpjnidfdkggpfaa
