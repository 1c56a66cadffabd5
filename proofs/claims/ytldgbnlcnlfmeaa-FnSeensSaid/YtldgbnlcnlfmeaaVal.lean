/- Parts, names, patterns, rules are right: the walks. -/
import Derived.Test.YtldgbnlcnlfmeaaNam
import Derived.Test.YtldgbnlcnlfmeaaPure
import Derived.Deep.RegionHeld3
import Derived.Shelf.Abstract
namespace Go.Proofs.Ytldgbnlcnlfmeaa
open Go.RowKit
set_option linter.unusedVariables false
set_option linter.unusedSimpArgs false

/-- A bool comes back and the world stays. -/
def RetBP (w : World) (b : Bool) (e : Ending) (w' : World) : Prop := e = .returned (.bool b) ∧ w' = w
def RetIP (w : World) (b : Int) (e : Ending) (w' : World) : Prop := e = .returned (.int .i64 b) ∧ w' = w
def inR (x a b : Int) : Bool := decide (a ≤ x) && decide (x ≤ b)
set_option maxHeartbeats 400000 in
theorem C_spec_l1In (w : World) (x a b : Int) : Calls Try.prog 110 #[.int .i64 x, .int .i64 a, .int .i64 b] w (RetBP w (inR x a b)) := by
  go_enter Try.func110, Try.ntmps110
  go_wp2
  all_goals go_ret
  all_goals exact ⟨ret_bool (by unfold inR; (rw [Bool.eq_iff_iff]; simp; try omega)), rfl⟩
set_option maxHeartbeats 400000 in
theorem C_impl_InRange (w : World) (x a b : Int) : Calls Try.prog 109 #[.int .i64 x, .int .i64 a, .int .i64 b] w (RetBP w (inR x a b)) := by
  go_enter Try.func109, Try.ntmps109
  go_wp2
  all_goals go_ret
  all_goals exact ⟨ret_bool (by unfold inR; (rw [Bool.eq_iff_iff]; simp; try omega)), rfl⟩
theorem okByte_iff (s : List UInt8) (k : Nat) (h : k < s.length) (c : Int) (hc : c = (s[k].toNat : Int)) : okByte s[k] = true ↔ (97 ≤ c ∧ c ≤ 122) ∨ (48 ≤ c ∧ c ≤ 57) ∨ c = 45 := by
  subst hc; unfold okByte; simp; omega
theorem okByte_no (s : List UInt8) (k : Nat) (h : k < s.length) (c : Int) (hc : c = (s[k].toNat : Int)) (hn : ¬ ((97 ≤ c ∧ c ≤ 122) ∨ (48 ≤ c ∧ c ≤ 57) ∨ c = 45)) : okByte s[k] = false := by
  cases hq : okByte s[k]
  · rfl
  · exact absurd ((okByte_iff s k h c hc).1 hq) hn
theorem bytes_at (s : List UInt8) (k : Nat) (h : k < s.length) (h2 : k < ({ data := s.toArray } : ByteArray).size) : ((({ data := s.toArray } : ByteArray)[k].toNat : Nat) : Int) = (s[k].toNat : Int) := rfl
set_option maxHeartbeats 1000000 in
theorem C_impl_ValidPart (w : World) (s : List UInt8) (hs : s.length ≤ 9223372036854775807) : Calls Try.prog 162 #[vS s] w (RetBP w (validPart s)) := by
  go_enter Try.func162, Try.ntmps162
  go_wp2
  go_loopw [7] (fun i wr => ∃ k : Nat, k ≤ s.length ∧ i = .int .i64 k ∧ (s.take k).all okByte = true ∧ wr = w) (fun i _ => s.length - (intOf i).toNat)
  case atStart => exact ⟨0, by omega, by first | rfl | simp, rfl, rfl⟩
  case round =>
    obtain ⟨k, hk, rfl, ht, rfl⟩ := hrel
    have HT := Lib.hid ht
    clear ht
    by_cases hlt : k < s.length
    · have hs1 := all_take_succ okByte s hlt
      have HS := Lib.hid hs1
      clear hs1
      go_wp2
      all_goals (try simp only [Bool.not_eq_false', decide_eq_true_eq, beq_iff_eq, Bool.not_eq_true', decide_eq_false_iff_not, beq_eq_false_iff_ne, ne_eq] at *)
      all_goals first
        | (go_ret
           exact ⟨ret_bool (by unfold validPart; rw [all_false_of okByte s hlt (okByte_no s k hlt _ (bytes_at s k hlt hlt) (by omega))]; rfl), rfl⟩)
        | exact ⟨⟨k + 1, by omega, by go_num, by rw [HS.out, HT.out, (okByte_iff s k hlt _ (bytes_at s k hlt hlt)).2 (by omega)]; rfl, by first | rfl | trivial⟩, by simp [intOf]; omega⟩
    · have HE : Hid (s.all okByte = true) := by have := HT.out; rwa [List.take_of_length_le (by omega)] at this
      go_wp2_with fail
      refine (C_impl_InRange _ _ _ _).mono ?_
      rintro e w1 ⟨rfl, rfl⟩
      go_wp2
      go_ret
      exact ⟨ret_bool (by unfold validPart inR; rw [HE.out]; (rw [Bool.eq_iff_iff]; simp; try omega)), rfl⟩
set_option maxHeartbeats 400000 in
theorem C_impl_ValidName1 (w : World) (s : List UInt8) (hs : s.length ≤ 9223372036854775807) : Calls Try.prog 161 #[vS s] w (RetBP w (!validPart s)) := by
  go_enter Try.func161, Try.ntmps161
  go_wp2_with fail
  refine (C_impl_ValidPart _ _ hs).mono ?_
  rintro e w1 ⟨rfl, rfl⟩
  go_wp2
  go_ret
  exact ⟨rfl, rfl⟩
set_option maxHeartbeats 1000000 in
theorem C_spec_ValidPart (w : World) (s : List UInt8) (hs : s.length ≤ 9223372036854775807) : Calls Try.prog 167 #[vS s] w (RetBP w (validPart s)) := by
  go_enter Try.func167, Try.ntmps167
  go_wp2_with fail
  refine (C_spec_l1In _ _ _ _).mono ?_
  rintro e w1 ⟨rfl, rfl⟩
  cases hq : inR s.length 1 8
  · go_wp2
    go_ret
    exact ⟨ret_bool (by unfold validPart; unfold inR at hq; rw [show (decide (1 ≤ s.length) && decide (s.length ≤ 8)) = false from by (rw [Bool.eq_iff_iff] at hq ⊢; simp at hq ⊢; omega)]; simp), rfl⟩
  have HL := Lib.hid hq
  go_wp2
  go_loopw [3] (fun i wr => ∃ k : Nat, k ≤ s.length ∧ i = .int .i64 k ∧ (s.take k).all okByte = true ∧ wr = w1) (fun i _ => s.length - (intOf i).toNat)
  case atStart => exact ⟨0, by omega, by first | rfl | simp, rfl, rfl⟩
  case round =>
    obtain ⟨k, hk, rfl, ht, rfl⟩ := hrel
    have HT := Lib.hid ht
    clear ht
    by_cases hlt : k < s.length
    · have hs1 := all_take_succ okByte s hlt
      have HS := Lib.hid hs1
      clear hs1
      have HR : Hid (∀ c : Int, c = (s[k].toNat : Int) → okByte s[k] = (inR c 97 122 || inR c 48 57 || decide (c = 45))) := fun c hc => by
        subst hc; unfold okByte inR; (rw [Bool.eq_iff_iff]; simp; omega)
      go_wp2_with fail
      have hr := HR.out _ (bytes_at s k hlt hlt)
      have hcb : 0 ≤ (s[k].toNat : Int) ∧ (s[k].toNat : Int) ≤ 255 := by have := UInt8.toNat_lt s[k]; omega
      rw [← bytes_at s k hlt hlt] at hcb
      generalize ((({ data := s.toArray } : ByteArray)[k]'hlt).toNat : Int) = c at hr hcb ⊢
      have hwc : wrap64 c = c := by unfold wrap64; omega
      try rw [hwc]
      refine (C_spec_l1In _ c _ _).mono ?_
      rintro e w2 ⟨rfl, rfl⟩
      cases h1 : inR c 97 122
      · go_wp2_with fail
        try rw [hwc]
        refine (C_spec_l1In _ c _ _).mono ?_
        rintro e w3 ⟨rfl, rfl⟩
        cases h2 : inR c 48 57
        · by_cases h3 : c = 45
          · have q3 : (c != 45) = false := by simp [h3]
            have HC := Lib.hid (show okByte s[k] = true from by rw [hr, h1, h2]; simp [h3])
            clear h3 hr
            go_wp2
            go_roundw
            case rel => exact ⟨k + 1, by omega, by go_num, by rw [HS.out, HT.out, HC.out]; rfl, by first | rfl | trivial⟩
            case measure => simp [intOf]; omega
          · have q3 : (c != 45) = true := by simp [h3]
            have HC := Lib.hid (show okByte s[k] = false from by rw [hr, h1, h2]; simp [h3])
            clear h3 hr
            go_wp2
            go_ret
            exact ⟨ret_bool (by unfold validPart; rw [all_false_of okByte s hlt HC.out]; rfl), rfl⟩
        · have HC := Lib.hid (show okByte s[k] = true from by rw [hr, h1, h2]; simp)
          clear hr
          go_wp2
          go_roundw
          case rel => exact ⟨k + 1, by omega, by go_num, by rw [HS.out, HT.out, HC.out]; rfl, by first | rfl | trivial⟩
          case measure => simp [intOf]; omega
      · have HC := Lib.hid (show okByte s[k] = true from by rw [hr, h1]; simp)
        clear hr
        go_wp2
        go_roundw
        case rel => exact ⟨k + 1, by omega, by go_num, by rw [HS.out, HT.out, HC.out]; rfl, by first | rfl | trivial⟩
        case measure => simp [intOf]; omega
    · have HE : Hid (s.all okByte = true) := by have := HT.out; rwa [List.take_of_length_le (by omega)] at this
      go_wp2
      go_ret
      exact ⟨ret_bool (by unfold validPart; rw [HE.out]; have := HL.out; unfold inR at this; simp at this ⊢; omega), rfl⟩
set_option maxHeartbeats 1000000 in
theorem C_spec_ValidName (w : World) (cs : List Value) (x : List (List UInt8)) (h : (Ty.sl .str).rd w cs x) :
    Calls Try.prog 133 #[.agg cs.toArray] w (RetB w (validName x)) := by
  obtain ⟨A, c, rfl⟩ := Ty.rd_slv h
  obtain ⟨_, _, _, hcc, hmm, hn⟩ := Ty.rd_sl h
  go_enter Try.func133, Try.ntmps133
  go_wp2
  go_loopw [3] (fun i wr => ∃ k : Nat, k ≤ x.length ∧ i = .int .i64 k ∧ (x.take k).all validPart = true ∧ Below (w.alloc (.cells #[.slice A x.length c] 27)).heap.size (w.alloc (.cells #[.slice A x.length c] 27)) wr) (fun i _ => x.length - (intOf i).toNat)
  case atStart => exact ⟨0, by omega, rfl, by first | rfl | simp, Below.refl _ _⟩
  case round =>
    obtain ⟨k, hk, rfl, ht, hb⟩ := hrel
    have hw : Below w.heap.size w wr := bel_trans (by repeat' (first | (with_reducible exact Below.refl _ _) | (with_reducible assumption) | (with_reducible refine bel_set ?_ (by (try dsimp only); omega) _) | (with_reducible refine bel_alloc ?_ _) | (with_reducible refine bel_drewN ?_ _) | (with_reducible refine bel_drew ?_))) hb
    obtain ⟨hc, hf⟩ := bcell hb
    have HT := Lib.hid ht
    clear ht
    by_cases hlt : k < x.length
    · have HS := Lib.hid (all_take_succ validPart x hlt)
      obtain ⟨b, o, rfl, e0, n0⟩ := Ty.rd_str_at (Ty.rd_below hw h) hlt
      go_wp2_with fail
      refine (C_spec_ValidPart _ _ n0).mono ?_
      rintro e w2 ⟨rfl, rfl⟩
      cases hq : validPart x[k]
      · go_wp2
        go_ret
        exact ⟨ret_bool (by unfold validName; rw [all_false_of validPart x hlt hq]; rfl), hw⟩
      · have HQ := Lib.hid hq
        go_wp2
        go_roundw
        case rel => exact ⟨k + 1, by omega, by go_num, by rw [HS.out, HT.out, HQ.out]; rfl, hb⟩
        case measure => simp [intOf]; omega
    · have HE : Hid (x.all validPart = true) := by have := HT.out; rwa [List.take_of_length_le (by omega)] at this
      go_wp2
      go_ret
      exact ⟨ret_bool (by unfold validName; rw [HE.out]; (rw [Bool.eq_iff_iff]; simp; try omega)), hw⟩
/-- The first place that the test takes, or -1. -/
def ixf {α : Type} (p : α → Bool) (x : List α) : Int := match x.findIdx? p with | some k => (k : Int) | none => -1
theorem ixf_hit {α : Type} (p : α → Bool) (x : List α) {k : Nat} (h : k < x.length) (ht : (x.take k).any p = false) (hp : p x[k] = true) : ixf p x = k := by
  unfold ixf
  rw [List.findIdx?_eq_some_iff_getElem.2 ⟨h, hp, fun j hj => by
    have := List.any_eq_false.1 ht ((x.take k)[j]'(by rw [List.length_take]; omega)) (List.getElem_mem _)
    rw [List.getElem_take] at this; exact this⟩]
theorem ixf_miss {α : Type} (p : α → Bool) (x : List α) (ht : x.any p = false) : ixf p x = -1 := by
  unfold ixf
  rw [List.findIdx?_eq_none_iff.2 (fun a ha => by simpa using List.any_eq_false.1 ht a ha)]
theorem ixf_ge {α : Type} (p : α → Bool) (x : List α) : decide (ixf p x ≥ 0) = x.any p := by
  unfold ixf
  cases hq : x.findIdx? p with
  | none => rw [List.findIdx?_eq_none_iff] at hq; symm; simp; exact hq
  | some k => rw [List.findIdx?_eq_some_iff_getElem] at hq; obtain ⟨h, hp, _⟩ := hq; symm; simp; exact ⟨x[k], List.getElem_mem h, hp⟩
theorem ixf_lt {α : Type} (p : α → Bool) (x : List α) : ixf p x = -1 ∨ (0 ≤ ixf p x ∧ ixf p x < x.length) := by
  unfold ixf
  cases hq : x.findIdx? p with
  | none => exact .inl rfl
  | some k => rw [List.findIdx?_eq_some_iff_getElem] at hq; obtain ⟨h, hp, _⟩ := hq; right; simp; omega
/-- What is asked of a predicate that is handed over as a function value. -/
def Pred (P : Program) (g : Nat) (lb : Array Value) (w : World) {α : Type} (rd : World → List Value → α → Prop) (val : List Value → Value) (x : List α) (p : α → Bool) : Prop :=
  ∀ (W : World) (cs : List Value) (a : α), a ∈ x → Below w.heap.size w W → rd W cs a → Calls P g (#[val cs] ++ lb) W (RetB W (p a))
set_option maxHeartbeats 1000000 in
theorem C_IndexFunc_str (w : World) (v : Value) (x : List (List UInt8)) (p : List UInt8 → Bool) (g : Nat) (lb : Array Value) (eg : ∀ args w, (callFunc g args).run Try.prog w = .ok (.enter g args) w)
    (h : (Ty.sl .str).rd w [v] x) (hp : ∀ (W : World) (s : List UInt8), s.length ≤ 9223372036854775807 → Below w.heap.size w W → Calls Try.prog g (#[vS s] ++ lb) W (RetB W (p s))) :
    Calls Try.prog 178 #[v, .func (.func g) #[] lb] w (RetI w (ixf p x)) := by
  obtain ⟨A, c, rfl, hc, hm, hn⟩ := Ty.rd_sl h
  have HP := Lib.hid hp
  clear hp
  go_enter Try.func178, Try.ntmps178
  go_wp2
  go_loopw [8] (fun i wr => ∃ k : Nat, k ≤ x.length ∧ i = .int .i64 k ∧ (x.take k).any p = false ∧ Below w.heap.size w wr) (fun i _ => x.length - (intOf i).toNat)
  case atStart => exact ⟨0, by omega, by first | rfl | simp, by first | rfl | simp, Below.refl _ _⟩
  case round =>
    obtain ⟨k, hk, rfl, ht, hb⟩ := hrel
    have HT := Lib.hid ht
    clear ht
    by_cases hlt : k < x.length
    · have HS := Lib.hid (any_take_succ p x hlt)
      obtain ⟨b, o, rfl, e0, n0⟩ := Ty.rd_str_at (Ty.rd_below hb h) hlt
      have hcall := HP.out wr x[k] n0 hb
      cases hq : p x[k]
      · have HQ := Lib.hid hq
        rw [hq] at hcall
        go_wp2_with (go_at_fn g; refine hcall.mono ?_; rintro e w' ⟨rfl, hb'⟩)
        go_roundw
        case rel => exact ⟨k + 1, by omega, by go_num, by rw [HS.out, HT.out, HQ.out]; rfl, bel_trans hb hb'⟩
        case measure => simp [intOf]; omega
      · have HQ := Lib.hid hq
        rw [hq] at hcall
        go_wp2_with (go_at_fn g; refine hcall.mono ?_; rintro e w' ⟨rfl, hb'⟩)
        go_ret
        exact ⟨ret_int (ixf_hit p x hlt HT.out HQ.out).symm, bel_trans hb hb'⟩
    · have HE : Hid (x.any p = false) := by have := HT.out; rwa [List.take_of_length_le (by omega)] at this
      go_wp2
      go_ret
      exact ⟨ret_int (ixf_miss p x HE.out).symm, hb⟩
set_option maxHeartbeats 1000000 in
theorem C_ContainsFunc_str (w : World) (v : Value) (x : List (List UInt8)) (p : List UInt8 → Bool) (g : Nat) (lb : Array Value) (eg : ∀ args w, (callFunc g args).run Try.prog w = .ok (.enter g args) w)
    (h : (Ty.sl .str).rd w [v] x) (hp : ∀ (W : World) (s : List UInt8), s.length ≤ 9223372036854775807 → Below w.heap.size w W → Calls Try.prog g (#[vS s] ++ lb) W (RetB W (p s))) :
    Calls Try.prog 160 #[v, .func (.func g) #[] lb] w (RetB w (x.any p)) := by
  have hcall := C_IndexFunc_str w v x p g lb eg h hp
  go_enter Try.func160, Try.ntmps160
  go_wp2_with fail
  refine hcall.mono ?_
  rintro e w1 ⟨rfl, hb⟩
  go_wp2
  go_ret
  exact ⟨ret_bool (ixf_ge p x), hb⟩
set_option maxHeartbeats 1000000 in
theorem C_impl_ValidName (w : World) (cs : List Value) (x : List (List UInt8)) (h : (Ty.sl .str).rd w cs x) :
    Calls Try.prog 113 #[.agg cs.toArray] w (RetB w (validName x)) := by
  obtain ⟨A, c, rfl⟩ := Ty.rd_slv h
  by_cases hl : x.length ≤ 6
  · have HL := Lib.hid hl
    go_enter Try.func113, Try.ntmps113
    go_wp2_with fail
    refine (C_ContainsFunc_str _ _ x (fun s => !validPart s) 161 #[] (enters_of Try.func161 (by kernel_rfl) rfl) (Ty.rd_below (by repeat' (first | (with_reducible exact Below.refl _ _) | (with_reducible assumption) | (with_reducible refine bel_set ?_ (by (try dsimp only); omega) _) | (with_reducible refine bel_alloc ?_ _) | (with_reducible refine bel_drewN ?_ _) | (with_reducible refine bel_drew ?_))) h) (fun W s hs _ => by rw [Array.append_empty]; refine (C_impl_ValidName1 W s hs).mono ?_; rintro e w' ⟨rfl, rfl⟩; exact ⟨rfl, Below.refl _ _⟩)).mono ?_
    rintro e w1 ⟨rfl, hb⟩
    have hw1 : Below w.heap.size w w1 := bel_trans (by repeat' (first | (with_reducible exact Below.refl _ _) | (with_reducible assumption) | (with_reducible refine bel_set ?_ (by (try dsimp only); omega) _) | (with_reducible refine bel_alloc ?_ _) | (with_reducible refine bel_drewN ?_ _) | (with_reducible refine bel_drew ?_))) hb
    go_wp2
    go_ret
    exact ⟨ret_bool (by unfold validName; have := HL.out; (rw [Bool.eq_iff_iff]; simp; try omega)), hw1⟩
  · have HL := Lib.hid hl
    go_enter Try.func113, Try.ntmps113
    go_wp2
    go_ret
    exact ⟨ret_bool (by unfold validName; have := HL.out; (rw [Bool.eq_iff_iff]; simp; try omega)), (by repeat' (first | (with_reducible exact Below.refl _ _) | (with_reducible assumption) | (with_reducible refine bel_set ?_ (by (try dsimp only); omega) _) | (with_reducible refine bel_alloc ?_ _) | (with_reducible refine bel_drewN ?_ _) | (with_reducible refine bel_drew ?_)))⟩
end Go.Proofs.Ytldgbnlcnlfmeaa
