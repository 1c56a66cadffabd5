/- Texts of this claim, merged by a program: Val Ret Int Byt Cpy Csn Mkl Mrk. -/
import Derived.Test.YtldgbnlcnlfmeaaMo1
import Derived.Deep.RegionHeld3
import Derived.Shelf.Abstract
import Derived.Test.YtldgbnlcnlfmeaaMo0
import Derived.Lib.SliceRun
import Derived.Laws.Bits128
/- Parts, names, patterns, rules are right: the walks. -/
namespace Go.Proofs.Ytldgbnlcnlfmeaa
open Go.RowKit
set_option linter.unusedVariables false
set_option linter.unusedSimpArgs false

/-- A bool comes back and the world stays. -/
def RetBP (w : World) (b : Bool) (e : Ending) (w' : World) : Prop := e = .returned (.bool b) ∧ w' = w
def RetIP (w : World) (b : Int) (e : Ending) (w' : World) : Prop := e = .returned (.int .i64 b) ∧ w' = w
def inR (x a b : Int) : Bool := decide (a ≤ x) && decide (x ≤ b)
set_option maxHeartbeats 400000 in
theorem C_spec_l1In (w : World) (x a b : Int) : Calls Try.prog 110 #[.int .i64 x, .int .i64 a, .int .i64 b] w (RetBP w (inR x a b)) := by
  go_enter Try.func110, Try.ntmps110
  go_wp2
  all_goals go_ret
  all_goals exact ⟨ret_bool (by unfold inR; (rw [Bool.eq_iff_iff]; simp; try omega)), rfl⟩
set_option maxHeartbeats 400000 in
theorem C_impl_InRange (w : World) (x a b : Int) : Calls Try.prog 109 #[.int .i64 x, .int .i64 a, .int .i64 b] w (RetBP w (inR x a b)) := by
  go_enter Try.func109, Try.ntmps109
  go_wp2
  all_goals go_ret
  all_goals exact ⟨ret_bool (by unfold inR; (rw [Bool.eq_iff_iff]; simp; try omega)), rfl⟩
theorem okByte_iff (s : List UInt8) (k : Nat) (h : k < s.length) (c : Int) (hc : c = (s[k].toNat : Int)) : okByte s[k] = true ↔ (97 ≤ c ∧ c ≤ 122) ∨ (48 ≤ c ∧ c ≤ 57) ∨ c = 45 := by
  subst hc; unfold okByte; simp; omega
theorem okByte_no (s : List UInt8) (k : Nat) (h : k < s.length) (c : Int) (hc : c = (s[k].toNat : Int)) (hn : ¬ ((97 ≤ c ∧ c ≤ 122) ∨ (48 ≤ c ∧ c ≤ 57) ∨ c = 45)) : okByte s[k] = false := by
  cases hq : okByte s[k]
  · rfl
  · exact absurd ((okByte_iff s k h c hc).1 hq) hn
theorem bytes_at (s : List UInt8) (k : Nat) (h : k < s.length) (h2 : k < ({ data := s.toArray } : ByteArray).size) : ((({ data := s.toArray } : ByteArray)[k].toNat : Nat) : Int) = (s[k].toNat : Int) := rfl
set_option maxHeartbeats 1000000 in
theorem C_impl_ValidPart (w : World) (s : List UInt8) (hs : s.length ≤ 9223372036854775807) : Calls Try.prog 162 #[vS s] w (RetBP w (validPart s)) := by
  go_enter Try.func162, Try.ntmps162
  go_wp2
  go_loopw [7] (fun i wr => ∃ k : Nat, k ≤ s.length ∧ i = .int .i64 k ∧ (s.take k).all okByte = true ∧ wr = w) (fun i _ => s.length - (intOf i).toNat)
  case atStart => exact ⟨0, by omega, by first | rfl | simp, rfl, rfl⟩
  case round =>
    obtain ⟨k, hk, rfl, ht, rfl⟩ := hrel
    have HT := Lib.hid ht
    clear ht
    by_cases hlt : k < s.length
    · have hs1 := all_take_succ okByte s hlt
      have HS := Lib.hid hs1
      clear hs1
      go_wp2
      all_goals (try simp only [Bool.not_eq_false', decide_eq_true_eq, beq_iff_eq, Bool.not_eq_true', decide_eq_false_iff_not, beq_eq_false_iff_ne, ne_eq] at *)
      all_goals first
        | (go_ret
           exact ⟨ret_bool (by unfold validPart; rw [all_false_of okByte s hlt (okByte_no s k hlt _ (bytes_at s k hlt hlt) (by omega))]; rfl), rfl⟩)
        | exact ⟨⟨k + 1, by omega, by go_num, by rw [HS.out, HT.out, (okByte_iff s k hlt _ (bytes_at s k hlt hlt)).2 (by omega)]; rfl, by first | rfl | trivial⟩, by simp [intOf]; omega⟩
    · have HE : Hid (s.all okByte = true) := by have := HT.out; rwa [List.take_of_length_le (by omega)] at this
      go_wp2_with fail
      refine (C_impl_InRange _ _ _ _).mono ?_
      rintro e w1 ⟨rfl, rfl⟩
      go_wp2
      go_ret
      exact ⟨ret_bool (by unfold validPart inR; rw [HE.out]; (rw [Bool.eq_iff_iff]; simp; try omega)), rfl⟩
set_option maxHeartbeats 400000 in
theorem C_impl_ValidName1 (w : World) (s : List UInt8) (hs : s.length ≤ 9223372036854775807) : Calls Try.prog 161 #[vS s] w (RetBP w (!validPart s)) := by
  go_enter Try.func161, Try.ntmps161
  go_wp2_with fail
  refine (C_impl_ValidPart _ _ hs).mono ?_
  rintro e w1 ⟨rfl, rfl⟩
  go_wp2
  go_ret
  exact ⟨rfl, rfl⟩
set_option maxHeartbeats 1000000 in
theorem C_spec_ValidPart (w : World) (s : List UInt8) (hs : s.length ≤ 9223372036854775807) : Calls Try.prog 167 #[vS s] w (RetBP w (validPart s)) := by
  go_enter Try.func167, Try.ntmps167
  go_wp2_with fail
  refine (C_spec_l1In _ _ _ _).mono ?_
  rintro e w1 ⟨rfl, rfl⟩
  cases hq : inR s.length 1 8
  · go_wp2
    go_ret
    exact ⟨ret_bool (by unfold validPart; unfold inR at hq; rw [show (decide (1 ≤ s.length) && decide (s.length ≤ 8)) = false from by (rw [Bool.eq_iff_iff] at hq ⊢; simp at hq ⊢; omega)]; simp), rfl⟩
  have HL := Lib.hid hq
  go_wp2
  go_loopw [3] (fun i wr => ∃ k : Nat, k ≤ s.length ∧ i = .int .i64 k ∧ (s.take k).all okByte = true ∧ wr = w1) (fun i _ => s.length - (intOf i).toNat)
  case atStart => exact ⟨0, by omega, by first | rfl | simp, rfl, rfl⟩
  case round =>
    obtain ⟨k, hk, rfl, ht, rfl⟩ := hrel
    have HT := Lib.hid ht
    clear ht
    by_cases hlt : k < s.length
    · have hs1 := all_take_succ okByte s hlt
      have HS := Lib.hid hs1
      clear hs1
      have HR : Hid (∀ c : Int, c = (s[k].toNat : Int) → okByte s[k] = (inR c 97 122 || inR c 48 57 || decide (c = 45))) := fun c hc => by
        subst hc; unfold okByte inR; (rw [Bool.eq_iff_iff]; simp; omega)
      go_wp2_with fail
      have hr := HR.out _ (bytes_at s k hlt hlt)
      have hcb : 0 ≤ (s[k].toNat : Int) ∧ (s[k].toNat : Int) ≤ 255 := by have := UInt8.toNat_lt s[k]; omega
      rw [← bytes_at s k hlt hlt] at hcb
      generalize ((({ data := s.toArray } : ByteArray)[k]'hlt).toNat : Int) = c at hr hcb ⊢
      have hwc : wrap64 c = c := by unfold wrap64; omega
      try rw [hwc]
      refine (C_spec_l1In _ c _ _).mono ?_
      rintro e w2 ⟨rfl, rfl⟩
      cases h1 : inR c 97 122
      · go_wp2_with fail
        try rw [hwc]
        refine (C_spec_l1In _ c _ _).mono ?_
        rintro e w3 ⟨rfl, rfl⟩
        cases h2 : inR c 48 57
        · by_cases h3 : c = 45
          · have q3 : (c != 45) = false := by simp [h3]
            have HC := Lib.hid (show okByte s[k] = true from by rw [hr, h1, h2]; simp [h3])
            clear h3 hr
            go_wp2
            go_roundw
            case rel => exact ⟨k + 1, by omega, by go_num, by rw [HS.out, HT.out, HC.out]; rfl, by first | rfl | trivial⟩
            case measure => simp [intOf]; omega
          · have q3 : (c != 45) = true := by simp [h3]
            have HC := Lib.hid (show okByte s[k] = false from by rw [hr, h1, h2]; simp [h3])
            clear h3 hr
            go_wp2
            go_ret
            exact ⟨ret_bool (by unfold validPart; rw [all_false_of okByte s hlt HC.out]; rfl), rfl⟩
        · have HC := Lib.hid (show okByte s[k] = true from by rw [hr, h1, h2]; simp)
          clear hr
          go_wp2
          go_roundw
          case rel => exact ⟨k + 1, by omega, by go_num, by rw [HS.out, HT.out, HC.out]; rfl, by first | rfl | trivial⟩
          case measure => simp [intOf]; omega
      · have HC := Lib.hid (show okByte s[k] = true from by rw [hr, h1]; simp)
        clear hr
        go_wp2
        go_roundw
        case rel => exact ⟨k + 1, by omega, by go_num, by rw [HS.out, HT.out, HC.out]; rfl, by first | rfl | trivial⟩
        case measure => simp [intOf]; omega
    · have HE : Hid (s.all okByte = true) := by have := HT.out; rwa [List.take_of_length_le (by omega)] at this
      go_wp2
      go_ret
      exact ⟨ret_bool (by unfold validPart; rw [HE.out]; have := HL.out; unfold inR at this; simp at this ⊢; omega), rfl⟩
set_option maxHeartbeats 1000000 in
theorem C_spec_ValidName (w : World) (cs : List Value) (x : List (List UInt8)) (h : (Ty.sl .str).rd w cs x) :
    Calls Try.prog 133 #[.agg cs.toArray] w (RetB w (validName x)) := by
  obtain ⟨A, c, rfl⟩ := Ty.rd_slv h
  obtain ⟨_, _, _, hcc, hmm, hn⟩ := Ty.rd_sl h
  go_enter Try.func133, Try.ntmps133
  go_wp2
  go_loopw [3] (fun i wr => ∃ k : Nat, k ≤ x.length ∧ i = .int .i64 k ∧ (x.take k).all validPart = true ∧ Below (w.alloc (.cells #[.slice A x.length c] 27)).heap.size (w.alloc (.cells #[.slice A x.length c] 27)) wr) (fun i _ => x.length - (intOf i).toNat)
  case atStart => exact ⟨0, by omega, rfl, by first | rfl | simp, Below.refl _ _⟩
  case round =>
    obtain ⟨k, hk, rfl, ht, hb⟩ := hrel
    have hw : Below w.heap.size w wr := bel_trans (by repeat' (first | (with_reducible exact Below.refl _ _) | (with_reducible assumption) | (with_reducible refine bel_set ?_ (by (try dsimp only); omega) _) | (with_reducible refine bel_alloc ?_ _) | (with_reducible refine bel_drewN ?_ _) | (with_reducible refine bel_drew ?_))) hb
    obtain ⟨hc, hf⟩ := bcell hb
    have HT := Lib.hid ht
    clear ht
    by_cases hlt : k < x.length
    · have HS := Lib.hid (all_take_succ validPart x hlt)
      obtain ⟨b, o, rfl, e0, n0⟩ := Ty.rd_str_at (Ty.rd_below hw h) hlt
      go_wp2_with fail
      refine (C_spec_ValidPart _ _ n0).mono ?_
      rintro e w2 ⟨rfl, rfl⟩
      cases hq : validPart x[k]
      · go_wp2
        go_ret
        exact ⟨ret_bool (by unfold validName; rw [all_false_of validPart x hlt hq]; rfl), hw⟩
      · have HQ := Lib.hid hq
        go_wp2
        go_roundw
        case rel => exact ⟨k + 1, by omega, by go_num, by rw [HS.out, HT.out, HQ.out]; rfl, hb⟩
        case measure => simp [intOf]; omega
    · have HE : Hid (x.all validPart = true) := by have := HT.out; rwa [List.take_of_length_le (by omega)] at this
      go_wp2
      go_ret
      exact ⟨ret_bool (by unfold validName; rw [HE.out]; (rw [Bool.eq_iff_iff]; simp; try omega)), hw⟩
/-- The first place that the test takes, or -1. -/
def ixf {α : Type} (p : α → Bool) (x : List α) : Int := match x.findIdx? p with | some k => (k : Int) | none => -1
theorem ixf_hit {α : Type} (p : α → Bool) (x : List α) {k : Nat} (h : k < x.length) (ht : (x.take k).any p = false) (hp : p x[k] = true) : ixf p x = k := by
  unfold ixf
  rw [List.findIdx?_eq_some_iff_getElem.2 ⟨h, hp, fun j hj => by
    have := List.any_eq_false.1 ht ((x.take k)[j]'(by rw [List.length_take]; omega)) (List.getElem_mem _)
    rw [List.getElem_take] at this; exact this⟩]
theorem ixf_miss {α : Type} (p : α → Bool) (x : List α) (ht : x.any p = false) : ixf p x = -1 := by
  unfold ixf
  rw [List.findIdx?_eq_none_iff.2 (fun a ha => by simpa using List.any_eq_false.1 ht a ha)]
theorem ixf_ge {α : Type} (p : α → Bool) (x : List α) : decide (ixf p x ≥ 0) = x.any p := by
  unfold ixf
  cases hq : x.findIdx? p with
  | none => rw [List.findIdx?_eq_none_iff] at hq; symm; simp; exact hq
  | some k => rw [List.findIdx?_eq_some_iff_getElem] at hq; obtain ⟨h, hp, _⟩ := hq; symm; simp; exact ⟨x[k], List.getElem_mem h, hp⟩
theorem ixf_lt {α : Type} (p : α → Bool) (x : List α) : ixf p x = -1 ∨ (0 ≤ ixf p x ∧ ixf p x < x.length) := by
  unfold ixf
  cases hq : x.findIdx? p with
  | none => exact .inl rfl
  | some k => rw [List.findIdx?_eq_some_iff_getElem] at hq; obtain ⟨h, hp, _⟩ := hq; right; simp; omega
/-- What is asked of a predicate that is handed over as a function value. -/
def Pred (P : Program) (g : Nat) (lb : Array Value) (w : World) {α : Type} (rd : World → List Value → α → Prop) (val : List Value → Value) (x : List α) (p : α → Bool) : Prop :=
  ∀ (W : World) (cs : List Value) (a : α), a ∈ x → Below w.heap.size w W → rd W cs a → Calls P g (#[val cs] ++ lb) W (RetB W (p a))
set_option maxHeartbeats 1000000 in
theorem C_IndexFunc_str (w : World) (v : Value) (x : List (List UInt8)) (p : List UInt8 → Bool) (g : Nat) (lb : Array Value) (eg : ∀ args w, (callFunc g args).run Try.prog w = .ok (.enter g args) w)
    (h : (Ty.sl .str).rd w [v] x) (hp : ∀ (W : World) (s : List UInt8), s.length ≤ 9223372036854775807 → Below w.heap.size w W → Calls Try.prog g (#[vS s] ++ lb) W (RetB W (p s))) :
    Calls Try.prog 178 #[v, .func (.func g) #[] lb] w (RetI w (ixf p x)) := by
  obtain ⟨A, c, rfl, hc, hm, hn⟩ := Ty.rd_sl h
  have HP := Lib.hid hp
  clear hp
  go_enter Try.func178, Try.ntmps178
  go_wp2
  go_loopw [8] (fun i wr => ∃ k : Nat, k ≤ x.length ∧ i = .int .i64 k ∧ (x.take k).any p = false ∧ Below w.heap.size w wr) (fun i _ => x.length - (intOf i).toNat)
  case atStart => exact ⟨0, by omega, by first | rfl | simp, by first | rfl | simp, Below.refl _ _⟩
  case round =>
    obtain ⟨k, hk, rfl, ht, hb⟩ := hrel
    have HT := Lib.hid ht
    clear ht
    by_cases hlt : k < x.length
    · have HS := Lib.hid (any_take_succ p x hlt)
      obtain ⟨b, o, rfl, e0, n0⟩ := Ty.rd_str_at (Ty.rd_below hb h) hlt
      have hcall := HP.out wr x[k] n0 hb
      cases hq : p x[k]
      · have HQ := Lib.hid hq
        rw [hq] at hcall
        go_wp2_with (go_at_fn g; refine hcall.mono ?_; rintro e w' ⟨rfl, hb'⟩)
        go_roundw
        case rel => exact ⟨k + 1, by omega, by go_num, by rw [HS.out, HT.out, HQ.out]; rfl, bel_trans hb hb'⟩
        case measure => simp [intOf]; omega
      · have HQ := Lib.hid hq
        rw [hq] at hcall
        go_wp2_with (go_at_fn g; refine hcall.mono ?_; rintro e w' ⟨rfl, hb'⟩)
        go_ret
        exact ⟨ret_int (ixf_hit p x hlt HT.out HQ.out).symm, bel_trans hb hb'⟩
    · have HE : Hid (x.any p = false) := by have := HT.out; rwa [List.take_of_length_le (by omega)] at this
      go_wp2
      go_ret
      exact ⟨ret_int (ixf_miss p x HE.out).symm, hb⟩
set_option maxHeartbeats 1000000 in
theorem C_ContainsFunc_str (w : World) (v : Value) (x : List (List UInt8)) (p : List UInt8 → Bool) (g : Nat) (lb : Array Value) (eg : ∀ args w, (callFunc g args).run Try.prog w = .ok (.enter g args) w)
    (h : (Ty.sl .str).rd w [v] x) (hp : ∀ (W : World) (s : List UInt8), s.length ≤ 9223372036854775807 → Below w.heap.size w W → Calls Try.prog g (#[vS s] ++ lb) W (RetB W (p s))) :
    Calls Try.prog 160 #[v, .func (.func g) #[] lb] w (RetB w (x.any p)) := by
  have hcall := C_IndexFunc_str w v x p g lb eg h hp
  go_enter Try.func160, Try.ntmps160
  go_wp2_with fail
  refine hcall.mono ?_
  rintro e w1 ⟨rfl, hb⟩
  go_wp2
  go_ret
  exact ⟨ret_bool (ixf_ge p x), hb⟩
set_option maxHeartbeats 1000000 in
theorem C_impl_ValidName (w : World) (cs : List Value) (x : List (List UInt8)) (h : (Ty.sl .str).rd w cs x) :
    Calls Try.prog 113 #[.agg cs.toArray] w (RetB w (validName x)) := by
  obtain ⟨A, c, rfl⟩ := Ty.rd_slv h
  by_cases hl : x.length ≤ 6
  · have HL := Lib.hid hl
    go_enter Try.func113, Try.ntmps113
    go_wp2_with fail
    refine (C_ContainsFunc_str _ _ x (fun s => !validPart s) 161 #[] (enters_of Try.func161 (by kernel_rfl) rfl) (Ty.rd_below (by repeat' (first | (with_reducible exact Below.refl _ _) | (with_reducible assumption) | (with_reducible refine bel_set ?_ (by (try dsimp only); omega) _) | (with_reducible refine bel_alloc ?_ _) | (with_reducible refine bel_drewN ?_ _) | (with_reducible refine bel_drew ?_))) h) (fun W s hs _ => by rw [Array.append_empty]; refine (C_impl_ValidName1 W s hs).mono ?_; rintro e w' ⟨rfl, rfl⟩; exact ⟨rfl, Below.refl _ _⟩)).mono ?_
    rintro e w1 ⟨rfl, hb⟩
    have hw1 : Below w.heap.size w w1 := bel_trans (by repeat' (first | (with_reducible exact Below.refl _ _) | (with_reducible assumption) | (with_reducible refine bel_set ?_ (by (try dsimp only); omega) _) | (with_reducible refine bel_alloc ?_ _) | (with_reducible refine bel_drewN ?_ _) | (with_reducible refine bel_drew ?_))) hb
    go_wp2
    go_ret
    exact ⟨ret_bool (by unfold validName; have := HL.out; (rw [Bool.eq_iff_iff]; simp; try omega)), hw1⟩
  · have HL := Lib.hid hl
    go_enter Try.func113, Try.ntmps113
    go_wp2
    go_ret
    exact ⟨ret_bool (by unfold validName; have := HL.out; (rw [Bool.eq_iff_iff]; simp; try omega)), (by repeat' (first | (with_reducible exact Below.refl _ _) | (with_reducible assumption) | (with_reducible refine bel_set ?_ (by (try dsimp only); omega) _) | (with_reducible refine bel_alloc ?_ _) | (with_reducible refine bel_drewN ?_ _) | (with_reducible refine bel_drew ?_)))⟩
end Go.Proofs.Ytldgbnlcnlfmeaa

/- Calls with several results. No program in sight. -/
namespace Go.Proofs.Ytldgbnlcnlfmeaa
open Go.RowKit
set_option linter.unusedVariables false
set_option linter.unusedSimpArgs false

/-- A slice in memory of its own, and a plain value. -/
def RetSl2 (w : World) (t : Ty) (x : List t.D) (u : Value) (e : Ending) (w' : World) : Prop :=
  ∃ A c fp, e = .returned (.tuple #[.slice A x.length c, u]) ∧ (Ty.sl t).ow w' [.slice A x.length c] x fp ∧ Fr w w' fp ∧ Below w.heap.size w w'
def RetSl3 (w : World) (t : Ty) (x : List t.D) (u u2 : Value) (e : Ending) (w' : World) : Prop :=
  ∃ A c fp, e = .returned (.tuple #[.slice A x.length c, u, u2]) ∧ (Ty.sl t).ow w' [.slice A x.length c] x fp ∧ Fr w w' fp ∧ Below w.heap.size w w'
/-- A struct, and a plain value. -/
def RetAgg2 (w : World) (t : Ty) (x : t.D) (u : Value) (e : Ending) (w' : World) : Prop :=
  ∃ cs fp, e = .returned (.tuple #[.agg cs.toArray, u]) ∧ t.ow w' cs x fp ∧ Fr w w' fp ∧ Below w.heap.size w w'
def RetAgg3 (w : World) (t : Ty) (x : t.D) (u u2 : Value) (e : Ending) (w' : World) : Prop :=
  ∃ cs fp, e = .returned (.tuple #[.agg cs.toArray, u, u2]) ∧ t.ow w' cs x fp ∧ Fr w w' fp ∧ Below w.heap.size w w'
theorem rd_ow_nil (w : World) (e : Ty) : (Ty.sl e).ow w [.slice none 0 0] [] [] := ⟨none, 0, rfl, Nat.le_refl _, ⟨Nat.zero_le _, fun _ => rfl⟩, by simp, .inl ⟨rfl, rfl⟩⟩
/-- A string. -/
def RetStr (w : World) (s : List UInt8) (e : Ending) (w' : World) : Prop := e = .returned (vS s) ∧ Below w.heap.size w w'
end Go.Proofs.Ytldgbnlcnlfmeaa

/- Numbers: remainders, digests, rows of numbers. -/
namespace Go.Proofs.Ytldgbnlcnlfmeaa
open Go.RowKit
set_option linter.unusedVariables false
set_option linter.unusedSimpArgs false

theorem infoI : (Try.prog.info? 3).map (fun i => (i.zero, i.size, i.bytes)) = some (some (.int .i64 0), 1, 8) := by kernel_rfl
theorem infoB : (Try.prog.info? 5).map (fun i => (i.zero, i.size, i.bytes)) = some (some (.int .u8 0), 1, 1) := by kernel_rfl
/-- The number that 'spec' and 'impl' call n mod m, at the prime. -/
def modP (n : Int) : Int := (n.tmod 2147483647 + 2147483647).tmod 2147483647
theorem tmodP_bd (n : Int) : -2147483647 < n.tmod 2147483647 ∧ n.tmod 2147483647 < 2147483647 := by
  have h1 := Int.tmod_lt_of_pos n (show (0 : Int) < 2147483647 by decide)
  refine ⟨?_, h1⟩
  rcases Int.le_total 0 n with h | h
  · have := Int.tmod_nonneg 2147483647 h; omega
  · have h3 := Int.tmod_lt_of_pos (-n) (show (0 : Int) < 2147483647 by decide)
    rw [Int.neg_tmod] at h3; omega
theorem modP_wrap (n : Int) : (wrap64 (n.tmod 2147483647 + 2147483647)).tmod 2147483647 = modP n := by
  unfold modP; rw [show wrap64 (n.tmod 2147483647 + 2147483647) = n.tmod 2147483647 + 2147483647 from by have := tmodP_bd n; unfold wrap64; omega]
theorem okI {n : Int} (h1 : -9223372036854775808 ≤ n) (h2 : n ≤ 9223372036854775807) : flatI.ok n := ⟨h1, h2⟩
theorem modP_le (n : Int) : 0 ≤ modP n ∧ modP n < 2147483647 := by
  unfold modP
  have h1 := Int.tmod_lt_of_pos n (show (0 : Int) < 2147483647 by decide)
  have h2 : -2147483647 < n.tmod 2147483647 := by
    rcases Int.le_total 0 n with h | h
    · have := Int.tmod_nonneg 2147483647 h; omega
    · have h3 := Int.tmod_lt_of_pos (-n) (show (0 : Int) < 2147483647 by decide)
      rw [Int.neg_tmod] at h3; omega
  exact ⟨Int.tmod_nonneg _ (by omega), Int.tmod_lt_of_pos _ (by decide)⟩
def digest (l : List Int) : Int := l.foldl (fun d x => (d * 1000003 + modP x + 13).tmod 2147483647) 11
theorem digest_le (l : List Int) : 0 ≤ digest l ∧ digest l < 2147483647 := by
  unfold digest
  have : ∀ (l : List Int) (d : Int), 0 ≤ d ∧ d < 2147483647 → 0 ≤ l.foldl (fun d x => (d * 1000003 + modP x + 13).tmod 2147483647) d ∧ l.foldl (fun d x => (d * 1000003 + modP x + 13).tmod 2147483647) d < 2147483647 := by
    intro l
    induction l with
    | nil => exact fun d h => h
    | cons a l ih =>
      intro d h
      have hm := modP_le a
      exact ih _ ⟨Int.tmod_nonneg _ (by omega), Int.tmod_lt_of_pos _ (by decide)⟩
  exact this l 11 (by omega)
/-- A row's length ahead of its bytes. -/
def pre (n : Int) (y : List UInt8) : List Int := n :: y.map fun c => (c.toNat : Int)
def bti (x : List UInt8) : List Int := pre x.length x
theorem pre_take (n : Int) (y : List UInt8) {k : Nat} (h : k < y.length) : pre n (y.take (k + 1)) = pre n (y.take k) ++ [(y[k].toNat : Int)] := by
  unfold pre; rw [List.take_succ_eq_append_getElem h, List.map_append]; rfl
theorem pre_len (n : Int) (y : List UInt8) : (pre n y).length = y.length + 1 := by simp [pre]
theorem digest_take (l : List Int) {k : Nat} (h : k < l.length) : digest (l.take (k + 1)) = (digest (l.take k) * 1000003 + modP l[k] + 13).tmod 2147483647 := by
  unfold digest
  rw [List.take_succ_eq_append_getElem h, List.foldl_append]; rfl
set_option maxHeartbeats 400000 in
theorem C_spec_ModP (w : World) (n : Int) (hn : -9223372036854775808 ≤ n ∧ n ≤ 9223372036854775807) : Calls Try.prog 179 #[.int .i64 n, .int .i64 2147483647] w (RetIP w (modP n)) := by
  go_enter Try.func179, Try.ntmps179
  go_wp2_with fail
  refine (C_spec_l1In _ _ _ _).mono ?_
  rintro e w1 ⟨rfl, rfl⟩
  have hq : inR 2147483647 1 1000000000000 = true := by decide
  rw [hq]
  clear hq
  go_wp2
  go_ret
  exact ⟨ret_int (modP_wrap n), rfl⟩
set_option maxHeartbeats 1000000 in
theorem C_spec_Digest (w : World) (v : Value) (x : List Int) (h : (Ty.sl .int).rd w [v] x) : Calls Try.prog 166 #[v] w (RetI w (digest x)) := by
  obtain ⟨A, c, rfl, hc, hm, hn⟩ := Ty.rd_sl h
  go_enter Try.func166, Try.ntmps166
  go_wp2
  go_loopw [3, 4] (fun d i wr => ∃ k : Nat, k ≤ x.length ∧ i = .int .i64 k ∧ d = .int .i64 (digest (x.take k)) ∧ Below w.heap.size w wr) (fun _ i _ => x.length - (intOf i).toNat)
  case atStart => exact ⟨0, by omega, rfl, rfl, Below.refl _ _⟩
  case round =>
    obtain ⟨k, hk, rfl, rfl, hb⟩ := hrel
    by_cases hlt : k < x.length
    · obtain ⟨b, o, rfl, e0, n0⟩ := Ty.rd_int_at (Ty.rd_below hb h) hlt
      have HD := Lib.hid (digest_take x hlt)
      have hd := digest_le (x.take k)
      have hm1 := modP_le x[k]
      generalize digest (x.take k) = D at HD hd ⊢
      go_wp2_with fail
      refine (C_spec_ModP _ _ n0).mono ?_
      rintro e w1 ⟨rfl, rfl⟩
      generalize modP x[k] = M at HD hm1 ⊢
      go_wp2
      go_roundw
      case rel => exact ⟨k + 1, by omega, by go_num, by rw [HD.out, Int.tmod_eq_emod_of_nonneg (by omega)], hb⟩
      case measure => simp [intOf]; omega
    · have HE : Hid (digest (x.take k) = digest x) := by rw [List.take_of_length_le (by omega)]; exact rfl
      go_wp2
      go_ret
      exact ⟨ret_int HE.out, hb⟩
set_option maxHeartbeats 1000000 in
theorem C_spec_BytesToInts (w : World) (v : Value) (x : List UInt8) (h : (Ty.sl .byte).rd w [v] x) (hx : x.length ≤ 1099511627776) : Calls Try.prog 136 #[v] w (RetRow flatI w 3 (bti x)) := by
  obtain ⟨A, c, rfl, hc, hm, hn⟩ := Ty.rd_sl h
  go_enter Try.func136, Try.ntmps136
  go_wp2
  go_loopw [3, 4] (fun l i wr => ∃ k : Nat, k ≤ x.length ∧ i = .int .i64 k ∧ Row flatI wr w.heap.size 3 l (pre x.length (x.take k)) ∧ Below w.heap.size w wr) (fun _ i _ => x.length - (intOf i).toNat)
  case atStart => exact ⟨0, by omega, rfl, Row.lit1 flatI w 3 (x.length : Int) (okI (by omega) (by omega)) (Nat.le_refl _), (by repeat' (first | (with_reducible exact Below.refl _ _) | (with_reducible assumption) | (with_reducible refine bel_set ?_ (by (try dsimp only); omega) _) | (with_reducible refine bel_alloc ?_ _) | (with_reducible refine bel_drewN ?_ _) | (with_reducible refine bel_drew ?_)))⟩
  case round =>
    obtain ⟨k, hk, rfl, hr, hb⟩ := hrel
    by_cases hlt : k < x.length
    · obtain ⟨b, o, rfl, e0⟩ := Ty.rd_byte_at (Ty.rd_below hb h) hlt
      have HP := Lib.hid (pre_take x.length x hlt)
      have hu := UInt8.toNat_lt x[k]
      have hsz := hb.size
      have HR := Lib.hid hr
      clear hr
      have HL := Lib.hid (show (pre x.length (x.take k)).length = k + 1 from by rw [pre_len, List.length_take]; omega)
      have hw8 : wrap64 (x[k].toNat : Int) = (x[k].toNat : Int) := by unfold wrap64; omega
      set_option maxRecDepth 100000 in go_wp2_with (at_builtin; go_loud (refine wpList_append_row rfl _ _ 92 rfl flatI w.heap.size 3 infoI rfl Try.underlying92 _ _ _ [(x[k].toNat : Int)] rfl rfl (HR.out.below (by repeat' (first | (with_reducible exact Below.refl _ _) | (with_reducible assumption) | (with_reducible refine bel_set ?_ (by (try dsimp only); omega) _) | (with_reducible refine bel_alloc ?_ _) | (with_reducible refine bel_drewN ?_ _) | (with_reducible refine bel_drew ?_)))) ((Row.lit1 flatI wr 3 (x[k].toNat : Int) (okI (by omega) (by omega)) (Nat.le_refl _)).rd (by (try simp only [World.size_alloc, World.size_setCell, size_drewN, World.size_drew]); omega)) ?_ ?_ ?_ ?_))
      case refine_1 => simp only [List.length_cons, List.length_nil, HL.out]; omega
      case refine_2 => simp only [List.length_cons, List.length_nil, HL.out]; unfold maxLen; omega
      case refine_3 => simp only [World.size_alloc]; omega
      case refine_4 =>
        intro v' w' hr' hg'
        have hb' : Below w.heap.size w w' := bel_grown (bel_alloc hb _) (by (try simp only [World.size_alloc, World.size_setCell, size_drewN, World.size_drew]); omega) hg' (fun g hg => (HR.out.block g hg).1)
        have HR' := Lib.hid hr'
        clear hr'
        go_wp2
        go_roundw
        case rel => exact ⟨k + 1, by omega, by go_num, by rw [HP.out]; exact HR'.out, hb'⟩
        case measure => simp [intOf]; omega
    · have HE : Hid (pre x.length (x.take k) = bti x) := by rw [List.take_of_length_le (by omega)]; exact rfl
      go_wp2
      go_ret
      exact ⟨_, rfl, by rw [← HE.out]; exact hr, hb⟩
set_option maxHeartbeats 400000 in
theorem C_impl_ModP (w : World) (n : Int) (hn : -9223372036854775808 ≤ n ∧ n ≤ 9223372036854775807) : Calls Try.prog 176 #[.int .i64 n, .int .i64 2147483647] w (RetIP w (modP n)) := by
  go_enter Try.func176, Try.ntmps176
  go_wp2_with fail
  refine (C_impl_InRange _ _ _ _).mono ?_
  rintro e w1 ⟨rfl, rfl⟩
  have hq : inR 2147483647 1 1000000000000 = true := by decide
  rw [hq]
  clear hq
  go_wp2
  go_ret
  exact ⟨ret_int (modP_wrap n), rfl⟩
set_option maxHeartbeats 1000000 in
theorem C_impl_Digest (w : World) (v : Value) (x : List Int) (h : (Ty.sl .int).rd w [v] x) : Calls Try.prog 153 #[v] w (RetI w (digest x)) := by
  obtain ⟨A, c, rfl, hc, hm, hn⟩ := Ty.rd_sl h
  go_enter Try.func153, Try.ntmps153
  go_wp2
  go_loopw [3, 8] (fun d i wr => ∃ k : Nat, k ≤ x.length ∧ i = .int .i64 k ∧ d = .int .i64 (digest (x.take k)) ∧ Below w.heap.size w wr) (fun _ i _ => x.length - (intOf i).toNat)
  case atStart => exact ⟨0, by omega, rfl, rfl, Below.refl _ _⟩
  case round =>
    obtain ⟨k, hk, rfl, rfl, hb⟩ := hrel
    by_cases hlt : k < x.length
    · obtain ⟨b, o, rfl, e0, n0⟩ := Ty.rd_int_at (Ty.rd_below hb h) hlt
      have HD := Lib.hid (digest_take x hlt)
      have hd := digest_le (x.take k)
      have hm1 := modP_le x[k]
      generalize digest (x.take k) = D at HD hd ⊢
      go_wp2_with fail
      refine (C_impl_ModP _ _ n0).mono ?_
      rintro e w1 ⟨rfl, rfl⟩
      generalize modP x[k] = M at HD hm1 ⊢
      go_wp2
      go_roundw
      case rel => exact ⟨k + 1, by omega, by go_num, by rw [HD.out, Int.tmod_eq_emod_of_nonneg (by omega)], hb⟩
      case measure => simp [intOf]; omega
    · have HE : Hid (digest (x.take k) = digest x) := by rw [List.take_of_length_le (by omega)]; exact rfl
      go_wp2
      go_ret
      exact ⟨ret_int HE.out, hb⟩
set_option maxHeartbeats 1000000 in
theorem C_impl_BytesToInts (w : World) (v : Value) (x : List UInt8) (h : (Ty.sl .byte).rd w [v] x) (hx : x.length ≤ 1099511627776) : Calls Try.prog 135 #[v] w (RetRow flatI w 3 (bti x)) := by
  obtain ⟨A, c, rfl, hc, hm, hn⟩ := Ty.rd_sl h
  go_enter Try.func135, Try.ntmps135
  go_wp2
  go_loopw [3, 11] (fun l i wr => ∃ k : Nat, k ≤ x.length ∧ i = .int .i64 k ∧ Row flatI wr w.heap.size 3 l (pre x.length (x.take k)) ∧ Below w.heap.size w wr) (fun _ i _ => x.length - (intOf i).toNat)
  case atStart => exact ⟨0, by omega, rfl, Row.lit1 flatI w 3 (x.length : Int) (okI (by omega) (by omega)) (Nat.le_refl _), (by repeat' (first | (with_reducible exact Below.refl _ _) | (with_reducible assumption) | (with_reducible refine bel_set ?_ (by (try dsimp only); omega) _) | (with_reducible refine bel_alloc ?_ _) | (with_reducible refine bel_drewN ?_ _) | (with_reducible refine bel_drew ?_)))⟩
  case round =>
    obtain ⟨k, hk, rfl, hr, hb⟩ := hrel
    by_cases hlt : k < x.length
    · obtain ⟨b, o, rfl, e0⟩ := Ty.rd_byte_at (Ty.rd_below hb h) hlt
      have HP := Lib.hid (pre_take x.length x hlt)
      have hu := UInt8.toNat_lt x[k]
      have hsz := hb.size
      have HR := Lib.hid hr
      clear hr
      have HL := Lib.hid (show (pre x.length (x.take k)).length = k + 1 from by rw [pre_len, List.length_take]; omega)
      have hw8 : wrap64 (x[k].toNat : Int) = (x[k].toNat : Int) := by unfold wrap64; omega
      set_option maxRecDepth 100000 in go_wp2_with (at_builtin; go_loud (refine wpList_append_row rfl _ _ 92 rfl flatI w.heap.size 3 infoI rfl Try.underlying92 _ _ _ [(x[k].toNat : Int)] rfl rfl (HR.out.below (by repeat' (first | (with_reducible exact Below.refl _ _) | (with_reducible assumption) | (with_reducible refine bel_set ?_ (by (try dsimp only); omega) _) | (with_reducible refine bel_alloc ?_ _) | (with_reducible refine bel_drewN ?_ _) | (with_reducible refine bel_drew ?_)))) ((Row.lit1 flatI wr 3 (x[k].toNat : Int) (okI (by omega) (by omega)) (Nat.le_refl _)).rd (by (try simp only [World.size_alloc, World.size_setCell, size_drewN, World.size_drew]); omega)) ?_ ?_ ?_ ?_))
      case refine_1 => simp only [List.length_cons, List.length_nil, HL.out]; omega
      case refine_2 => simp only [List.length_cons, List.length_nil, HL.out]; unfold maxLen; omega
      case refine_3 => simp only [World.size_alloc]; omega
      case refine_4 =>
        intro v' w' hr' hg'
        have hb' : Below w.heap.size w w' := bel_grown (bel_alloc hb _) (by (try simp only [World.size_alloc, World.size_setCell, size_drewN, World.size_drew]); omega) hg' (fun g hg => (HR.out.block g hg).1)
        have HR' := Lib.hid hr'
        clear hr'
        go_wp2
        go_roundw
        case rel => exact ⟨k + 1, by omega, by go_num, by rw [HP.out]; exact HR'.out, hb'⟩
        case measure => simp [intOf]; omega
    · have HE : Hid (pre x.length (x.take k) = bti x) := by rw [List.take_of_length_le (by omega)]; exact rfl
      go_wp2
      go_ret
      exact ⟨_, rfl, by rw [← HE.out]; exact hr, hb⟩
end Go.Proofs.Ytldgbnlcnlfmeaa

/- Rows of bytes: clone, varint, bytes, ints, names. -/
namespace Go.Proofs.Ytldgbnlcnlfmeaa
open Go.RowKit
set_option linter.unusedVariables false
set_option linter.unusedSimpArgs false

set_option maxHeartbeats 1000000 in
theorem C_slices_Clone_byte (w : World) (v : Value) (x : List UInt8) (h : (Ty.sl .byte).rd w [v] x) (hx : x.length ≤ 1099511627776) : Calls Try.prog 157 #[v] w (RetRow flatB w 5 x) := by
  obtain ⟨A, c, rfl, hc, hm, hn⟩ := Ty.rd_sl h
  cases A with
  | none =>
    obtain ⟨rfl, rfl⟩ := Ty.rd_nil h
    show Calls Try.prog 157 #[.slice none 0 0] w _
    clear h hx hc hm hn
    have q22 : ∀ (w : World) (a : Option Addr) (n c n' c' : Nat), (binOp .eql 22 (.slice a n c) (.slice none n' c')).run Try.prog w = .ok (.bool a.isNone) w := fun w a n c n' c' => Lib.run_eql_slice_nil w _ _ a n c n' c' Try.underlying22
    go_enter Try.func157, Try.ntmps157
    go_wp2
    go_ret
    exact ⟨_, rfl, Row.nil _ _ _ _, Below.refl _ _⟩
  | some a =>
    have q22 : ∀ (w : World) (a : Option Addr) (n c n' c' : Nat), (binOp .eql 22 (.slice a n c) (.slice none n' c')).run Try.prog w = .ok (.bool a.isNone) w := fun w a n c n' c' => Lib.run_eql_slice_nil w _ _ a n c n' c' Try.underlying22
    go_enter Try.func157, Try.ntmps157
    set_option maxRecDepth 100000 in go_wp2_with (at_builtin; go_loud (refine wpList_append_row rfl _ _ 22 rfl flatB w.heap.size 5 infoB rfl Try.underlying22 _ _ [] x rfl rfl (Row.lit0 flatB w 5 (Nat.le_refl _)) (Ty.rd_below (by repeat' (first | (with_reducible exact Below.refl _ _) | (with_reducible assumption) | (with_reducible refine bel_set ?_ (by (try dsimp only); omega) _) | (with_reducible refine bel_alloc ?_ _) | (with_reducible refine bel_drewN ?_ _) | (with_reducible refine bel_drew ?_))) h) ?_ ?_ ?_ ?_))
    case refine_1 => simp only [List.length_nil]; omega
    case refine_2 => simp only [List.length_nil]; unfold maxLen; omega
    case refine_3 => simp only [World.size_alloc]; omega
    case refine_4 =>
      intro v' w' hr' hg'
      have hb' : Below w.heap.size w w' := bel_grown (by repeat' (first | (with_reducible exact Below.refl _ _) | (with_reducible assumption) | (with_reducible refine bel_set ?_ (by (try dsimp only); omega) _) | (with_reducible refine bel_alloc ?_ _) | (with_reducible refine bel_drewN ?_ _) | (with_reducible refine bel_drew ?_))) (by (try simp only [World.size_alloc, World.size_setCell, size_drewN, World.size_drew]); omega) hg' (fun g hg => by simp [Value.ownBlock] at hg; omega)
      have HR' := Lib.hid hr'
      clear hr'
      go_wp2
      go_ret
      exact ⟨_, rfl, HR'.out, hb'⟩
def hiByte (k : Nat) : UInt8 := UInt8.ofNat (k % 128 + 128)
theorem hiByte_nat (k : Nat) : ((hiByte k).toNat : Int) = ((k % 128 + 128 : Nat) : Int) := by unfold hiByte; rw [UInt8.toNat_ofNat']; omega
def varint (n : Nat) : List UInt8 := if h : n < 128 then [UInt8.ofNat n] else hiByte n :: varint (n / 128)
termination_by n
decreasing_by omega
theorem varint_len (n : Nat) : (varint n).length ≤ n + 1 := by
  induction n using Nat.strongRecOn with
  | _ n ih =>
    rw [varint]
    by_cases h : n < 128
    · simp [h]
    · simp only [h, dif_neg, not_false_eq_true, List.length_cons]
      have := ih (n / 128) (by omega)
      omega
def f_AppendVarint (b : List UInt8) (n : Int) : List UInt8 := if 0 ≤ n ∧ n ≤ 1000000000000 then b ++ varint n.toNat else b
theorem or128 (k : Nat) : bits BinOp.or IntKind.u8 ((k : Int) % 256) 128 = ((k % 128 + 128 : Nat) : Int) := by
  have h : ∀ r : Fin 256, bits BinOp.or IntKind.u8 ((r.val : Nat) : Int) 128 = ((r.val % 128 + 128 : Nat) : Int) := by decide +kernel
  have h2 := h ⟨k % 256, Nat.mod_lt _ (by decide)⟩
  simp only at h2
  rw [show (k : Int) % 256 = ((k % 256 : Nat) : Int) from rfl, h2]
  omega
theorem or128s (k : Nat) : bits BinOp.or IntKind.i64 (bits BinOp.and IntKind.i64 (k : Int) 127) 128 % 256 = ((k % 128 + 128 : Nat) : Int) := by
  have h : ∀ r : Fin 128, bits BinOp.or IntKind.i64 ((r.val : Nat) : Int) 128 % 256 = ((r.val + 128 : Nat) : Int) := by decide +kernel
  have h2 := h ⟨k % 128, Nat.mod_lt _ (by decide)⟩
  simp only at h2
  rw [i64_and127, show (k : Int) % 128 = ((k % 128 : Nat) : Int) from rfl, h2]
set_option maxHeartbeats 1000000 in
theorem C_impl_AppendVarint (w : World) (v : Value) (b : List UInt8) (n : Int) (h : (Ty.sl .byte).rd w [v] b) (hx : b.length ≤ 1099511627776) (hi : -9223372036854775808 ≤ n ∧ n ≤ 9223372036854775807) :
    Calls Try.prog 152 #[v, .int .i64 n] w (RetRow flatB w 5 (f_AppendVarint b n)) := by
  go_enter Try.func152, Try.ntmps152
  go_wp2_with fail
  refine (C_slices_Clone_byte _ _ _ h hx).mono ?_
  rintro e w1 ⟨v1, rfl, hr1, hb1⟩
  go_wp2_with fail
  refine (C_impl_InRange _ _ _ _).mono ?_
  rintro e w2 ⟨rfl, rfl⟩
  cases hq : inR n 0 1000000000000
  · have HQ := Lib.hid hq
    have HR := Lib.hid hr1
    clear hq hr1
    go_wp2
    go_ret
    exact ⟨_, rfl, by unfold f_AppendVarint; rw [if_neg (by have := HQ.out; unfold inR at this; simp at this; omega)]; exact HR.out, hb1⟩
  · obtain ⟨m, rfl, hm⟩ : ∃ m : Nat, n = m ∧ m ≤ 1000000000000 := ⟨n.toNat, by unfold inR at hq; simp at hq; omega, by unfold inR at hq; simp at hq; omega⟩
    have HR := Lib.hid hr1
    clear hr1
    go_wp2
    go_loopw [1, 5] (fun q l wr => ∃ (k : Nat) (d : List UInt8), k ≤ 1000000000000 ∧ q = .int .i64 k ∧ Row flatB wr w.heap.size 5 l (b ++ d) ∧ d ++ varint k = varint m ∧ Below w.heap.size w wr) (fun q _ _ => (intOf q).toNat)
    case atStart => exact ⟨m, [], hm, rfl, by rw [List.append_nil]; exact HR.out, rfl, hb1⟩
    case round =>
      obtain ⟨k, d, hk, rfl, hr, hd, hb⟩ := hrel
      have hdl := Lib.hid (congrArg List.length hd)
      have HD := Lib.hid hd
      clear hd
      have HR := Lib.hid hr
      clear hr
      by_cases hlt : k < 128
      · have hkc : (k : Int) < 128 := by omega
        have hv : varint k = [UInt8.ofNat k] := by rw [varint, dif_pos hlt]
        have hu8 : ((UInt8.ofNat k).toNat : Int) = k := by rw [UInt8.toNat_ofNat']; omega
        have HV := Lib.hid hv
        clear hv
        have hlb : d.length + 1 ≤ m + 1 := by have h1 := hdl.out; rw [HV.out, List.length_append] at h1; have := varint_len m; simp at h1; omega
        have hb1 : Row flatB (wr.alloc (.cells #[.int .u8 (k : Int)] 5)) wr.heap.size 5 (.slice (some ⟨wr.heap.size, 0, none⟩) 1 1) [UInt8.ofNat k] := by
          have := Row.lit1 flatB wr 5 (UInt8.ofNat k) trivial (Nat.le_refl _)
          rwa [show flatB.enc (UInt8.ofNat k) = .int .u8 (k : Int) from congrArg (Value.int .u8) hu8] at this
        have HB := Lib.hid hb1
        clear hb1
        have hsz := hb.size
        clear hu8
        set_option maxRecDepth 100000 in go_wp2_with (at_builtin; go_loud (refine wpList_append_row rfl _ _ 22 rfl flatB w.heap.size 5 infoB rfl Try.underlying22 _ _ (b ++ d) [UInt8.ofNat k] rfl rfl (HR.out.below (by repeat' (first | (with_reducible exact Below.refl _ _) | (with_reducible assumption) | (with_reducible refine bel_set ?_ (by (try dsimp only); omega) _) | (with_reducible refine bel_alloc ?_ _) | (with_reducible refine bel_drewN ?_ _) | (with_reducible refine bel_drew ?_)))) (HB.out.rd (by (try simp only [World.size_alloc, World.size_setCell, size_drewN, World.size_drew]); omega)) ?_ ?_ ?_ ?_))
        case refine_1 => simp only [List.length_append, List.length_cons, List.length_nil]; omega
        case refine_2 => simp only [List.length_append, List.length_cons, List.length_nil]; unfold maxLen; omega
        case refine_3 => simp only [World.size_alloc]; omega
        case refine_4 =>
          intro v' w' hr' hg'
          have hb' : Below w.heap.size w w' := bel_grown (bel_alloc hb _) (by (try simp only [World.size_alloc, World.size_setCell, size_drewN, World.size_drew]); omega) hg' (fun g hg => (HR.out.block g hg).1)
          have HR' := Lib.hid hr'
          clear hr'
          go_wp2
          go_ret
          exact ⟨_, rfl, by unfold f_AppendVarint; rw [if_pos (by omega), show ((m : Int)).toNat = m from rfl, ← HD.out, HV.out]; exact HR'.out, hb'⟩
      · have hkc : (128 : Int) ≤ k := by omega
        have hv : varint k = hiByte k :: varint (k / 128) := by rw [varint, dif_neg hlt]
        have hu8 := hiByte_nat k
        have HV := Lib.hid hv
        clear hv
        have hlb : d.length + 1 ≤ m + 1 := by have h1 := hdl.out; rw [HV.out, List.length_append] at h1; have := varint_len m; simp at h1; omega
        have hb1 : Row flatB (wr.alloc (.cells #[.int .u8 (bits BinOp.or IntKind.u8 ((k : Int) % 256) 128)] 5)) wr.heap.size 5 (.slice (some ⟨wr.heap.size, 0, none⟩) 1 1) [hiByte k] := by
          have := Row.lit1 flatB wr 5 (hiByte k) trivial (Nat.le_refl _)
          rwa [show flatB.enc (hiByte k) = .int .u8 (bits BinOp.or IntKind.u8 ((k : Int) % 256) 128) from congrArg (Value.int .u8) (hu8.trans (or128 k).symm)] at this
        have HB := Lib.hid hb1
        clear hb1
        have hsz := hb.size
        clear hu8
        set_option maxRecDepth 100000 in go_wp2_with (at_builtin; go_loud (refine wpList_append_row rfl _ _ 22 rfl flatB w.heap.size 5 infoB rfl Try.underlying22 _ _ (b ++ d) [hiByte k] rfl rfl (HR.out.below (by repeat' (first | (with_reducible exact Below.refl _ _) | (with_reducible assumption) | (with_reducible refine bel_set ?_ (by (try dsimp only); omega) _) | (with_reducible refine bel_alloc ?_ _) | (with_reducible refine bel_drewN ?_ _) | (with_reducible refine bel_drew ?_)))) (HB.out.rd (by (try simp only [World.size_alloc, World.size_setCell, size_drewN, World.size_drew]); omega)) ?_ ?_ ?_ ?_))
        case refine_1 => simp only [List.length_append, List.length_cons, List.length_nil]; omega
        case refine_2 => simp only [List.length_append, List.length_cons, List.length_nil]; unfold maxLen; omega
        case refine_3 => simp only [World.size_alloc]; omega
        case refine_4 =>
          intro v' w' hr' hg'
          have hb' : Below w.heap.size w w' := bel_grown (bel_alloc hb _) (by (try simp only [World.size_alloc, World.size_setCell, size_drewN, World.size_drew]); omega) hg' (fun g hg => (HR.out.block g hg).1)
          have HR' := Lib.hid hr'
          clear hr'
          go_wp2
          exact ⟨⟨k / 128, d ++ [hiByte k], by omega, by first | rfl | go_num, by exact HR'.out, by rw [List.append_assoc, ← HD.out, HV.out]; rfl, hb'⟩, by simp [intOf]; omega⟩
set_option maxHeartbeats 1000000 in
theorem C_spec_AppendVarint (w : World) (v : Value) (b : List UInt8) (n : Int) (h : (Ty.sl .byte).rd w [v] b) (hx : b.length ≤ 1099511627776) (hi : -9223372036854775808 ≤ n ∧ n ≤ 9223372036854775807) :
    Calls Try.prog 165 #[v, .int .i64 n] w (RetRow flatB w 5 (f_AppendVarint b n)) := by
  go_enter Try.func165, Try.ntmps165
  set_option maxRecDepth 100000 in go_wp2_with (at_builtin; go_loud (refine wpList_append_row rfl _ _ 22 rfl flatB w.heap.size 5 infoB rfl Try.underlying22 _ _ [] b rfl rfl (Row.lit0 flatB w 5 (Nat.le_refl _)) (Ty.rd_below (by repeat' (first | (with_reducible exact Below.refl _ _) | (with_reducible assumption) | (with_reducible refine bel_set ?_ (by (try dsimp only); omega) _) | (with_reducible refine bel_alloc ?_ _) | (with_reducible refine bel_drewN ?_ _) | (with_reducible refine bel_drew ?_))) h) ?_ ?_ ?_ ?_))
  case refine_1 => simp only [List.length_nil]; omega
  case refine_2 => simp only [List.length_nil]; unfold maxLen; omega
  case refine_3 => simp only [World.size_alloc]; omega
  intro v1 w1 hr1 hg1
  have hb1 : Below w.heap.size w w1 := bel_grown (by repeat' (first | (with_reducible exact Below.refl _ _) | (with_reducible assumption) | (with_reducible refine bel_set ?_ (by (try dsimp only); omega) _) | (with_reducible refine bel_alloc ?_ _) | (with_reducible refine bel_drewN ?_ _) | (with_reducible refine bel_drew ?_))) (by (try simp only [World.size_alloc, World.size_setCell, size_drewN, World.size_drew]); omega) hg1 (fun g hg => by simp [Value.ownBlock] at hg; omega)
  go_wp2_with fail
  refine (C_spec_l1In _ _ _ _).mono ?_
  rintro e w2 ⟨rfl, rfl⟩
  cases hq : inR n 0 1000000000000
  · have HQ := Lib.hid hq
    have HR := Lib.hid hr1
    clear hq hr1
    go_wp2
    go_ret
    exact ⟨_, rfl, by unfold f_AppendVarint; rw [if_neg (by have := HQ.out; unfold inR at this; simp at this; omega)]; exact HR.out, hb1⟩
  · obtain ⟨m, rfl, hm⟩ : ∃ m : Nat, n = m ∧ m ≤ 1000000000000 := ⟨n.toNat, by unfold inR at hq; simp at hq; omega, by unfold inR at hq; simp at hq; omega⟩
    have HR := Lib.hid hr1
    clear hr1
    go_wp2
    go_loopw [1, 5] (fun q l wr => ∃ (k : Nat) (d : List UInt8), k ≤ 1000000000000 ∧ q = .int .i64 k ∧ Row flatB wr w.heap.size 5 l (b ++ d) ∧ d ++ varint k = varint m ∧ Below w.heap.size w wr) (fun q _ _ => (intOf q).toNat)
    case atStart => exact ⟨m, [], hm, rfl, by rw [List.append_nil]; exact HR.out, rfl, hb1⟩
    case round =>
      obtain ⟨k, d, hk, rfl, hr, hd, hb⟩ := hrel
      have hdl := Lib.hid (congrArg List.length hd)
      have HD := Lib.hid hd
      clear hd
      have HR := Lib.hid hr
      clear hr
      by_cases hlt : k < 128
      · have hkc : (k : Int) < 128 := by omega
        have hv : varint k = [UInt8.ofNat k] := by rw [varint, dif_pos hlt]
        have hu8 : ((UInt8.ofNat k).toNat : Int) = k := by rw [UInt8.toNat_ofNat']; omega
        have HV := Lib.hid hv
        clear hv
        have hlb : d.length + 1 ≤ m + 1 := by have h1 := hdl.out; rw [HV.out, List.length_append] at h1; have := varint_len m; simp at h1; omega
        have hb1 : Row flatB (wr.alloc (.cells #[.int .u8 (k : Int)] 5)) wr.heap.size 5 (.slice (some ⟨wr.heap.size, 0, none⟩) 1 1) [UInt8.ofNat k] := by
          have := Row.lit1 flatB wr 5 (UInt8.ofNat k) trivial (Nat.le_refl _)
          rwa [show flatB.enc (UInt8.ofNat k) = .int .u8 (k : Int) from congrArg (Value.int .u8) hu8] at this
        have HB := Lib.hid hb1
        clear hb1
        have hsz := hb.size
        clear hu8
        set_option maxRecDepth 100000 in go_wp2_with (at_builtin; go_loud (refine wpList_append_row rfl _ _ 22 rfl flatB w.heap.size 5 infoB rfl Try.underlying22 _ _ (b ++ d) [UInt8.ofNat k] rfl rfl (HR.out.below (by repeat' (first | (with_reducible exact Below.refl _ _) | (with_reducible assumption) | (with_reducible refine bel_set ?_ (by (try dsimp only); omega) _) | (with_reducible refine bel_alloc ?_ _) | (with_reducible refine bel_drewN ?_ _) | (with_reducible refine bel_drew ?_)))) (HB.out.rd (by (try simp only [World.size_alloc, World.size_setCell, size_drewN, World.size_drew]); omega)) ?_ ?_ ?_ ?_))
        case refine_1 => simp only [List.length_append, List.length_cons, List.length_nil]; omega
        case refine_2 => simp only [List.length_append, List.length_cons, List.length_nil]; unfold maxLen; omega
        case refine_3 => simp only [World.size_alloc]; omega
        case refine_4 =>
          intro v' w' hr' hg'
          have hb' : Below w.heap.size w w' := bel_grown (bel_alloc hb _) (by (try simp only [World.size_alloc, World.size_setCell, size_drewN, World.size_drew]); omega) hg' (fun g hg => (HR.out.block g hg).1)
          have HR' := Lib.hid hr'
          clear hr'
          go_wp2
          go_ret
          exact ⟨_, rfl, by unfold f_AppendVarint; rw [if_pos (by omega), show ((m : Int)).toNat = m from rfl, ← HD.out, HV.out]; exact HR'.out, hb'⟩
      · have hkc : (128 : Int) ≤ k := by omega
        have hv : varint k = hiByte k :: varint (k / 128) := by rw [varint, dif_neg hlt]
        have hu8 := hiByte_nat k
        have HV := Lib.hid hv
        clear hv
        have hlb : d.length + 1 ≤ m + 1 := by have h1 := hdl.out; rw [HV.out, List.length_append] at h1; have := varint_len m; simp at h1; omega
        have hb1 : Row flatB (wr.alloc (.cells #[.int .u8 (bits BinOp.or IntKind.i64 (bits BinOp.and IntKind.i64 (k : Int) 127) 128 % 256)] 5)) wr.heap.size 5 (.slice (some ⟨wr.heap.size, 0, none⟩) 1 1) [hiByte k] := by
          have := Row.lit1 flatB wr 5 (hiByte k) trivial (Nat.le_refl _)
          rwa [show flatB.enc (hiByte k) = .int .u8 (bits BinOp.or IntKind.i64 (bits BinOp.and IntKind.i64 (k : Int) 127) 128 % 256) from congrArg (Value.int .u8) (hu8.trans (or128s k).symm)] at this
        have HB := Lib.hid hb1
        clear hb1
        have hsz := hb.size
        clear hu8
        set_option maxRecDepth 100000 in go_wp2_with (at_builtin; go_loud (refine wpList_append_row rfl _ _ 22 rfl flatB w.heap.size 5 infoB rfl Try.underlying22 _ _ (b ++ d) [hiByte k] rfl rfl (HR.out.below (by repeat' (first | (with_reducible exact Below.refl _ _) | (with_reducible assumption) | (with_reducible refine bel_set ?_ (by (try dsimp only); omega) _) | (with_reducible refine bel_alloc ?_ _) | (with_reducible refine bel_drewN ?_ _) | (with_reducible refine bel_drew ?_)))) (HB.out.rd (by (try simp only [World.size_alloc, World.size_setCell, size_drewN, World.size_drew]); omega)) ?_ ?_ ?_ ?_))
        case refine_1 => simp only [List.length_append, List.length_cons, List.length_nil]; omega
        case refine_2 => simp only [List.length_append, List.length_cons, List.length_nil]; unfold maxLen; omega
        case refine_3 => simp only [World.size_alloc]; omega
        case refine_4 =>
          intro v' w' hr' hg'
          have hb' : Below w.heap.size w w' := bel_grown (bel_alloc hb _) (by (try simp only [World.size_alloc, World.size_setCell, size_drewN, World.size_drew]); omega) hg' (fun g hg => (HR.out.block g hg).1)
          have HR' := Lib.hid hr'
          clear hr'
          go_wp2
          exact ⟨⟨k / 128, d ++ [hiByte k], by omega, by first | rfl | go_num, by exact HR'.out, by rw [List.append_assoc, ← HD.out, HV.out]; rfl, hb'⟩, by simp [intOf]; omega⟩
end Go.Proofs.Ytldgbnlcnlfmeaa

/- Copies of names and keys. -/
namespace Go.Proofs.Ytldgbnlcnlfmeaa
open Go.RowKit
set_option linter.unusedVariables false
set_option linter.unusedSimpArgs false

set_option maxHeartbeats 1000000 in
theorem C_slices_Clone_str (w : World) (v : Value) (x : List (List UInt8)) (h : (Ty.sl .str).rd w [v] x) (hx : x.length ≤ 1099511627776) : Calls Try.prog 142 #[v] w (RetRow flatS w 9 x) := by
  obtain ⟨A, c, rfl, hc, hm, hn⟩ := Ty.rd_sl h
  cases A with
  | none =>
    obtain ⟨rfl, rfl⟩ := Ty.rd_nil h
    show Calls Try.prog 142 #[.slice none 0 0] w _
    clear h hx hc hm hn
    have q22 : ∀ (w : World) (a : Option Addr) (n c n' c' : Nat), (binOp .eql 25 (.slice a n c) (.slice none n' c')).run Try.prog w = .ok (.bool a.isNone) w := fun w a n c n' c' => Lib.run_eql_slice_nil w _ _ a n c n' c' Try.underlying25
    go_enter Try.func142, Try.ntmps142
    go_wp2
    go_ret
    exact ⟨_, rfl, Row.nil _ _ _ _, Below.refl _ _⟩
  | some a =>
    have q22 : ∀ (w : World) (a : Option Addr) (n c n' c' : Nat), (binOp .eql 25 (.slice a n c) (.slice none n' c')).run Try.prog w = .ok (.bool a.isNone) w := fun w a n c n' c' => Lib.run_eql_slice_nil w _ _ a n c n' c' Try.underlying25
    go_enter Try.func142, Try.ntmps142
    set_option maxRecDepth 100000 in go_wp2_with (at_builtin; go_loud (refine wpList_append_row rfl _ _ 25 rfl flatS w.heap.size 9 info_str rfl Try.underlying25 _ _ [] x rfl rfl (Row.lit0 flatS w 9 (Nat.le_refl _)) (Ty.rd_below (by repeat' (first | (with_reducible exact Below.refl _ _) | (with_reducible assumption) | (with_reducible refine bel_set ?_ (by (try dsimp only); omega) _) | (with_reducible refine bel_alloc ?_ _) | (with_reducible refine bel_drewN ?_ _) | (with_reducible refine bel_drew ?_))) h) ?_ ?_ ?_ ?_))
    case refine_1 => simp only [List.length_nil]; omega
    case refine_2 => simp only [List.length_nil]; unfold maxLen; omega
    case refine_3 => simp only [World.size_alloc]; omega
    case refine_4 =>
      intro v' w' hr' hg'
      have hb' : Below w.heap.size w w' := bel_grown (by repeat' (first | (with_reducible exact Below.refl _ _) | (with_reducible assumption) | (with_reducible refine bel_set ?_ (by (try dsimp only); omega) _) | (with_reducible refine bel_alloc ?_ _) | (with_reducible refine bel_drewN ?_ _) | (with_reducible refine bel_drew ?_))) (by (try simp only [World.size_alloc, World.size_setCell, size_drewN, World.size_drew]); omega) hg' (fun g hg => by simp [Value.ownBlock] at hg; omega)
      have HR' := Lib.hid hr'
      clear hr'
      go_wp2
      go_ret
      exact ⟨_, rfl, HR'.out, hb'⟩
set_option maxHeartbeats 1000000 in
theorem C_impl_copyName (w : World) (cs : List Value) (x : List (List UInt8)) (h : (Ty.sl .str).rd w cs x) (hx : x.length ≤ 1000000000000) :
    Calls Try.prog 71 #[.agg cs.toArray] w (RetAgg w (.sl .str) x) := by
  obtain ⟨A0, c0, rfl⟩ := Ty.rd_slv h
  go_enter Try.func71, Try.ntmps71
  go_wp2_with fail
  refine (C_slices_Clone_str _ _ x (Ty.rd_below (by repeat' (first | (with_reducible exact Below.refl _ _) | (with_reducible assumption) | (with_reducible refine bel_set ?_ (by (try dsimp only); omega) _) | (with_reducible refine bel_alloc ?_ _) | (with_reducible refine bel_drewN ?_ _) | (with_reducible refine bel_drew ?_))) h) (by omega)).mono ?_
  rintro e w1 ⟨v1, rfl, hr1, hb1⟩
  obtain ⟨A1, c1, fp1, rfl, how1, hfr1⟩ := hr1.own hb1.size
  have hw1 : Below w.heap.size w w1 := bel_trans (by repeat' (first | (with_reducible exact Below.refl _ _) | (with_reducible assumption) | (with_reducible refine bel_set ?_ (by (try dsimp only); omega) _) | (with_reducible refine bel_alloc ?_ _) | (with_reducible refine bel_drewN ?_ _) | (with_reducible refine bel_drew ?_))) hb1
  obtain ⟨hc1, hf1⟩ := bcell hb1
  have hz1 := hb1.size
  simp only [World.size_alloc] at hz1 hfr1
  have z0 : w.heap.size < w1.heap.size := by omega
  have z1 : w.heap.size + 1 < w1.heap.size := by omega
  clear hr1
  go_wp2
  refine bodyPost_ret (v := .agg #[.slice A1 (List.length x) c1]) (by simp [results, Try.results71, go_sem, hc1, hf1, z0, z1]) rfl ?_
  exact ⟨_, fp1, rfl, Ty.ow_keep (by intro b hb'; have hb'' := (hfr1).2 b hb'; (try simp only [World.size_alloc, World.size_setCell, size_drewN, World.size_drew] at hb''); repeat (first | (with_reducible rfl) | (rw [Below.heap_setCell _ _ _ _ (by (try dsimp only); omega)]) | (rw [Below.heap_alloc _ _ _ (by simp only [World.size_alloc, World.size_setCell]; omega)]))) how1, (hfr1.mono (by (try simp only [World.size_alloc, World.size_setCell, size_drewN, World.size_drew]); omega) (by (try simp only [World.size_alloc, World.size_setCell, size_drewN, World.size_drew]); omega)), (by repeat' (first | (with_reducible exact Below.refl _ _) | (with_reducible assumption) | (with_reducible refine bel_set ?_ (by (try dsimp only); omega) _) | (with_reducible refine bel_alloc ?_ _) | (with_reducible refine bel_drewN ?_ _) | (with_reducible refine bel_drew ?_)))⟩
set_option maxHeartbeats 1000000 in
theorem C_spec_l4Copy (w : World) (cs : List Value) (x : List (List UInt8)) (h : (Ty.sl .str).rd w cs x) (hx : x.length ≤ 1000000000000) :
    Calls Try.prog 73 #[.agg cs.toArray] w (RetAgg w (.sl .str) x) := by
  obtain ⟨A0, c0, rfl⟩ := Ty.rd_slv h
  have hl0 : Row flatS (((w.alloc (.cells #[.slice A0 x.length c0] 27)).alloc (.cells #[.slice none 0 0] 27)).alloc (.cells #[] 9)) (w.heap.size + 1 + 1) 9 (.slice (some ⟨w.heap.size + 1 + 1, 0, none⟩) 0 0) [] := by
    have := Row.lit0 flatS ((w.alloc (.cells #[.slice A0 x.length c0] 27)).alloc (.cells #[.slice none 0 0] 27)) 9 (base := w.heap.size + 1 + 1) (by simp only [World.size_alloc]; omega)
    simp only [World.size_alloc] at this
    exact this
  have HL0 := Lib.hid hl0
  clear hl0
  go_enter Try.func73, Try.ntmps73
  set_option maxRecDepth 100000 in go_wp2_with (at_builtin; go_loud (refine wpList_append_row rfl _ _ 25 rfl flatS (w.heap.size + 1 + 1) 9 info_str rfl Try.underlying25 _ _ [] x rfl rfl HL0.out (Ty.rd_below (by repeat' (first | (with_reducible exact Below.refl _ _) | (with_reducible assumption) | (with_reducible refine bel_set ?_ (by (try dsimp only); omega) _) | (with_reducible refine bel_alloc ?_ _) | (with_reducible refine bel_drewN ?_ _) | (with_reducible refine bel_drew ?_))) h) ?_ ?_ ?_ ?_))
  case refine_1 => simp only [List.length_nil]; omega
  case refine_2 => simp only [List.length_nil]; unfold maxLen; omega
  case refine_3 => simp only [World.size_alloc]; omega
  intro v1 w1 hr1 hg1
  have hb1 : Below ((w.alloc (.cells #[.slice A0 x.length c0] 27)).alloc (.cells #[.slice none 0 0] 27)).heap.size ((w.alloc (.cells #[.slice A0 x.length c0] 27)).alloc (.cells #[.slice none 0 0] 27)) w1 := bel_grown (bel_alloc (Below.refl _ _) _) (by simp only [World.size_alloc]; omega) hg1 (fun g hg => by simp [Value.ownBlock] at hg; simp only [World.size_alloc]; omega)
  have hz1 := hb1.size
  simp only [World.size_alloc] at hz1
  obtain ⟨A1, c1, fp1, rfl, how1, hfr1⟩ := hr1.own (by omega)
  have hw1 : Below w.heap.size w w1 := bel_trans (by repeat' (first | (with_reducible exact Below.refl _ _) | (with_reducible assumption) | (with_reducible refine bel_set ?_ (by (try dsimp only); omega) _) | (with_reducible refine bel_alloc ?_ _) | (with_reducible refine bel_drewN ?_ _) | (with_reducible refine bel_drew ?_))) hb1
  obtain ⟨hc1, hf1⟩ := bcell hb1
  have z0 : w.heap.size < w1.heap.size := by omega
  have z1 : w.heap.size + 1 < w1.heap.size := by omega
  clear hr1
  go_wp2
  refine bodyPost_ret (v := .agg #[.slice A1 (List.length x) c1]) (by simp [results, Try.results73, go_sem, hc1, hf1, z0, z1]) rfl ?_
  exact ⟨_, fp1, rfl, Ty.ow_keep (by intro b hb'; have hb'' := (hfr1).2 b hb'; (try simp only [World.size_alloc, World.size_setCell, size_drewN, World.size_drew] at hb''); repeat (first | (with_reducible rfl) | (rw [Below.heap_setCell _ _ _ _ (by (try dsimp only); omega)]) | (rw [Below.heap_alloc _ _ _ (by simp only [World.size_alloc, World.size_setCell]; omega)]))) how1, (hfr1.mono (by (try simp only [World.size_alloc, World.size_setCell, size_drewN, World.size_drew]); omega) (by (try simp only [World.size_alloc, World.size_setCell, size_drewN, World.size_drew]); omega)), (by repeat' (first | (with_reducible exact Below.refl _ _) | (with_reducible assumption) | (with_reducible refine bel_set ?_ (by (try dsimp only); omega) _) | (with_reducible refine bel_alloc ?_ _) | (with_reducible refine bel_drewN ?_ _) | (with_reducible refine bel_drew ?_)))⟩
end Go.Proofs.Ytldgbnlcnlfmeaa

/- Copies of seen nonces. -/
namespace Go.Proofs.Ytldgbnlcnlfmeaa
open Go.RowKit
set_option linter.unusedVariables false
set_option linter.unusedSimpArgs false

theorem ow_SeenNonce_mk {w : World} {A : Option Addr} {c : Nat} {x : Ty.D tSeenNonce} {f : List Nat} (h : (Ty.sl .str).ow w [.slice A (List.length x.1) c] x.1 f) (b : -9223372036854775808 ≤ x.2 ∧ x.2 ≤ 9223372036854775807) :
    Ty.ow w tSeenNonce [.slice A (List.length x.1) c, .int .i64 x.2] x f := ⟨[_], [_], f, [], rfl, (List.append_nil _).symm, h, ⟨rfl, b⟩, rfl⟩
set_option maxHeartbeats 2000000 in
theorem C_impl_copySeen (w : World) (v : Value) (x : List (Ty.D tSeenNonce)) (h : (Ty.sl tSeenNonce).rd w [v] x) (s0 : Ty.bulk (.sl tSeenNonce) x ≤ 1000000000) :
    Calls Try.prog 70 #[v] w (RetDRow tSeenNonce w 38 x) := by
  obtain ⟨A, c, rfl, hc, hm, hn⟩ := Ty.rd_sl h
  have hxl := Ty.bulk_len s0
  go_enter Try.func70, Try.ntmps70
  go_wp2
  go_loopw [3, 9] (fun l i wr => ∃ k : Nat, k ≤ x.length ∧ i = .int .i64 k ∧ DRow tSeenNonce wr w.heap.size 38 l (x.take k) ∧ Below w.heap.size w wr) (fun _ i _ => x.length - (intOf i).toNat)
  case atStart => exact ⟨0, by omega, rfl, DRow.lit0 tSeenNonce w 38 (Nat.le_refl _), (by repeat' (first | (with_reducible exact Below.refl _ _) | (with_reducible assumption) | (with_reducible refine bel_set ?_ (by (try dsimp only); omega) _) | (with_reducible refine bel_alloc ?_ _) | (with_reducible refine bel_drewN ?_ _) | (with_reducible refine bel_drew ?_)))⟩
  case round =>
    obtain ⟨k, hk, rfl, hr, hb⟩ := hrel
    have HR := Lib.hid hr
    clear hr
    by_cases hlt : k < x.length
    · obtain ⟨b, o, ds, rfl, hl, hcell, hrd⟩ := Ty.rd_at (Ty.rd_below hb h) hlt
      obtain ⟨Aa0, ca0, rfl, sag0, sag1⟩ := rd_SeenNonce hrd
      have e0 : wr.cell? ⟨b, o + k * 2, none⟩ = some (.slice Aa0 (List.length x[k].1) ca0) := by simpa [Ty.sz] using hcell 0 (by decide)
      have e1 : wr.cell? ⟨b, o + k * 2 + 1, none⟩ = some (.int .i64 x[k].2) := by simpa [Ty.sz] using hcell 1 (by decide)
      clear hcell hl
      have hbk : Ty.bulk tSeenNonce x[k] ≤ 1000000000 := Ty.bulk_at s0 hlt
      have hbk2 : x[k].1.length ≤ 1000000000000 := by
        have h1 : Ty.bulk (.sl .str) x[k].1 + 0 ≤ 1000000000 := hbk
        have := Ty.bulk_len (e := .str) (x := x[k].1) (n := 1000000000) (by omega)
        omega
      have HP := Lib.hid (List.take_succ_eq_append_getElem hlt)
      have HL := Lib.hid (show (x.take k).length = k from by rw [List.length_take]; omega)
      have HS : Hid (∀ W, Below (wr.alloc (.cells #[.slice Aa0 (List.length x[k].1) ca0, .int .i64 x[k].2] 38)).heap.size (wr.alloc (.cells #[.slice Aa0 (List.length x[k].1) ca0, .int .i64 x[k].2] 38)) W →
          Below w.heap.size w W ∧ W.cell? ⟨wr.heap.size, 0, none⟩ = some (.slice Aa0 (List.length x[k].1) ca0) ∧ W.cell? ⟨wr.heap.size, 1, none⟩ = some (.int .i64 x[k].2)) := fun W hW =>
        ⟨bel_trans hb (bel_trans (by repeat' (first | (with_reducible exact Below.refl _ _) | (with_reducible assumption) | (with_reducible refine bel_set ?_ (by (try dsimp only); omega) _) | (with_reducible refine bel_alloc ?_ _) | (with_reducible refine bel_drewN ?_ _) | (with_reducible refine bel_drew ?_))) hW), (hW.cell (by simp only [World.size_alloc]; omega)).trans (cell_new wr _ _ 0 rfl), (hW.cell (by simp only [World.size_alloc]; omega)).trans (cell_new wr _ _ 1 rfl)⟩
      have hv0 : Below (wr.alloc (.cells #[.slice Aa0 (List.length x[k].1) ca0, .int .i64 x[k].2] 38)).heap.size (wr.alloc (.cells #[.slice Aa0 (List.length x[k].1) ca0, .int .i64 x[k].2] 38)) (wr.alloc (.cells #[.slice Aa0 (List.length x[k].1) ca0, .int .i64 x[k].2] 38)) := Below.refl _ _
      go_wp2_with fail
      set_option maxRecDepth 100000 in go_region_held3 (fun W => Below w.heap.size w W ∧ W.cell? ⟨wr.heap.size, 0, none⟩ = some (.slice Aa0 (List.length x[k].1) ca0) ∧ W.cell? ⟨wr.heap.size, 1, none⟩ = some (.int .i64 x[k].2)) (first | (exact hz) | (exact HS.out _ (by repeat' (first | (with_reducible exact Below.refl _ _) | (with_reducible assumption) | (with_reducible refine bel_set ?_ (by (try dsimp only); omega) _) | (with_reducible refine bel_alloc ?_ _) | (with_reducible refine bel_drewN ?_ _) | (with_reducible refine bel_drew ?_)))))
        (first
          | (go_at_call 71; (with_reducible refine (C_impl_copyName _ _ x[k].1 (Ty.rd_below (bel_trans (bel_alloc (Below.refl _ _) _) (by repeat' (first | (with_reducible exact Below.refl _ _) | (with_reducible assumption) | (with_reducible refine bel_set ?_ (by (try dsimp only); omega) _) | (with_reducible refine bel_alloc ?_ _) | (with_reducible refine bel_drewN ?_ _) | (with_reducible refine bel_drew ?_)))) sag0) hbk2).mono ?_); rintro e w1 ⟨cs1, fp1, rfl, how1, hfr1, hb1⟩; obtain ⟨A1, c1, rfl⟩ := Ty.ow_slv how1; have hv1 : Below (wr.alloc (.cells #[.slice Aa0 (List.length x[k].1) ca0, .int .i64 x[k].2] 38)).heap.size (wr.alloc (.cells #[.slice Aa0 (List.length x[k].1) ca0, .int .i64 x[k].2] 38)) w1 := bel_trans (by repeat' (first | (with_reducible exact Below.refl _ _) | (with_reducible assumption) | (with_reducible refine bel_set ?_ (by (try dsimp only); omega) _) | (with_reducible refine bel_alloc ?_ _) | (with_reducible refine bel_drewN ?_ _) | (with_reducible refine bel_drew ?_))) hb1)
          | ((refine step_append_drow (by rfl) _ _ 24 (by rfl) wr w.heap.size 38 info_SeenNonce rfl Try.underlying24 _ _ (x.take k) [x[k]] (by rfl) (by rfl) HR.out (bel_trans (bel_alloc (Below.refl _ _) _) (by repeat' (first | (with_reducible exact Below.refl _ _) | (with_reducible assumption) | (with_reducible refine bel_set ?_ (by (try dsimp only); omega) _) | (with_reducible refine bel_alloc ?_ _) | (with_reducible refine bel_drewN ?_ _) | (with_reducible refine bel_drew ?_)))) (Src.lit 38 (ow_SeenNonce_mk how1 sag1) (hfr1.mono (by simp only [size_drewN, World.size_drew, World.size_alloc]; omega) (Nat.le_refl _))) (by rw [HL.out, List.length_singleton]; omega) (by rw [HL.out, List.length_singleton]; unfold maxLen; omega) hb.size ?_); intro v' w' hr' hg'; have hq := HS.out _ (bel_alloc hv1 (.cells #[.slice A1 (List.length x[k].1) c1, .int .i64 x[k].2] 38)); have hne : some wr.heap.size ≠ u3.ownBlock := fun e => Nat.lt_irrefl _ (HR.out.block _ e.symm).2; have hz : Below w.heap.size w w' ∧ w'.cell? ⟨wr.heap.size, 0, none⟩ = some (.slice Aa0 (List.length x[k].1) ca0) ∧ w'.cell? ⟨wr.heap.size, 1, none⟩ = some (.int .i64 x[k].2) := ⟨bel_grown hq.1 hq.1.size hg' (fun g hg => (HR.out.block g hg).1), hg'.cell hq.2.1 hne, hg'.cell hq.2.2 hne⟩))
      have HR' := Lib.hid hr'
      clear hr'
      go_wp2
      go_roundw
      case rel => exact ⟨k + 1, by omega, by go_num, by rw [HP.out]; exact HR'.out, hz.1⟩
      case measure => simp [intOf]; omega
    · have HE : Hid (x.take k = x) := List.take_of_length_le (by omega)
      go_wp2
      go_ret
      exact ⟨_, rfl, by rw [HE.out] at HR; exact HR.out, hb⟩
set_option maxHeartbeats 2000000 in
theorem C_spec_l13Seen (w : World) (v : Value) (x : List (Ty.D tSeenNonce)) (h : (Ty.sl tSeenNonce).rd w [v] x) (s0 : Ty.bulk (.sl tSeenNonce) x ≤ 1000000000) :
    Calls Try.prog 72 #[v] w (RetDRow tSeenNonce w 38 x) := by
  obtain ⟨A, c, rfl, hc, hm, hn⟩ := Ty.rd_sl h
  have hxl := Ty.bulk_len s0
  go_enter Try.func72, Try.ntmps72
  go_wp2
  go_loopw [3, 4] (fun l i wr => ∃ k : Nat, k ≤ x.length ∧ i = .int .i64 k ∧ DRow tSeenNonce wr w.heap.size 38 l (x.take k) ∧ Below w.heap.size w wr) (fun _ i _ => x.length - (intOf i).toNat)
  case atStart => exact ⟨0, by omega, rfl, DRow.lit0 tSeenNonce w 38 (Nat.le_refl _), (by repeat' (first | (with_reducible exact Below.refl _ _) | (with_reducible assumption) | (with_reducible refine bel_set ?_ (by (try dsimp only); omega) _) | (with_reducible refine bel_alloc ?_ _) | (with_reducible refine bel_drewN ?_ _) | (with_reducible refine bel_drew ?_)))⟩
  case round =>
    obtain ⟨k, hk, rfl, hr, hb⟩ := hrel
    have HR := Lib.hid hr
    clear hr
    by_cases hlt : k < x.length
    · obtain ⟨b, o, ds, rfl, hl, hcell, hrd⟩ := Ty.rd_at (Ty.rd_below hb h) hlt
      obtain ⟨Aa0, ca0, rfl, sag0, sag1⟩ := rd_SeenNonce hrd
      have e0 : wr.cell? ⟨b, o + k * 2, none⟩ = some (.slice Aa0 (List.length x[k].1) ca0) := by simpa [Ty.sz] using hcell 0 (by decide)
      have e1 : wr.cell? ⟨b, o + k * 2 + 1, none⟩ = some (.int .i64 x[k].2) := by simpa [Ty.sz] using hcell 1 (by decide)
      clear hcell hl
      have hbk : Ty.bulk tSeenNonce x[k] ≤ 1000000000 := Ty.bulk_at s0 hlt
      have hbk2 : x[k].1.length ≤ 1000000000000 := by
        have h1 : Ty.bulk (.sl .str) x[k].1 + 0 ≤ 1000000000 := hbk
        have := Ty.bulk_len (e := .str) (x := x[k].1) (n := 1000000000) (by omega)
        omega
      have HP := Lib.hid (List.take_succ_eq_append_getElem hlt)
      have HL := Lib.hid (show (x.take k).length = k from by rw [List.length_take]; omega)
      go_wp2_with fail
      refine (C_spec_l4Copy _ _ x[k].1 sag0 hbk2).mono ?_
      rintro e w1 ⟨cs1, fp1, rfl, how1, hfr1, hb1⟩
      obtain ⟨A1, c1, rfl⟩ := Ty.ow_slv how1
      have hlb0 : b < w.heap.size := by
        obtain ⟨b', o', ds', he', hl', hc', _⟩ := Ty.rd_at h hlt
        injection he' with he'
        injection he' with he1 he2
        have := hc' 0 (by decide)
        rw [List.getElem?_eq_getElem (by rw [hl']; decide)] at this
        have := World.block_lt_of_cell? w _ this
        rw [he1]; exact this
      have hlb1 : b < wr.heap.size := Nat.lt_of_lt_of_le hlb0 hb.size
      have hlb : b < w1.heap.size := Nat.lt_of_lt_of_le hlb1 hb1.size
      have q1 : w1.cell? ⟨b, o + k * 2 + 1, none⟩ = some (.int .i64 x[k].2) := (hb1.cell (p := ⟨b, o + k * 2 + 1, none⟩) hlb1).trans e1
      have HS : Hid (∀ W, Below (w1.alloc (.cells #[.slice A1 (List.length x[k].1) c1] 27)).heap.size (w1.alloc (.cells #[.slice A1 (List.length x[k].1) c1] 27)) W →
          Below w.heap.size w W ∧ W.cell? ⟨w1.heap.size, 0, none⟩ = some (.slice A1 (List.length x[k].1) c1) ∧ W.cell? ⟨b, o + k * 2 + 1, none⟩ = some (.int .i64 x[k].2)) := fun W hW =>
        ⟨bel_trans hb (bel_trans hb1 (bel_trans (by repeat' (first | (with_reducible exact Below.refl _ _) | (with_reducible assumption) | (with_reducible refine bel_set ?_ (by (try dsimp only); omega) _) | (with_reducible refine bel_alloc ?_ _) | (with_reducible refine bel_drewN ?_ _) | (with_reducible refine bel_drew ?_))) hW)), (hW.cell (by simp only [World.size_alloc]; omega)).trans (cell_new w1 _ _ 0 rfl), (hW.cell (by simp only [World.size_alloc]; omega)).trans ((World.cell?_alloc_lt _ _ _ hlb).trans q1)⟩
      have hv0 : Below (w1.alloc (.cells #[.slice A1 (List.length x[k].1) c1] 27)).heap.size (w1.alloc (.cells #[.slice A1 (List.length x[k].1) c1] 27)) (w1.alloc (.cells #[.slice A1 (List.length x[k].1) c1] 27)) := Below.refl _ _
      have sag1' := sag1
      go_wp2_with fail
      set_option maxRecDepth 100000 in go_region_held3 (fun W => Below w.heap.size w W ∧ W.cell? ⟨w1.heap.size, 0, none⟩ = some (.slice A1 (List.length x[k].1) c1) ∧ W.cell? ⟨b, o + k * 2 + 1, none⟩ = some (.int .i64 x[k].2)) (first | (exact hz) | (exact HS.out _ (by repeat' (first | (with_reducible exact Below.refl _ _) | (with_reducible assumption) | (with_reducible refine bel_set ?_ (by (try dsimp only); omega) _) | (with_reducible refine bel_alloc ?_ _) | (with_reducible refine bel_drewN ?_ _) | (with_reducible refine bel_drew ?_)))))
        (first
          | ((refine step_append_drow (by rfl) _ _ 24 (by rfl) wr w.heap.size 38 info_SeenNonce rfl Try.underlying24 _ _ (x.take k) [x[k]] (by rfl) (by rfl) HR.out (bel_trans hb1 (bel_trans (bel_alloc (Below.refl _ _) _) (by repeat' (first | (with_reducible exact Below.refl _ _) | (with_reducible assumption) | (with_reducible refine bel_set ?_ (by (try dsimp only); omega) _) | (with_reducible refine bel_alloc ?_ _) | (with_reducible refine bel_drewN ?_ _) | (with_reducible refine bel_drew ?_))))) (Src.drew (Src.litE 38 (ow_SeenNonce_mk (Ty.ow_bel (by repeat' (first | (with_reducible exact Below.refl _ _) | (with_reducible assumption) | (with_reducible refine bel_set ?_ (by (try dsimp only); omega) _) | (with_reducible refine bel_alloc ?_ _) | (with_reducible refine bel_drewN ?_ _) | (with_reducible refine bel_drew ?_))) how1) sag1) (hfr1.mono (Nat.le_refl _) (by simp only [size_drewN, World.size_drew, World.size_alloc]; omega)) (by simp only [World.size_alloc]))) (by rw [HL.out, List.length_singleton]; omega) (by rw [HL.out, List.length_singleton]; unfold maxLen; omega) hb.size ?_); intro v' w' hr' hg'; have hq := HS.out _ (bel_drew (bel_alloc hv0 (.cells #[.slice A1 (List.length x[k].1) c1, .int .i64 x[k].2] 38))); have hne : some w1.heap.size ≠ u3.ownBlock := fun e => (by have := (HR.out.block _ e.symm).2; have := hb1.size; omega); have hne2 : some b ≠ u3.ownBlock := fun e => (by have := (HR.out.block _ e.symm).1; omega); have hz : Below w.heap.size w w' ∧ w'.cell? ⟨w1.heap.size, 0, none⟩ = some (.slice A1 (List.length x[k].1) c1) ∧ w'.cell? ⟨b, o + k * 2 + 1, none⟩ = some (.int .i64 x[k].2) := ⟨bel_grown hq.1 hq.1.size hg' (fun g hg => (HR.out.block g hg).1), hg'.cell hq.2.1 hne, hg'.cell hq.2.2 hne2⟩))
      have HR' := Lib.hid hr'
      clear hr'
      go_wp2
      go_roundw
      case rel => exact ⟨k + 1, by omega, by go_num, by rw [HP.out]; exact HR'.out, hz.1⟩
      case measure => simp [intOf]; omega
    · have HE : Hid (x.take k = x) := List.take_of_length_le (by omega)
      go_wp2
      go_ret
      exact ⟨_, rfl, by rw [HE.out] at HR; exact HR.out, hb⟩
end Go.Proofs.Ytldgbnlcnlfmeaa

/- Marks on slices of strings, bytes, integers. -/
namespace Go.Proofs.Ytldgbnlcnlfmeaa
open Go.RowKit
set_option linter.unusedVariables false
set_option linter.unusedSimpArgs false

theorem byte_val (n : Int) : [Value.int .u8 ((UInt8.ofNat (n % 256).toNat).toNat : Int)] = [.int .u8 (n % 256)] := by
  rw [UInt8.toNat_ofNat']
  congr 2
  omega
end Go.Proofs.Ytldgbnlcnlfmeaa

/- The helper functions that write marks and ask for them, for each type. Printed by a program. -/
namespace Go.Proofs.Ytldgbnlcnlfmeaa
open Go.RowKit
set_option linter.unusedVariables false
set_option linter.unusedSimpArgs false

theorem rdInt_of {V D : Int} (h : V = D) (h1 : -9223372036854775808 ≤ V) (h2 : V ≤ 9223372036854775807) : rdInt [.int .i64 V] D := by subst h; exact ⟨rfl, h1, h2⟩

theorem owl_Name {w : World} {cs : List Value} {x : Ty.D (.sl .str)} {fp : List Nat} (h : Ty.ow w (.sl .str) cs x fp) : ∃ (A0 : Option Addr) (c0 : Nat) (f0 : List Nat), cs = [.slice A0 (List.length x) c0] ∧ fp = f0 ∧ (Ty.ow w (.sl .str) [.slice A0 (List.length x) c0] x f0) := by
  obtain ⟨A0, c0, rfl⟩ := Ty.ow_slv h
  exact ⟨A0, c0, fp, rfl, rfl, h⟩

theorem owl_Pattern {w : World} {cs : List Value} {x : Ty.D (.sl .str)} {fp : List Nat} (h : Ty.ow w (.sl .str) cs x fp) : ∃ (A0 : Option Addr) (c0 : Nat) (f0 : List Nat), cs = [.slice A0 (List.length x) c0] ∧ fp = f0 ∧ (Ty.ow w (.sl .str) [.slice A0 (List.length x) c0] x f0) := by
  obtain ⟨A0, c0, rfl⟩ := Ty.ow_slv h
  exact ⟨A0, c0, fp, rfl, rfl, h⟩

theorem owl_Interest {w : World} {cs : List Value} {x : Ty.D tInterest} {fp : List Nat} (h : Ty.ow w tInterest cs x fp) : ∃ (A0 : Option Addr) (c0 : Nat) (f0 : List Nat), cs = [.slice A0 (List.length x.1) c0, .int .i64 x.2.1, .int .i64 x.2.2.1, .int .i64 x.2.2.2] ∧ fp = (f0 ++ ([] ++ ([] ++ []))) ∧ (Ty.ow w (.sl .str) [.slice A0 (List.length x.1) c0] x.1 f0) ∧ (-9223372036854775808 ≤ x.2.1 ∧ x.2.1 ≤ 9223372036854775807) ∧ (-9223372036854775808 ≤ x.2.2.1 ∧ x.2.2.1 ≤ 9223372036854775807) ∧ (-9223372036854775808 ≤ x.2.2.2 ∧ x.2.2.2 ≤ 9223372036854775807) := by
  obtain ⟨k0, r0, f0, t0, rfl, rfl, g0, q0⟩ := h
  obtain ⟨k1, r1, f1, t1, rfl, rfl, g1, q1⟩ := q0
  obtain ⟨k2, r2, f2, t2, rfl, rfl, g2, q2⟩ := q1
  have g3 := q2
  obtain ⟨A0, c0, rfl⟩ := Ty.ow_slv g0
  obtain ⟨⟨rfl, b1⟩, rfl⟩ := g1
  obtain ⟨⟨rfl, b2⟩, rfl⟩ := g2
  obtain ⟨⟨rfl, b3⟩, rfl⟩ := g3
  exact ⟨A0, c0, f0, rfl, rfl, g0, b1, b2, b3⟩

theorem owl_Data {w : World} {cs : List Value} {x : Ty.D tData} {fp : List Nat} (h : Ty.ow w tData cs x fp) : ∃ (A0 : Option Addr) (c0 : Nat) (A1 : Option Addr) (c1 : Nat) (A2 : Option Addr) (c2 : Nat) (f0 : List Nat) (f1 : List Nat) (f2 : List Nat), cs = [.slice A0 (List.length x.1) c0, .slice A1 (List.length x.2.1) c1, .slice A2 (List.length x.2.2.1) c2, .int .i64 x.2.2.2.1, .int .i64 x.2.2.2.2] ∧ fp = (f0 ++ (f1 ++ (f2 ++ ([] ++ [])))) ∧ (Ty.ow w (.sl .str) [.slice A0 (List.length x.1) c0] x.1 f0) ∧ (Ty.ow w (.sl .byte) [.slice A1 (List.length x.2.1) c1] x.2.1 f1) ∧ (Ty.ow w (.sl .str) [.slice A2 (List.length x.2.2.1) c2] x.2.2.1 f2) ∧ (-9223372036854775808 ≤ x.2.2.2.1 ∧ x.2.2.2.1 ≤ 9223372036854775807) ∧ (-9223372036854775808 ≤ x.2.2.2.2 ∧ x.2.2.2.2 ≤ 9223372036854775807) := by
  obtain ⟨k0, r0, f0, t0, rfl, rfl, g0, q0⟩ := h
  obtain ⟨k1, r1, f1, t1, rfl, rfl, g1, q1⟩ := q0
  obtain ⟨k2, r2, f2, t2, rfl, rfl, g2, q2⟩ := q1
  obtain ⟨k3, r3, f3, t3, rfl, rfl, g3, q3⟩ := q2
  have g4 := q3
  obtain ⟨A0, c0, rfl⟩ := Ty.ow_slv g0
  obtain ⟨A1, c1, rfl⟩ := Ty.ow_slv g1
  obtain ⟨A2, c2, rfl⟩ := Ty.ow_slv g2
  obtain ⟨⟨rfl, b3⟩, rfl⟩ := g3
  obtain ⟨⟨rfl, b4⟩, rfl⟩ := g4
  exact ⟨A0, c0, A1, c1, A2, c2, f0, f1, f2, rfl, rfl, g0, g1, g2, b3, b4⟩

theorem owl_Key {w : World} {cs : List Value} {x : Ty.D tKey} {fp : List Nat} (h : Ty.ow w tKey cs x fp) : ∃ (A0 : Option Addr) (c0 : Nat) (f0 : List Nat), cs = [.slice A0 (List.length x.1) c0, .int .i64 x.2] ∧ fp = (f0 ++ []) ∧ (Ty.ow w (.sl .str) [.slice A0 (List.length x.1) c0] x.1 f0) ∧ (-9223372036854775808 ≤ x.2 ∧ x.2 ≤ 9223372036854775807) := by
  obtain ⟨k0, r0, f0, t0, rfl, rfl, g0, q0⟩ := h
  have g1 := q0
  obtain ⟨A0, c0, rfl⟩ := Ty.ow_slv g0
  obtain ⟨⟨rfl, b1⟩, rfl⟩ := g1
  exact ⟨A0, c0, f0, rfl, rfl, g0, b1⟩

theorem owl_Rule {w : World} {cs : List Value} {x : Ty.D tRule} {fp : List Nat} (h : Ty.ow w tRule cs x fp) : ∃ (A0 : Option Addr) (c0 : Nat) (A1 : Option Addr) (c1 : Nat) (f0 : List Nat) (f1 : List Nat), cs = [.slice A0 (List.length x.1) c0, .slice A1 (List.length x.2) c1] ∧ fp = (f0 ++ f1) ∧ (Ty.ow w (.sl .str) [.slice A0 (List.length x.1) c0] x.1 f0) ∧ (Ty.ow w (.sl .str) [.slice A1 (List.length x.2) c1] x.2 f1) := by
  obtain ⟨k0, r0, f0, t0, rfl, rfl, g0, q0⟩ := h
  have g1 := q0
  obtain ⟨A0, c0, rfl⟩ := Ty.ow_slv g0
  obtain ⟨A1, c1, rfl⟩ := Ty.ow_slv g1
  exact ⟨A0, c0, A1, c1, f0, t0, rfl, rfl, g0, g1⟩

theorem owl_Requester {w : World} {cs : List Value} {x : Ty.D tRequester} {fp : List Nat} (h : Ty.ow w tRequester cs x fp) : cs = [.int .i64 x.1, .int .i64 x.2.1, .int .i64 x.2.2] ∧ fp = ([] ++ ([] ++ [])) ∧ (-9223372036854775808 ≤ x.1 ∧ x.1 ≤ 9223372036854775807) ∧ (-9223372036854775808 ≤ x.2.1 ∧ x.2.1 ≤ 9223372036854775807) ∧ (-9223372036854775808 ≤ x.2.2 ∧ x.2.2 ≤ 9223372036854775807) := by
  obtain ⟨k0, r0, f0, t0, rfl, rfl, g0, q0⟩ := h
  obtain ⟨k1, r1, f1, t1, rfl, rfl, g1, q1⟩ := q0
  have g2 := q1
  obtain ⟨⟨rfl, b0⟩, rfl⟩ := g0
  obtain ⟨⟨rfl, b1⟩, rfl⟩ := g1
  obtain ⟨⟨rfl, b2⟩, rfl⟩ := g2
  exact ⟨rfl, rfl, b0, b1, b2⟩

theorem owl_SeenNonce {w : World} {cs : List Value} {x : Ty.D tSeenNonce} {fp : List Nat} (h : Ty.ow w tSeenNonce cs x fp) : ∃ (A0 : Option Addr) (c0 : Nat) (f0 : List Nat), cs = [.slice A0 (List.length x.1) c0, .int .i64 x.2] ∧ fp = (f0 ++ []) ∧ (Ty.ow w (.sl .str) [.slice A0 (List.length x.1) c0] x.1 f0) ∧ (-9223372036854775808 ≤ x.2 ∧ x.2 ≤ 9223372036854775807) := by
  obtain ⟨k0, r0, f0, t0, rfl, rfl, g0, q0⟩ := h
  have g1 := q0
  obtain ⟨A0, c0, rfl⟩ := Ty.ow_slv g0
  obtain ⟨⟨rfl, b1⟩, rfl⟩ := g1
  exact ⟨A0, c0, f0, rfl, rfl, g0, b1⟩

theorem owl_CacheEntry {w : World} {cs : List Value} {x : Ty.D tCacheEntry} {fp : List Nat} (h : Ty.ow w tCacheEntry cs x fp) : ∃ (A00 : Option Addr) (c00 : Nat) (A01 : Option Addr) (c01 : Nat) (A02 : Option Addr) (c02 : Nat) (f00 : List Nat) (f01 : List Nat) (f02 : List Nat), cs = [.slice A00 (List.length x.1.1) c00, .slice A01 (List.length x.1.2.1) c01, .slice A02 (List.length x.1.2.2.1) c02, .int .i64 x.1.2.2.2.1, .int .i64 x.1.2.2.2.2, .int .i64 x.2] ∧ fp = ((f00 ++ (f01 ++ (f02 ++ ([] ++ [])))) ++ []) ∧ (Ty.ow w (.sl .str) [.slice A00 (List.length x.1.1) c00] x.1.1 f00) ∧ (Ty.ow w (.sl .byte) [.slice A01 (List.length x.1.2.1) c01] x.1.2.1 f01) ∧ (Ty.ow w (.sl .str) [.slice A02 (List.length x.1.2.2.1) c02] x.1.2.2.1 f02) ∧ (-9223372036854775808 ≤ x.1.2.2.2.1 ∧ x.1.2.2.2.1 ≤ 9223372036854775807) ∧ (-9223372036854775808 ≤ x.1.2.2.2.2 ∧ x.1.2.2.2.2 ≤ 9223372036854775807) ∧ (-9223372036854775808 ≤ x.2 ∧ x.2 ≤ 9223372036854775807) := by
  obtain ⟨k0, r0, f0, t0, rfl, rfl, g0, q0⟩ := h
  have g1 := q0
  obtain ⟨k00, r00, f00, t00, rfl, rfl, g00, q00⟩ := g0
  obtain ⟨k01, r01, f01, t01, rfl, rfl, g01, q01⟩ := q00
  obtain ⟨k02, r02, f02, t02, rfl, rfl, g02, q02⟩ := q01
  obtain ⟨k03, r03, f03, t03, rfl, rfl, g03, q03⟩ := q02
  have g04 := q03
  obtain ⟨A00, c00, rfl⟩ := Ty.ow_slv g00
  obtain ⟨A01, c01, rfl⟩ := Ty.ow_slv g01
  obtain ⟨A02, c02, rfl⟩ := Ty.ow_slv g02
  obtain ⟨⟨rfl, b03⟩, rfl⟩ := g03
  obtain ⟨⟨rfl, b04⟩, rfl⟩ := g04
  obtain ⟨⟨rfl, b1⟩, rfl⟩ := g1
  exact ⟨A00, c00, A01, c01, A02, c02, f00, f01, f02, rfl, rfl, g00, g01, g02, b03, b04, b1⟩

theorem owl_ContentStore {w : World} {cs : List Value} {x : Ty.D tContentStore} {fp : List Nat} (h : Ty.ow w tContentStore cs x fp) : ∃ (A1 : Option Addr) (c1 : Nat) (f1 : List Nat), cs = [.int .i64 x.1, .slice A1 (List.length x.2) c1] ∧ fp = ([] ++ f1) ∧ (-9223372036854775808 ≤ x.1 ∧ x.1 ≤ 9223372036854775807) ∧ (Ty.ow w (.sl tCacheEntry) [.slice A1 (List.length x.2) c1] x.2 f1) := by
  obtain ⟨k0, r0, f0, t0, rfl, rfl, g0, q0⟩ := h
  have g1 := q0
  obtain ⟨⟨rfl, b0⟩, rfl⟩ := g0
  obtain ⟨A1, c1, rfl⟩ := Ty.ow_slv g1
  exact ⟨A1, c1, t0, rfl, rfl, b0, g1⟩

theorem owl_PendingInterest {w : World} {cs : List Value} {x : Ty.D tPendingInterest} {fp : List Nat} (h : Ty.ow w tPendingInterest cs x fp) : ∃ (A0 : Option Addr) (c0 : Nat) (A1 : Option Addr) (c1 : Nat) (f0 : List Nat) (f1 : List Nat), cs = [.slice A0 (List.length x.1) c0, .slice A1 (List.length x.2.1) c1, .int .i64 x.2.2] ∧ fp = (f0 ++ (f1 ++ [])) ∧ (Ty.ow w (.sl .str) [.slice A0 (List.length x.1) c0] x.1 f0) ∧ (Ty.ow w (.sl tRequester) [.slice A1 (List.length x.2.1) c1] x.2.1 f1) ∧ (-9223372036854775808 ≤ x.2.2 ∧ x.2.2 ≤ 9223372036854775807) := by
  obtain ⟨k0, r0, f0, t0, rfl, rfl, g0, q0⟩ := h
  obtain ⟨k1, r1, f1, t1, rfl, rfl, g1, q1⟩ := q0
  have g2 := q1
  obtain ⟨A0, c0, rfl⟩ := Ty.ow_slv g0
  obtain ⟨A1, c1, rfl⟩ := Ty.ow_slv g1
  obtain ⟨⟨rfl, b2⟩, rfl⟩ := g2
  exact ⟨A0, c0, A1, c1, f0, f1, rfl, rfl, g0, g1, b2⟩

theorem owl_TrustPolicy {w : World} {cs : List Value} {x : Ty.D tTrustPolicy} {fp : List Nat} (h : Ty.ow w tTrustPolicy cs x fp) : ∃ (A0 : Option Addr) (c0 : Nat) (A1 : Option Addr) (c1 : Nat) (A2 : Option Addr) (c2 : Nat) (A3 : Option Addr) (c3 : Nat) (f0 : List Nat) (f1 : List Nat) (f2 : List Nat) (f3 : List Nat), cs = [.slice A0 (List.length x.1) c0, .slice A1 (List.length x.2.1) c1, .slice A2 (List.length x.2.2.1) c2, .slice A3 (List.length x.2.2.2) c3] ∧ fp = (f0 ++ (f1 ++ (f2 ++ f3))) ∧ (Ty.ow w (.sl tKey) [.slice A0 (List.length x.1) c0] x.1 f0) ∧ (Ty.ow w (.sl tRule) [.slice A1 (List.length x.2.1) c1] x.2.1 f1) ∧ (Ty.ow w (.sl (.sl .str)) [.slice A2 (List.length x.2.2.1) c2] x.2.2.1 f2) ∧ (Ty.ow w (.sl tData) [.slice A3 (List.length x.2.2.2) c3] x.2.2.2 f3) := by
  obtain ⟨k0, r0, f0, t0, rfl, rfl, g0, q0⟩ := h
  obtain ⟨k1, r1, f1, t1, rfl, rfl, g1, q1⟩ := q0
  obtain ⟨k2, r2, f2, t2, rfl, rfl, g2, q2⟩ := q1
  have g3 := q2
  obtain ⟨A0, c0, rfl⟩ := Ty.ow_slv g0
  obtain ⟨A1, c1, rfl⟩ := Ty.ow_slv g1
  obtain ⟨A2, c2, rfl⟩ := Ty.ow_slv g2
  obtain ⟨A3, c3, rfl⟩ := Ty.ow_slv g3
  exact ⟨A0, c0, A1, c1, A2, c2, A3, c3, f0, f1, f2, t2, rfl, rfl, g0, g1, g2, g3⟩

end Go.Proofs.Ytldgbnlcnlfmeaa
