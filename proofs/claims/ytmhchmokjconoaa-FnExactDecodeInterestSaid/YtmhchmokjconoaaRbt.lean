/- Bytes read out of bytes. -/
import Derived.Test.YtmhchmokjconoaaRvt
import Derived.Test.YtmhchmokjconoaaByt
import Derived.Test.YtmhchmokjconoaaRet
namespace Go.Proofs.Ytmhchmokjconoaa
open Go.RowKit
set_option linter.unusedVariables false
set_option linter.unusedSimpArgs false

def readBytes (b : List UInt8) (a most : Int) : Option (List UInt8 × Nat) := match readVarint b a with
  | none => none
  | some q => if most < q.1 ∨ (b.length : Int) - q.2 < q.1 then none else some ((b.drop q.2).take q.1, q.2 + q.1)
def rb0 (r : Option (List UInt8 × Nat)) : List UInt8 := match r with | none => [] | some q => q.1
def rb1 (r : Option (List UInt8 × Nat)) : Int := match r with | none => 0 | some q => q.2
theorem readBytes_bd {b : List UInt8} {a most : Int} {r : List UInt8 × Nat} (h : readBytes b a most = some r) : (r.1.length : Int) ≤ most ∧ r.1.length ≤ b.length ∧ r.2 ≤ b.length ∧ a < r.2 := by
  unfold readBytes at h
  cases hv : readVarint b a with
  | none => rw [hv] at h; cases h
  | some q =>
    rw [hv] at h
    simp only at h
    have hb := readVarint_bd hv
    split at h
    · cases h
    · rename_i hn
      injection h with h; subst h
      have h1 : ((b.drop q.2).take q.1).length ≤ q.1 := List.length_take_le _ _
      have h2 : ((b.drop q.2).take q.1).length ≤ b.length := by rw [List.length_take, List.length_drop]; omega
      exact ⟨by simp only; omega, h2, by simp only; omega, by simp only; omega⟩
theorem readBytes_none {b : List UInt8} {a most : Int} (h : readVarint b a = none) : readBytes b a most = none := by unfold readBytes; rw [h]
theorem readBytes_no {b : List UInt8} {a most : Int} {q : Nat × Nat} (h : readVarint b a = some q) (h2 : most < q.1 ∨ (b.length : Int) - q.2 < q.1) : readBytes b a most = none := by unfold readBytes; rw [h]; exact if_pos h2
theorem readBytes_yes {b : List UInt8} {a most : Int} {q : Nat × Nat} (h : readVarint b a = some q) (h2 : ¬ (most < q.1 ∨ (b.length : Int) - q.2 < q.1)) : readBytes b a most = some ((b.drop q.2).take q.1, q.2 + q.1) := by unfold readBytes; rw [h]; exact if_neg h2
theorem readVarint_nn {b : List UInt8} {a : Int} {r : Nat × Nat} (h : readVarint b a = some r) : 0 ≤ a := by
  unfold readVarint at h
  split at h
  · cases h
  · omega
theorem rd_zero (w : World) {e : Ty} (a : Addr) (c : Nat) (hc : c ≤ maxLen) : (Ty.sl e).rd w [.slice (some a) 0 c] [] := ⟨some a, c, rfl, Nat.zero_le _, ⟨hc, fun h => by cases h⟩, by simp, fun h => absurd h (by simp)⟩
/-- A part of a slice. -/
theorem Ty.rd_part {w : World} {e : Ty} {b o n c : Nat} {x : List e.D} (h : (Ty.sl e).rd w [.slice (some ⟨b, o, none⟩) n c] x) {p k : Nat} (hk : p + k ≤ x.length) : (Ty.sl e).rd w [.slice (some ⟨b, o + p * e.sz, none⟩) k (c - p)] ((x.drop p).take k) := by
  obtain ⟨A', c', h1, h2, h3, h4, h5⟩ := h
  injection h1 with h1 _
  injection h1 with h1 hn1 h6
  subst h1; subst h6
  have hl : ((x.drop p).take k).length = k := by rw [List.length_take, List.length_drop]; omega
  have h2' : x.length ≤ c := h2
  have h4' : x.length ≤ 9223372036854775807 := h4
  have h3' := h3.1
  refine ⟨_, c - p, by rw [show List.length ((x.drop p).take k) = k from hl], by show ((x.drop p).take k).length ≤ _; omega, ⟨by omega, fun h => by cases h⟩, by show ((x.drop p).take k).length ≤ _; omega, fun hn => ?_⟩
  have hn' : 0 < ((x.drop p).take k).length := hn
  obtain ⟨b', o', hA, hc⟩ := h5 (by show 0 < x.length; omega)
  injection hA with hA
  injection hA with hA1 hA2
  subst hA1; subst hA2
  refine ⟨b, o + p * e.sz, rfl, fun i hi => ?_⟩
  have hi' : i < k := by have : i < ((x.drop p).take k).length := hi; omega
  obtain ⟨ds, g1, g2, g3⟩ := hc (p + i) (by omega)
  refine ⟨ds, g1, fun j hj => ?_, by rw [List.getElem_take, List.getElem_drop]; exact g3⟩
  rw [← g2 j hj, Nat.add_mul]
  congr 2
  omega
set_option maxHeartbeats 4000000 in
theorem C_impl_ReadBytes (w : World) (v : Value) (b : List UInt8) (a most : Int) (h : (Ty.sl .byte).rd w [v] b) (hi : -9223372036854775808 ≤ a ∧ a ≤ 9223372036854775807) (hb : b.length ≤ 1000000000000) (hmost : 0 ≤ most ∧ most ≤ 1000000) :
    Calls Try.prog 79 #[v, .int .i64 a, .int .i64 most] w (RetSl3 w .byte (rb0 (readBytes b a most)) (.int .i64 (rb1 (readBytes b a most))) (.bool (readBytes b a most).isSome)) := by
  obtain ⟨A, c, rfl, hc, hm, hn⟩ := Ty.rd_sl h
  have hcall := C_impl_ReadVarint w _ b a h hi
  cases hv : readVarint b a with
  | none =>
    have HN := Lib.hid (readBytes_none (most := most) hv)
    rw [hv] at hcall
    generalize readBytes b a most = R at HN ⊢
    go_enter Try.func79, Try.ntmps79
    go_wp2_with (go_at_call 78; refine hcall.mono ?_; rintro e w1 ⟨rfl, rfl⟩)
    go_ret3
    rw [HN.out]
    exact ⟨none, 0, [], rfl, rd_ow_nil _ _, FrI.nil _ _, Below.refl _ _⟩
  | some q =>
    obtain ⟨n, p⟩ := q
    have hbd := readVarint_bd hv
    have hnn := readVarint_nn hv
    rw [hv] at hcall
    simp only at hbd
    by_cases hbad : most < (n : Int) ∨ (b.length : Int) - p < n
    · have HN := Lib.hid (readBytes_no hv hbad)
      generalize readBytes b a most = R at HN ⊢
      rcases Classical.em (most < (n : Int)) with hb1 | hb1
      · skip
        go_enter Try.func79, Try.ntmps79
        go_wp2_with (go_at_call 78; refine hcall.mono ?_; rintro e w1 ⟨rfl, rfl⟩)
        go_ret3
        rw [HN.out]
        exact ⟨none, 0, [], rfl, rd_ow_nil _ _, FrI.nil _ _, Below.refl _ _⟩
      · have hb2 : (b.length : Int) - p < n := by rcases hbad with h | h; exact absurd h hb1; exact h
        clear hbad
        go_enter Try.func79, Try.ntmps79
        go_wp2_with (go_at_call 78; refine hcall.mono ?_; rintro e w1 ⟨rfl, rfl⟩)
        go_ret3
        rw [HN.out]
        exact ⟨none, 0, [], rfl, rd_ow_nil _ _, FrI.nil _ _, Below.refl _ _⟩
    · have HN := Lib.hid (readBytes_yes hv hbad)
      have hb1 : ¬ most < (n : Int) := fun h => hbad (.inl h)
      have hb2 : ¬ (b.length : Int) - p < n := fun h => hbad (.inr h)
      clear hbad
      obtain ⟨bb, o, rfl, _⟩ := Ty.rd_byte_at h (show 0 < b.length by omega)
      generalize readBytes b a most = R at HN ⊢
      have HP := Lib.hid (Ty.rd_part h (p := p) (k := n) (by omega))
      have HLN := Lib.hid (show ((b.drop p).take n).length = n from by rw [List.length_take, List.length_drop]; omega)
      by_cases hcp : c = p
      · subst hcp
        have hn0 : n = 0 := by omega
        subst hn0
        have HZ := Lib.hid (rd_zero w (e := .byte) ⟨bb, o, none⟩ 0 (by unfold maxLen; omega))
        go_enter Try.func79, Try.ntmps79
        go_wp2_with (go_at_call 78; refine hcall.mono ?_; rintro e w1 ⟨rfl, rfl⟩)
        try rw [Addr.add_lit]
        refine (C_slices_Clone_byte _ _ [] HZ.out (by simp)).mono ?_
        rintro e w2 ⟨v2, rfl, hr2, hb2⟩
        obtain ⟨A2, c2, fp2, rfl, how2, hfr2⟩ := hr2.own hb2.size
        clear hr2
        go_wp2
        go_ret3
        rw [HN.out]
        exact ⟨A2, c2, fp2, by first | rfl | simp [rb0, rb1], by simpa [rb0] using how2, hfr2, hb2⟩
      · have HQ := Lib.hid (show (Ty.sl .byte).rd w [.slice (some ⟨bb, o + p, none⟩) n (c - p)] ((b.drop p).take n) from by simpa [Ty.sz] using HP.out)
        go_enter Try.func79, Try.ntmps79
        go_wp2_with (go_at_call 78; refine hcall.mono ?_; rintro e w1 ⟨rfl, rfl⟩)
        try rw [Addr.add_lit]
        refine (C_slices_Clone_byte _ _ ((b.drop p).take n) HQ.out (by rw [List.length_take, List.length_drop]; omega)).mono ?_
        rintro e w2 ⟨v2, rfl, hr2, hb2⟩
        obtain ⟨A2, c2, fp2, rfl, how2, hfr2⟩ := hr2.own hb2.size
        clear hr2
        go_wp2
        go_ret3
        rw [HN.out]
        exact ⟨A2, c2, fp2, by first | rfl | simp [rb0, rb1], by simpa [rb0] using how2, hfr2, hb2⟩
set_option maxHeartbeats 4000000 in
theorem C_spec_ReadBytes (w : World) (v : Value) (b : List UInt8) (a most : Int) (h : (Ty.sl .byte).rd w [v] b) (hi : -9223372036854775808 ≤ a ∧ a ≤ 9223372036854775807) (hb : b.length ≤ 1000000000000) (hmost : 0 ≤ most ∧ most ≤ 1000000) :
    Calls Try.prog 76 #[v, .int .i64 a, .int .i64 most] w (RetSl3 w .byte (rb0 (readBytes b a most)) (.int .i64 (rb1 (readBytes b a most))) (.bool (readBytes b a most).isSome)) := by
  obtain ⟨A, c, rfl, hc, hm, hn⟩ := Ty.rd_sl h
  have hcall := C_spec_ReadVarint w _ b a h hi
  cases hv : readVarint b a with
  | none =>
    have HN := Lib.hid (readBytes_none (most := most) hv)
    rw [hv] at hcall
    generalize readBytes b a most = R at HN ⊢
    go_enter Try.func76, Try.ntmps76
    go_wp2_with (go_at_call 75; refine hcall.mono ?_; rintro e w1 ⟨rfl, rfl⟩)
    go_ret3
    rw [HN.out]
    obtain ⟨A9, c9, fp9, hv9, how9, hfr9⟩ := (Row.lit0 flatB w1 5 (Nat.le_refl _)).own (by rw [World.size_alloc]; omega)
    injection hv9 with hv9 _ hv9c
    subst hv9; subst hv9c
    exact ⟨_, _, fp9, rfl, how9, hfr9, (by repeat' (first | (with_reducible exact Below.refl _ _) | (with_reducible assumption) | (with_reducible refine bel_set ?_ (by (try dsimp only); omega) _) | (with_reducible refine bel_alloc ?_ _) | (with_reducible refine bel_drewN ?_ _) | (with_reducible refine bel_drew ?_)))⟩
  | some q =>
    obtain ⟨n, p⟩ := q
    have hbd := readVarint_bd hv
    have hnn := readVarint_nn hv
    rw [hv] at hcall
    simp only at hbd
    by_cases hbad : most < (n : Int) ∨ (b.length : Int) - p < n
    · have HN := Lib.hid (readBytes_no hv hbad)
      generalize readBytes b a most = R at HN ⊢
      rcases Classical.em (most < (n : Int)) with hb1 | hb1
      · skip
        go_enter Try.func76, Try.ntmps76
        go_wp2_with (go_at_call 75; refine hcall.mono ?_; rintro e w1 ⟨rfl, rfl⟩)
        go_ret3
        rw [HN.out]
        obtain ⟨A9, c9, fp9, hv9, how9, hfr9⟩ := (Row.lit0 flatB w1 5 (Nat.le_refl _)).own (by rw [World.size_alloc]; omega)
        injection hv9 with hv9 _ hv9c
        subst hv9; subst hv9c
        exact ⟨_, _, fp9, rfl, how9, hfr9, (by repeat' (first | (with_reducible exact Below.refl _ _) | (with_reducible assumption) | (with_reducible refine bel_set ?_ (by (try dsimp only); omega) _) | (with_reducible refine bel_alloc ?_ _) | (with_reducible refine bel_drewN ?_ _) | (with_reducible refine bel_drew ?_)))⟩
      · have hb2 : (b.length : Int) - p < n := by rcases hbad with h | h; exact absurd h hb1; exact h
        clear hbad
        go_enter Try.func76, Try.ntmps76
        go_wp2_with (go_at_call 75; refine hcall.mono ?_; rintro e w1 ⟨rfl, rfl⟩)
        go_ret3
        rw [HN.out]
        obtain ⟨A9, c9, fp9, hv9, how9, hfr9⟩ := (Row.lit0 flatB w1 5 (Nat.le_refl _)).own (by rw [World.size_alloc]; omega)
        injection hv9 with hv9 _ hv9c
        subst hv9; subst hv9c
        exact ⟨_, _, fp9, rfl, how9, hfr9, (by repeat' (first | (with_reducible exact Below.refl _ _) | (with_reducible assumption) | (with_reducible refine bel_set ?_ (by (try dsimp only); omega) _) | (with_reducible refine bel_alloc ?_ _) | (with_reducible refine bel_drewN ?_ _) | (with_reducible refine bel_drew ?_)))⟩
    · have HN := Lib.hid (readBytes_yes hv hbad)
      have hb1 : ¬ most < (n : Int) := fun h => hbad (.inl h)
      have hb2 : ¬ (b.length : Int) - p < n := fun h => hbad (.inr h)
      clear hbad
      obtain ⟨bb, o, rfl, _⟩ := Ty.rd_byte_at h (show 0 < b.length by omega)
      generalize readBytes b a most = R at HN ⊢
      have HP := Lib.hid (Ty.rd_part h (p := p) (k := n) (by omega))
      have HLN := Lib.hid (show ((b.drop p).take n).length = n from by rw [List.length_take, List.length_drop]; omega)
      by_cases hcp : c = p
      · subst hcp
        have hn0 : n = 0 := by omega
        subst hn0
        have HZ := Lib.hid (rd_zero w (e := .byte) ⟨bb, o, none⟩ 0 (by unfold maxLen; omega))
        have HL00 := Lib.hid (Row.lit0 flatB w 5 (Nat.le_refl _))
        go_enter Try.func76, Try.ntmps76
        go_wp2_with fail
        refine hcall.mono ?_
        rintro e w1 ⟨rfl, rfl⟩
        set_option maxRecDepth 100000 in go_wp2_with (at_builtin; go_loud (refine wpList_append_row rfl _ _ 54 rfl flatB w1.heap.size 5 infoB rfl Try.underlying54 _ (.slice (some ⟨bb, o, none⟩) 0 0) [] ([]) rfl rfl HL00.out (Ty.rd_below (by repeat' (first | (with_reducible exact Below.refl _ _) | (with_reducible assumption) | (with_reducible refine bel_set ?_ (by (try dsimp only); omega) _) | (with_reducible refine bel_alloc ?_ _) | (with_reducible refine bel_drewN ?_ _) | (with_reducible refine bel_drew ?_))) HZ.out) ?_ ?_ ?_ ?_))
        case refine_1 => simp
        case refine_2 => simp
        case refine_3 => simp only [World.size_alloc]; omega
        intro v' w' hr' hg'
        have hb' : Below w1.heap.size w1 w' := bel_grown (by repeat' (first | (with_reducible exact Below.refl _ _) | (with_reducible assumption) | (with_reducible refine bel_set ?_ (by (try dsimp only); omega) _) | (with_reducible refine bel_alloc ?_ _) | (with_reducible refine bel_drewN ?_ _) | (with_reducible refine bel_drew ?_))) (by (try simp only [World.size_alloc, World.size_setCell, size_drewN, World.size_drew]); omega) hg' (fun g hg => by simp [Value.ownBlock] at hg; omega)
        obtain ⟨A2, c2, fp2, rfl, how2, hfr2⟩ := hr'.own hb'.size
        clear hr'
        go_wp2
        go_ret3
        rw [HN.out]
        exact ⟨A2, c2, fp2, by first | rfl | simp [rb0, rb1], by simpa [rb0] using how2, hfr2, hb'⟩
      · have HQ := Lib.hid (show (Ty.sl .byte).rd w [.slice (some ⟨bb, o + p, none⟩) (p + n - p) (c - p)] ((b.drop p).take n) from by rw [Nat.add_sub_cancel_left]; simpa [Ty.sz] using HP.out)
        have HL00 := Lib.hid (Row.lit0 flatB w 5 (Nat.le_refl _))
        go_enter Try.func76, Try.ntmps76
        go_wp2_with fail
        refine hcall.mono ?_
        rintro e w1 ⟨rfl, rfl⟩
        set_option maxRecDepth 100000 in go_wp2_with (at_builtin; go_loud (refine wpList_append_row rfl _ _ 54 rfl flatB w1.heap.size 5 infoB rfl Try.underlying54 _ (.slice (some ⟨bb, o + p, none⟩) (p + n - p) (c - p)) [] ((b.drop p).take n) rfl rfl HL00.out (Ty.rd_below (by repeat' (first | (with_reducible exact Below.refl _ _) | (with_reducible assumption) | (with_reducible refine bel_set ?_ (by (try dsimp only); omega) _) | (with_reducible refine bel_alloc ?_ _) | (with_reducible refine bel_drewN ?_ _) | (with_reducible refine bel_drew ?_))) HQ.out) ?_ ?_ ?_ ?_))
        case refine_1 => rw [HLN.out, List.length_nil]; omega
        case refine_2 => rw [HLN.out, List.length_nil]; unfold maxLen; omega
        case refine_3 => simp only [World.size_alloc]; omega
        intro v' w' hr' hg'
        have hb' : Below w1.heap.size w1 w' := bel_grown (by repeat' (first | (with_reducible exact Below.refl _ _) | (with_reducible assumption) | (with_reducible refine bel_set ?_ (by (try dsimp only); omega) _) | (with_reducible refine bel_alloc ?_ _) | (with_reducible refine bel_drewN ?_ _) | (with_reducible refine bel_drew ?_))) (by (try simp only [World.size_alloc, World.size_setCell, size_drewN, World.size_drew]); omega) hg' (fun g hg => by simp [Value.ownBlock] at hg; omega)
        obtain ⟨A2, c2, fp2, rfl, how2, hfr2⟩ := hr'.own hb'.size
        clear hr'
        go_wp2
        go_ret3
        rw [HN.out]
        exact ⟨A2, c2, fp2, by first | rfl | simp [rb0, rb1], by simpa [rb0] using how2, hfr2, hb'⟩
end Go.Proofs.Ytmhchmokjconoaa
