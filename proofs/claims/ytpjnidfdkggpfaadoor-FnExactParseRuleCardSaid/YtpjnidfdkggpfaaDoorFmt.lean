/- Names, patterns as text. -/
import Derived.Test.YtpjnidfdkggpfaaDoorJn
import Derived.Test.YtpjnidfdkggpfaaDoorNam
import Derived.Test.YtpjnidfdkggpfaaDoorRet
import Derived.Lib.Join
import Derived.Laws.Concat
import Derived.Deep.RegionHeld3
namespace Go.Proofs.YtpjnidfdkggpfaaDoor
open Go.RowKit
set_option linter.unusedVariables false
set_option linter.unusedSimpArgs false

/-- The first k parts, each behind a slash. -/
def fmtK (p : List (List UInt8)) (k : Nat) : List UInt8 := ((p.take k).map (fun s => 47 :: s)).flatten
def fmtM (p : List (List UInt8)) (k : Nat) : List UInt8 := fmtK p k ++ [47]
def fmtP (p : List (List UInt8)) : List UInt8 := if p = [] then [47] else fmtK p p.length
theorem fmtK_succ {p : List (List UInt8)} {k : Nat} (h : k < p.length) : fmtM p k ++ p[k] = fmtK p (k + 1) := by
  unfold fmtM fmtK
  rw [List.take_succ_eq_append_getElem h, List.map_append, List.flatten_append]; simp
theorem fmtK_len (p : List (List UInt8)) (k : Nat) : (fmtK p k).length ≤ Ty.bulk (.sl .str) p := by
  have h1 : ∀ l : List (List UInt8), ((l.map (fun s => (47 : UInt8) :: s)).flatten).length = l.length + (l.map List.length).sum := by
    intro l
    induction l with
    | nil => rfl
    | cons a l ih => rw [List.map_cons, List.flatten_cons, List.length_append, ih, List.map_cons, List.sum_cons, List.length_cons, List.length_cons]; omega
  have h2 : (p.take k).length ≤ p.length := by rw [List.length_take]; omega
  have h3 : ((p.take k).map List.length).sum ≤ (p.map List.length).sum := by
    have := congrArg (fun l => (List.map List.length l).sum) (List.take_append_drop k p)
    simp only [List.map_append, List.sum_append] at this; omega
  have h4 : Ty.bulk (.sl .str) p = p.length + (p.map List.length).sum := rfl
  unfold fmtK
  rw [h1, h4]; omega
theorem fmtP_len (p : List (List UInt8)) : (fmtP p).length ≤ Ty.bulk (.sl .str) p + 1 := by
  unfold fmtP
  split
  · simp
  · have := fmtK_len p p.length; omega
theorem fmtP_join {p : List (List UInt8)} (h : p ≠ []) : [47] ++ Lib.join p [47] = fmtP p := by
  unfold fmtP
  rw [if_neg h]
  unfold fmtK
  rw [List.take_length]
  cases p with
  | nil => exact absurd rfl h
  | cons x r =>
    rw [Lib.join_cons]
    unfold Lib.joinTail
    rw [List.map_cons, List.flatten_cons]; rfl
theorem join_len (p : List (List UInt8)) (c : UInt8) : (Lib.join p [c]).length ≤ Ty.bulk (.sl .str) p := by
  cases p with
  | nil => show 0 ≤ _; exact Nat.zero_le _
  | cons x r =>
    rw [Lib.join_cons]
    unfold Lib.joinTail
    have h4 : Ty.bulk (.sl .str) (x :: r) = (r.length + 1) + (x.length + (r.map List.length).sum) := rfl
    have h1 : ∀ l : List (List UInt8), ((l.map (fun s => [c] ++ s)).flatten).length = l.length + (l.map List.length).sum := by
      intro l
      induction l with
      | nil => rfl
      | cons a l ih => rw [List.map_cons, List.flatten_cons, List.length_append, ih, List.map_cons, List.sum_cons, List.length_cons, List.length_append, List.length_singleton]; omega
    rw [List.length_append, h1, h4]; omega
/-- Two strings, one behind the other. -/
theorem cat_eq {P : Program} (x y z : List UInt8) (h : x ++ y = z) (hl : z.length ≤ 9223372036854775807) : ∀ W : World, (Op.stringOp .add (⟨x.toArray⟩ : ByteArray) ⟨y.toArray⟩).run P W = .ok (vS z) W := by
  intro W
  subst h
  rw [run_string_add_sum W _ _ (by simp [ByteArray.size]; simpa using hl), ByteArray.mk_append_mk]
set_option maxHeartbeats 1000000 in
theorem C_spec_FormatName (w : World) (cs : List Value) (p : List (List UInt8)) (h : (Ty.sl .str).rd w cs p) (s0 : Ty.bulk (.sl .str) p ≤ 1000000000) :
    Calls Tryd.prog 16 #[.agg cs.toArray] w (RetStr w (fmtP p)) := by
  obtain ⟨A, c, rfl⟩ := Ty.rd_slv h
  obtain ⟨_, _, _, _, _, n0⟩ := Ty.rd_sl h
  go_enter Tryd.func16, Tryd.ntmps16
  go_wp2
  go_loopw [3, 4] (fun s i wr => ∃ k : Nat, k ≤ p.length ∧ i = .int .i64 k ∧ s = vS (fmtK p k) ∧ Below (w.alloc (.cells #[.slice A p.length c] 29)).heap.size (w.alloc (.cells #[.slice A p.length c] 29)) wr) (fun _ i _ => p.length - (intOf i).toNat)
  case atStart => exact ⟨0, by omega, rfl, rfl, Below.refl _ _⟩
  case round =>
    obtain ⟨k, hk, rfl, rfl, hb⟩ := hrel
    have hw : Below w.heap.size w wr := bel_trans (by repeat' (first | (with_reducible exact Below.refl _ _) | (with_reducible assumption) | (with_reducible refine bel_set ?_ (by (try dsimp only); omega) _) | (with_reducible refine bel_alloc ?_ _) | (with_reducible refine bel_drewN ?_ _) | (with_reducible refine bel_drew ?_))) hb
    obtain ⟨hc, hf⟩ := bcell hb
    by_cases hlt : k < p.length
    · obtain ⟨b, o, rfl, e0, n1⟩ := Ty.rd_str_at (Ty.rd_below hw h) hlt
      have hl1 := fmtK_len p k
      have hl2 := fmtK_len p (k + 1)
      have hc1 := cat_eq (P := Tryd.prog) (fmtK p k) [47] (fmtM p k) rfl (by unfold fmtM; rw [List.length_append, List.length_singleton]; omega)
      have hc2 := cat_eq (P := Tryd.prog) (fmtM p k) p[k] (fmtK p (k + 1)) (fmtK_succ hlt) (by omega)
      go_wp2
      go_roundw
      case rel => exact ⟨k + 1, by omega, by go_num, rfl, hb⟩
      case measure => simp [intOf]; omega
    · have hkp : k = p.length := by omega
      by_cases h0 : p.length = 0
      · have hp : p = [] := List.eq_nil_of_length_eq_zero h0
        have HP : Hid (fmtP p = [47]) := by unfold Hid fmtP; rw [if_pos hp]
        have q0 : ((p.length : Int) == 0) = true := by simp [h0]
        clear hp h0 hkp
        go_wp2
        go_ret
        exact ⟨by rw [HP.out]; rfl, hw⟩
      · have HP : Hid (fmtP p = fmtK p k) := by
          unfold Hid fmtP
          rw [if_neg (fun hp => h0 (by rw [hp]; rfl)), hkp]
        have q0 : ((p.length : Int) == 0) = false := by rw [beq_eq_false_iff_ne]; omega
        clear h0 hkp
        go_wp2
        go_ret
        exact ⟨by rw [HP.out]; rfl, hw⟩
theorem C_Join (w : World) (v : Value) (p : List (List UInt8)) (c : UInt8) (h : (Ty.sl .str).rd w [v] p) (s0 : Ty.bulk (.sl .str) p ≤ 1000000000) :
    Calls Tryd.prog 48 #[v, .string ⟨#[c]⟩] w (RetStr w (Lib.join p [c])) := by
  obtain ⟨A, cc, rfl, hc, hm, hn⟩ := Ty.rd_sl h
  cases p with
  | nil =>
    refine (strings_Join_none A cc ⟨#[c]⟩ w).mono ?_
    rintro e w' ⟨rfl, rfl⟩
    exact ⟨rfl, Below.refl _ _⟩
  | cons x r =>
    obtain ⟨b, o, rfl, e0, _⟩ := Ty.rd_str_at (k := 0) h (by simp)
    have hlb : b < w.heap.size := World.block_lt_of_cell? w _ e0
    have hxl := Ty.bulk_len s0
    have hmm : ((x :: r).map (fun s => (⟨s.toArray⟩ : ByteArray))).map (·.data.toList) = x :: r := by
      rw [List.map_map]
      exact (List.map_congr_left (g := id) (fun a _ => by simp)).trans (List.map_id _)
    have hj := strings_Join b o cc ((x :: r).map (fun s => (⟨s.toArray⟩ : ByteArray))) ⟨#[c]⟩ w (fun j y hy => by
      rw [List.getElem?_map] at hy
      obtain ⟨s, hs, rfl⟩ := Option.map_eq_some_iff.1 hy
      obtain ⟨hj, rfl⟩ := List.getElem?_eq_some_iff.1 hs
      obtain ⟨b', o', he, e1, _⟩ := Ty.rd_str_at (k := j) h hj
      injection he with he
      injection he with he1 he2
      subst he1; subst he2
      exact e1) hlb (by rw [List.length_map]; omega) (by rw [List.length_map]; omega) (by rw [hmm]; have := join_len (x :: r) c; exact Nat.le_trans this (by omega))
    rw [List.length_map] at hj
    refine hj.mono ?_
    rintro e w' ⟨rfl, hb⟩
    exact ⟨by rw [hmm], hb⟩
set_option maxHeartbeats 1000000 in
theorem C_impl_slashed (w : World) (v : Value) (p : List (List UInt8)) (h : (Ty.sl .str).rd w [v] p) (s0 : Ty.bulk (.sl .str) p ≤ 1000000000) :
    Calls Tryd.prog 34 #[v] w (RetStr w (fmtP p)) := by
  obtain ⟨A, c, rfl, hc, hm, hn⟩ := Ty.rd_sl h
  by_cases h0 : p.length = 0
  · have hp : p = [] := List.eq_nil_of_length_eq_zero h0
    have HP : Hid (fmtP p = [47]) := by unfold Hid fmtP; rw [if_pos hp]
    have q0 : ((p.length : Int) == 0) = true := by simp [h0]
    clear hp h0
    go_enter Tryd.func34, Tryd.ntmps34
    go_wp2
    go_ret
    exact ⟨by rw [HP.out]; rfl, Below.refl _ _⟩
  · have hp : p ≠ [] := fun hp => h0 (by rw [hp]; rfl)
    have q0 : ((p.length : Int) == 0) = false := by rw [beq_eq_false_iff_ne]; omega
    have hl := fmtP_len p
    have hc1 := cat_eq (P := Tryd.prog) [47] (Lib.join p [47]) (fmtP p) (fmtP_join hp) (by omega)
    clear h0 hp
    go_enter Tryd.func34, Tryd.ntmps34
    go_wp2_with fail
    refine (C_Join _ _ p 47 h s0).mono ?_
    rintro e w1 ⟨rfl, hb1⟩
    go_wp2
    go_ret
    exact ⟨rfl, hb1⟩
set_option maxHeartbeats 1000000 in
theorem C_impl_FormatPattern (w : World) (cs : List Value) (p : List (List UInt8)) (h : (Ty.sl .str).rd w cs p) (s0 : Ty.bulk (.sl .str) p ≤ 1000000000) :
    Calls Tryd.prog 43 #[.agg cs.toArray] w (RetStr w (fmtP p)) := by
  obtain ⟨A, c, rfl⟩ := Ty.rd_slv h
  go_enter Tryd.func43, Tryd.ntmps43
  go_wp2_with fail
  refine (C_impl_slashed _ _ p (Ty.rd_below (by repeat' (first | (with_reducible exact Below.refl _ _) | (with_reducible assumption) | (with_reducible refine bel_set ?_ (by (try dsimp only); omega) _) | (with_reducible refine bel_alloc ?_ _) | (with_reducible refine bel_drewN ?_ _) | (with_reducible refine bel_drew ?_))) h) s0).mono ?_
  rintro e w1 ⟨rfl, hb1⟩
  go_wp2
  go_ret
  exact ⟨rfl, (by (repeat' (first | (with_reducible exact Below.refl _ _) | (with_reducible assumption) | (with_reducible refine bel_set ?_ (by (try dsimp only); omega) _) | (with_reducible refine bel_alloc ?_ _) | (with_reducible refine bel_drewN ?_ _) | (with_reducible refine bel_drew ?_) | (with_reducible refine bel_trans ?_ (by assumption)))); done)⟩
set_option maxHeartbeats 1000000 in
theorem C_impl_FormatName (w : World) (cs : List Value) (p : List (List UInt8)) (h : (Ty.sl .str).rd w cs p) (s0 : Ty.bulk (.sl .str) p ≤ 1000000000) :
    Calls Tryd.prog 19 #[.agg cs.toArray] w (RetStr w (fmtP p)) := by
  obtain ⟨A, c, rfl⟩ := Ty.rd_slv h
  go_enter Tryd.func19, Tryd.ntmps19
  go_wp2_with fail
  refine (C_impl_slashed _ _ p (Ty.rd_below (by repeat' (first | (with_reducible exact Below.refl _ _) | (with_reducible assumption) | (with_reducible refine bel_set ?_ (by (try dsimp only); omega) _) | (with_reducible refine bel_alloc ?_ _) | (with_reducible refine bel_drewN ?_ _) | (with_reducible refine bel_drew ?_))) h) s0).mono ?_
  rintro e w1 ⟨rfl, hb1⟩
  go_wp2
  go_ret
  exact ⟨rfl, (by (repeat' (first | (with_reducible exact Below.refl _ _) | (with_reducible assumption) | (with_reducible refine bel_set ?_ (by (try dsimp only); omega) _) | (with_reducible refine bel_alloc ?_ _) | (with_reducible refine bel_drewN ?_ _) | (with_reducible refine bel_drew ?_) | (with_reducible refine bel_trans ?_ (by assumption)))); done)⟩
end Go.Proofs.YtpjnidfdkggpfaaDoor
