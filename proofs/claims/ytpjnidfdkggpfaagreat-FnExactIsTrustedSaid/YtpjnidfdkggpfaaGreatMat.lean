/- Patterns are matched: spec.Match, impl.Match. -/
import Derived.Test.YtpjnidfdkggpfaaGreatVrs
import Derived.Test.YtpjnidfdkggpfaaGreatDrw
import Derived.Test.YtpjnidfdkggpfaaGreatNb
import Derived.Test.YtpjnidfdkggpfaaGreatRet
namespace Go.Proofs.YtpjnidfdkggpfaaGreat
open Go.RowKit
set_option linter.unusedVariables false
set_option linter.unusedSimpArgs false

def letterIs (s : List UInt8) (b : Ty.D tBinding) : Bool := decide (b.1 = s)
/-- One part of the pattern against one part of the name. -/
def mStep (b : List (Ty.D tBinding)) (s v : List UInt8) : Option (List (Ty.D tBinding)) :=
  if s = [42] then some b else if isVar s = true then (match b.find? (letterIs s) with | none => some (b ++ [(s, v)]) | some kv => if kv.2 = v then some b else none) else if s = v then some b else none
def mGo : List (List UInt8) → List (List UInt8) → List (Ty.D tBinding) → Option (List (Ty.D tBinding))
  | [], ns, b => if ns = [] then some b else none
  | s :: ps, ns, b => if s = [42, 42] then some b else match ns with | [] => none | v :: vs => match mStep b s v with | none => none | some b' => mGo ps vs b'
theorem mGo_cons (s : List UInt8) (ps ns : List (List UInt8)) (b : List (Ty.D tBinding)) : mGo (s :: ps) ns b = if s = [42, 42] then some b else match ns with | [] => none | v :: vs => match mStep b s v with | none => none | some b' => mGo ps vs b' := by cases ns <;> rfl
theorem mGo_nil (ns : List (List UInt8)) (b : List (Ty.D tBinding)) : mGo [] ns b = if ns = [] then some b else none := rfl
def f_Match (p n : List (List UInt8)) (l : List (Ty.D tBinding)) : List (Ty.D tBinding) × Bool :=
  if (validPat p && validName n) = true then (match mGo p n l with | some b => (b, true) | none => (l, false)) else (l, false)
theorem mGo_star {p n : List (List UInt8)} {acc : List (Ty.D tBinding)} {k : Nat} (h : k < p.length) (hs : p[k] = [42, 42]) : mGo (p.drop k) (n.drop k) acc = some acc := by
  rw [List.drop_eq_getElem_cons h, mGo_cons, if_pos hs]
theorem mGo_short {p n : List (List UInt8)} {acc : List (Ty.D tBinding)} {k : Nat} (h : k < p.length) (hs : ¬ p[k] = [42, 42]) (hn : n.length ≤ k) : mGo (p.drop k) (n.drop k) acc = none := by
  rw [List.drop_eq_getElem_cons h, mGo_cons, if_neg hs, List.drop_eq_nil_of_le hn]
theorem mGo_none {p n : List (List UInt8)} {acc : List (Ty.D tBinding)} {k : Nat} (h : k < p.length) (hs : ¬ p[k] = [42, 42]) (hn : k < n.length) (hm : mStep acc p[k] n[k] = none) : mGo (p.drop k) (n.drop k) acc = none := by
  rw [List.drop_eq_getElem_cons h, mGo_cons, if_neg hs, List.drop_eq_getElem_cons hn]; simp only [hm]
theorem mGo_step {p n : List (List UInt8)} {acc b : List (Ty.D tBinding)} {k : Nat} (h : k < p.length) (hs : ¬ p[k] = [42, 42]) (hn : k < n.length) (hm : mStep acc p[k] n[k] = some b) : mGo (p.drop k) (n.drop k) acc = mGo (p.drop (k + 1)) (n.drop (k + 1)) b := by
  rw [List.drop_eq_getElem_cons h, mGo_cons, if_neg hs, List.drop_eq_getElem_cons hn]; simp only [hm]
theorem mGo_end {p n : List (List UInt8)} {acc : List (Ty.D tBinding)} {k : Nat} (h : k = p.length) (hn : n.length = p.length) : mGo (p.drop k) (n.drop k) acc = some acc := by
  rw [List.drop_eq_nil_of_le (by omega), List.drop_eq_nil_of_le (by omega), mGo_nil, if_pos rfl]
theorem mGo_more {p n : List (List UInt8)} {acc : List (Ty.D tBinding)} {k : Nat} (h : k = p.length) (hn : p.length < n.length) : mGo (p.drop k) (n.drop k) acc = none := by
  rw [List.drop_eq_nil_of_le (by omega), mGo_nil, if_neg]
  intro h0
  have := congrArg List.length h0
  rw [List.length_drop] at this; simp at this; omega
theorem mStep_any {b : List (Ty.D tBinding)} {s v : List UInt8} (h : s = [42]) : mStep b s v = some b := by unfold mStep; rw [if_pos h]
theorem mStep_new {b : List (Ty.D tBinding)} {s v : List UInt8} (h : ¬ s = [42]) (hv : isVar s = true) (hf : b.find? (letterIs s) = none) : mStep b s v = some (b ++ [(s, v)]) := by
  unfold mStep; rw [if_neg h, if_pos hv, hf]
theorem mStep_eq {b : List (Ty.D tBinding)} {s v : List UInt8} {kv : Ty.D tBinding} (h : ¬ s = [42]) (hv : isVar s = true) (hf : b.find? (letterIs s) = some kv) (he : kv.2 = v) : mStep b s v = some b := by
  unfold mStep; rw [if_neg h, if_pos hv, hf]; exact if_pos he
theorem mStep_ne {b : List (Ty.D tBinding)} {s v : List UInt8} {kv : Ty.D tBinding} (h : ¬ s = [42]) (hv : isVar s = true) (hf : b.find? (letterIs s) = some kv) (he : ¬ kv.2 = v) : mStep b s v = none := by
  unfold mStep; rw [if_neg h, if_pos hv, hf]; exact if_neg he
theorem mStep_lit {b : List (Ty.D tBinding)} {s v : List UInt8} (h : ¬ s = [42]) (hv : isVar s = false) (he : s = v) : mStep b s v = some b := by
  unfold mStep; rw [if_neg h, if_neg (by rw [hv]; simp), if_pos he]
theorem mStep_bad {b : List (Ty.D tBinding)} {s v : List UInt8} (h : ¬ s = [42]) (hv : isVar s = false) (he : ¬ s = v) : mStep b s v = none := by
  unfold mStep; rw [if_neg h, if_neg (by rw [hv]; simp), if_neg he]
theorem mStep_len {b b' : List (Ty.D tBinding)} {s v : List UInt8} (h : mStep b s v = some b') : b'.length ≤ b.length + 1 := by
  unfold mStep at h
  split at h
  · injection h with h; subst h; omega
  · split at h
    · split at h
      · injection h with h; subst h; simp
      · split at h
        · injection h with h; subst h; omega
        · cases h
    · split at h
      · injection h with h; subst h; omega
      · cases h
theorem mGo_len : ∀ {p n : List (List UInt8)} {b b' : List (Ty.D tBinding)}, mGo p n b = some b' → b'.length ≤ b.length + p.length
  | [], n, b, b', h => by
    rw [mGo_nil] at h
    split at h
    · injection h with h; subst h; simp
    · cases h
  | s :: ps, n, b, b', h => by
    rw [mGo_cons] at h
    split at h
    · injection h with h; subst h; simp
    · cases n with
      | nil => cases h
      | cons v vs =>
        simp only at h
        cases hm : mStep b s v with
        | none => rw [hm] at h; cases h
        | some b2 =>
          rw [hm] at h
          have h1 := mStep_len hm
          have h2 := mGo_len h
          rw [List.length_cons]; omega
theorem validPat_len {p : List (List UInt8)} (h : validPat p = true) : p.length ≤ 6 := by
  unfold validPat at h; rw [Bool.and_eq_true] at h; simpa using h.2
theorem match_len (p n : List (List UInt8)) (l : List (Ty.D tBinding)) : (f_Match p n l).1.length ≤ l.length + 6 := by
  unfold f_Match
  split
  · rename_i h
    rw [Bool.and_eq_true] at h
    have := validPat_len h.1
    split
    · rename_i b hb
      have := mGo_len hb
      show b.length ≤ _; omega
    · show l.length ≤ _; omega
  · show l.length ≤ _; omega
/-- What a match hands back: bindings that read, and whether it fits. -/
def RetBs (w : World) (r : List (Ty.D tBinding) × Bool) (e : Ending) (w' : World) : Prop := ∃ v, e = .returned (.tuple #[v, .bool r.2]) ∧ (Ty.sl tBinding).rd w' [v] r.1 ∧ Below w.heap.size w w'
theorem RetBs.mk {w w' : World} {r : List (Ty.D tBinding) × Bool} {v : Value} {l : List (Ty.D tBinding)} {b : Bool} (hr : r = (l, b)) (h : (Ty.sl tBinding).rd w' [v] l) (hb : Below w.heap.size w w') : RetBs w r (.returned (.tuple #[v, .bool b])) w' := by
  subst hr; exact ⟨v, rfl, h, hb⟩
theorem f_Match_no {p n : List (List UInt8)} (l : List (Ty.D tBinding)) (h : (validPat p && validName n) = false) : f_Match p n l = (l, false) := by unfold f_Match; rw [h]; rfl
theorem f_Match_go {p n : List (List UInt8)} (l : List (Ty.D tBinding)) (h1 : validPat p = true) (h2 : validName n = true) : f_Match p n l = match mGo p n l with | some b => (b, true) | none => (l, false) := by unfold f_Match; rw [h1, h2]; rfl
theorem info_Binding : (Tryz.prog.info? 135).map (fun i => (i.zero, i.size, i.bytes)) = some (some (.agg #[vS [], vS []]), 2, 32) := by kernel_rfl
theorem ow_Binding {w : World} {x : Ty.D tBinding} (h1 : x.1.length ≤ 9223372036854775807) (h2 : x.2.length ≤ 9223372036854775807) : Ty.ow w tBinding [vS x.1, vS x.2] x [] := Ty.rd_ow_flat rfl (rd_Binding_mk h1 h2)
set_option maxHeartbeats 1000000 in
theorem C_Clone_Binding (w : World) (v : Value) (x : List (Ty.D tBinding)) (h : (Ty.sl tBinding).rd w [v] x) (hx : x.length ≤ 1099511627776) : Calls Tryz.prog 122 #[v] w (RetDRow tBinding w 135 x) := by
  obtain ⟨A, c, rfl, hc, hm, hn⟩ := Ty.rd_sl h
  cases A with
  | none =>
    obtain ⟨rfl, rfl⟩ := Ty.rd_nil h
    show Calls Tryz.prog 122 #[.slice none 0 0] w _
    clear h hx hc hm hn
    have q22 : ∀ (w : World) (a : Option Addr) (n c n' c' : Nat), (binOp .eql 124 (.slice a n c) (.slice none n' c')).run Tryz.prog w = .ok (.bool a.isNone) w := fun w a n c n' c' => Lib.run_eql_slice_nil w _ _ a n c n' c' Tryz.underlying124
    go_enter Tryz.func122, Tryz.ntmps122
    go_wp2
    go_ret
    exact ⟨_, rfl, DRow.nil _ _ _ _, Below.refl _ _⟩
  | some a =>
    have q22 : ∀ (w : World) (a : Option Addr) (n c n' c' : Nat), (binOp .eql 124 (.slice a n c) (.slice none n' c')).run Tryz.prog w = .ok (.bool a.isNone) w := fun w a n c n' c' => Lib.run_eql_slice_nil w _ _ a n c n' c' Tryz.underlying124
    go_enter Tryz.func122, Tryz.ntmps122
    set_option maxRecDepth 100000 in go_wp2_with (at_builtin; go_loud (refine wpList_append_drow rfl _ _ 124 rfl (w.alloc (.cells #[] 135)) w.heap.size 135 info_Binding rfl Tryz.underlying124 _ _ [] x rfl rfl (DRow.lit0 tBinding w 135 (Nat.le_refl _)) (Below.refl _ _) (Src.flat rfl (Ty.rd_below (by repeat' (first | (with_reducible exact Below.refl _ _) | (with_reducible assumption) | (with_reducible refine bel_set ?_ (by (try dsimp only); omega) _) | (with_reducible refine bel_alloc ?_ _) | (with_reducible refine bel_drewN ?_ _) | (with_reducible refine bel_drew ?_))) h) _) ?_ ?_ ?_ ?_))
    case refine_1 => simp only [List.length_nil]; omega
    case refine_2 => simp only [List.length_nil]; unfold maxLen; omega
    case refine_3 => simp only [World.size_alloc]; omega
    case refine_4 =>
      intro v' w' hr' hg'
      have hb' : Below w.heap.size w w' := bel_grown (by repeat' (first | (with_reducible exact Below.refl _ _) | (with_reducible assumption) | (with_reducible refine bel_set ?_ (by (try dsimp only); omega) _) | (with_reducible refine bel_alloc ?_ _) | (with_reducible refine bel_drewN ?_ _) | (with_reducible refine bel_drew ?_))) (by (try simp only [World.size_alloc, World.size_setCell, size_drewN, World.size_drew]); omega) hg' (fun g hg => by simp [Value.ownBlock] at hg; omega)
      have HR' := Lib.hid hr'
      clear hr'
      go_wp2
      go_ret
      exact ⟨_, rfl, HR'.out, hb'⟩
set_option maxHeartbeats 1000000 in
theorem C_spec_l5Find (w : World) (v : Value) (l : List (Ty.D tBinding)) (s : List UInt8) (h : (Ty.sl tBinding).rd w [v] l) (hs : s.length ≤ 9223372036854775807) :
    Calls Tryz.prog 118 #[v, vS s] w (RetIP w (ixf (letterIs s) l)) := by
  obtain ⟨A, c, rfl, _, _, n0⟩ := Ty.rd_sl h
  go_enter Tryz.func118, Tryz.ntmps118
  go_wp2
  go_loopw [5] (fun i wr => ∃ k : Nat, k ≤ l.length ∧ i = .int .i64 k ∧ (l.take k).any (letterIs s) = false ∧ wr = w) (fun i _ => l.length - (intOf i).toNat)
  case atStart => exact ⟨0, by omega, rfl, by first | rfl | simp, rfl⟩
  case round =>
    obtain ⟨k, hk, rfl, ht, rfl⟩ := hrel
    have HT := Lib.hid ht
    clear ht
    by_cases hlt : k < l.length
    · have HS := Lib.hid (any_take_succ (letterIs s) l hlt)
      obtain ⟨b, o, ds, rfl, hl, hcell, hrd⟩ := Ty.rd_at h hlt
      obtain ⟨rfl, q1, q2⟩ := rd_Binding hrd
      have e0 : wr.cell? ⟨b, o + k * 2, none⟩ = some (vS l[k].1) := by simpa [Ty.sz] using hcell 0 (by decide)
      clear hcell hl
      by_cases hq : l[k].1 = s
      · have HQ := Lib.hid (ixf_hit (letterIs s) l hlt HT.out (by simp [letterIs, hq]))
        have hq2 : (l[k].1 == s) = true := by simp [hq]
        go_wp2
        go_ret
        exact ⟨ret_int HQ.out.symm, rfl⟩
      · have HQ : Hid (letterIs s l[k] = false) := by show _ = _; simp [letterIs, hq]
        have hq2 : (l[k].1 == s) = false := by simp [hq]
        go_wp2
        exact ⟨⟨k + 1, by omega, by go_num, by rw [HS.out, HT.out, HQ.out]; rfl, by first | rfl | trivial⟩, by simp [intOf]; omega⟩
    · have HE : Hid (l.any (letterIs s) = false) := by have := HT.out; rwa [List.take_of_length_le (by omega)] at this
      go_wp2
      go_ret
      exact ⟨ret_int (ixf_miss (letterIs s) l HE.out).symm, rfl⟩
set_option maxHeartbeats 1000000 in
theorem C_impl_Match1 (W : World) (ds : List Value) (d : Ty.D tBinding) (s : List UInt8) (b : Nat) (h1 : tBinding.rd W ds d) (hcell : W.cell? ⟨b, 0, none⟩ = some (vS s)) :
    Calls Tryz.prog 125 #[.agg ds.toArray, .pointer (some ⟨b, 0, none⟩)] W (RetB W (letterIs s d)) := by
  obtain ⟨rfl, q1, q2⟩ := rd_Binding h1
  have hlt : b < W.heap.size := World.block_lt_of_cell? W _ hcell
  by_cases hq : d.1 = s
  · have HQ : Hid (letterIs s d = true) := by show _ = _; simp [letterIs, hq]
    have hq2 : (d.1 == s) = true := by simp [hq]
    go_enter Tryz.func125, Tryz.ntmps125
    go_wp2
    go_ret
    exact ⟨ret_bool HQ.out.symm, (by repeat' (first | (with_reducible exact Below.refl _ _) | (with_reducible assumption) | (with_reducible refine bel_set ?_ (by (try dsimp only); omega) _) | (with_reducible refine bel_alloc ?_ _) | (with_reducible refine bel_drewN ?_ _) | (with_reducible refine bel_drew ?_)))⟩
  · have HQ : Hid (letterIs s d = false) := by show _ = _; simp [letterIs, hq]
    have hq2 : (d.1 == s) = false := by simp [hq]
    go_enter Tryz.func125, Tryz.ntmps125
    go_wp2
    go_ret
    exact ⟨ret_bool HQ.out.symm, (by repeat' (first | (with_reducible exact Below.refl _ _) | (with_reducible assumption) | (with_reducible refine bel_set ?_ (by (try dsimp only); omega) _) | (with_reducible refine bel_alloc ?_ _) | (with_reducible refine bel_drewN ?_ _) | (with_reducible refine bel_drew ?_)))⟩
end Go.Proofs.YtpjnidfdkggpfaaGreat
