/- Texts parted at a byte. -/
import Derived.Test.YtldgbnlcnlfmeaaSp0
import Derived.Test.YtldgbnlcnlfmeaaStr
import Derived.Test.YtldgbnlcnlfmeaaRow
import Derived.WalkSpells
namespace Go.Proofs.Ytldgbnlcnlfmeaa
open Go.RowKit
set_option linter.unusedVariables false
set_option linter.unusedSimpArgs false

/-- How far the text is parted: up to place k, the piece at hand begun at f. -/
def splAt (c : UInt8) (s : List UInt8) (k f : Nat) (acc : List (List UInt8)) : Prop :=
  (k ≤ s.length ∧ f ≤ k ∧ acc.length ≤ k ∧ acc ++ spl c (s.drop f) = spl c s ∧ c ∉ (s.drop f).take (k - f)) ∨ (k = s.length + 1 ∧ f ≤ k ∧ acc.length ≤ k ∧ acc = spl c s)
theorem splAt_start (c : UInt8) (s : List UInt8) : splAt c s 0 0 [] := .inl ⟨by omega, by omega, by simp, by simp, by simp⟩
theorem splAt_no {c : UInt8} {s : List UInt8} {k f : Nat} {acc : List (List UInt8)} (h : splAt c s k f acc) (hk : k < s.length) (hc : ¬ s[k] = c) : splAt c s (k + 1) f acc := by
  rcases h with ⟨h1, h2, h3, h4, h5⟩ | ⟨h1, _⟩
  · refine .inl ⟨by omega, by omega, by omega, h4, ?_⟩
    have hd : k - f < (s.drop f).length := by rw [List.length_drop]; omega
    rw [show k + 1 - f = (k - f) + 1 from by omega, List.take_succ_eq_append_getElem hd]
    intro hm
    rcases List.mem_append.1 hm with hm | hm
    · exact h5 hm
    · have : (s.drop f)[k - f] = s[k] := by rw [List.getElem_drop]; congr 1; omega
      rw [this] at hm
      exact hc (by simpa using (List.mem_singleton.1 hm).symm)
  · omega
theorem splAt_yes {c : UInt8} {s : List UInt8} {k f : Nat} {acc : List (List UInt8)} (h : splAt c s k f acc) (hk : k < s.length) (hc : s[k] = c) : splAt c s (k + 1) (k + 1) (acc ++ [(s.drop f).take (k - f)]) := by
  rcases h with ⟨h1, h2, h3, h4, h5⟩ | ⟨h1, _⟩
  · refine .inl ⟨by omega, by omega, by simp; omega, ?_, by simp⟩
    have hd : k - f < (s.drop f).length := by rw [List.length_drop]; omega
    have e : s.drop f = (s.drop f).take (k - f) ++ c :: s.drop (k + 1) := by
      conv => lhs; rw [← List.take_append_drop (k - f) (s.drop f)]
      congr 1
      rw [List.drop_eq_getElem_cons hd, List.drop_drop, List.getElem_drop]
      congr 1
      · rw [← hc]; congr 1; omega
      · congr 1; omega
    rw [e, spl_app _ h5] at h4
    rw [← h4, List.append_assoc]; rfl
  · omega
theorem splAt_end {c : UInt8} {s : List UInt8} {f : Nat} {acc : List (List UInt8)} (h : splAt c s s.length f acc) : splAt c s (s.length + 1) (s.length + 1) (acc ++ [(s.drop f).take (s.length - f)]) := by
  rcases h with ⟨h1, h2, h3, h4, h5⟩ | ⟨h1, _⟩
  · refine .inr ⟨rfl, by omega, by simp; omega, ?_⟩
    rw [List.take_of_length_le (by rw [List.length_drop]; omega)] at h5 ⊢
    rw [← h4, spl_notin h5]
  · omega
theorem splAt_bd {c : UInt8} {s : List UInt8} {k f : Nat} {acc : List (List UInt8)} (h : splAt c s k f acc) : k ≤ s.length + 1 ∧ f ≤ k ∧ acc.length ≤ k := by
  rcases h with ⟨h1, h2, h3, _⟩ | ⟨h1, h2, h3, _⟩
  · exact ⟨by omega, h2, h3⟩
  · exact ⟨by omega, h2, h3⟩
theorem splAt_done {c : UInt8} {s : List UInt8} {k f : Nat} {acc : List (List UInt8)} (h : splAt c s k f acc) (hk : ¬ k ≤ s.length) : acc = spl c s := by
  rcases h with ⟨h1, _⟩ | ⟨_, _, _, h1⟩
  · omega
  · exact h1
theorem run_sub (P : Program) (t : TypeId) (ht : P.underlying t = some .string) (s : List UInt8) (a b : Nat) (h : a ≤ b) (hb : b ≤ s.length) (W : World) :
    (Instr.slice t (.string ⟨s.toArray⟩) (some (.int .i64 a)) (some (.int .i64 b)) none).run P W = .ok (vS ((s.drop a).take (b - a))) W := by
  have := run_slice_string (P := P) W t ⟨s.toArray⟩ .i64 .i64 a b ht (by omega) (by omega) (by show (b : Int) ≤ (s.toArray.size : Int); simp; omega)
  rw [this]
  show Result.ok (Value.string ((ByteArray.mk s.toArray).extract a b)) W = _
  rw [ByteArray.extract_mk]
set_option maxHeartbeats 4000000 in
theorem C_spec_l4Split (w : World) (s : List UInt8) (c : UInt8) (hs : s.length ≤ 1000000000) :
    Calls Try.prog 170 #[vS s, .int .u8 (c.toNat : Int)] w (RetRow flatS w 9 (spl c s)) := by
  go_enter Try.func170, Try.ntmps170
  go_wp2
  go_loopw [5, 6, 7] (fun vv fr i wr => ∃ (k f : Nat) (acc : List (List UInt8)), i = .int .i64 k ∧ fr = .int .i64 f ∧ Row flatS wr w.heap.size 9 vv acc ∧ Hid (splAt c s k f acc) ∧ Below w.heap.size w wr) (fun _ _ i _ => s.length + 1 - (intOf i).toNat)
  case atStart => exact ⟨0, 0, [], by first | rfl | simp, by first | rfl | simp, Row.lit0 flatS w _ (Nat.le_refl _), Lib.hid (splAt_start c s), (by repeat' (first | (with_reducible exact Below.refl _ _) | (with_reducible assumption) | (with_reducible refine bel_set ?_ (by (try dsimp only); omega) _) | (with_reducible refine bel_alloc ?_ _) | (with_reducible refine bel_drewN ?_ _) | (with_reducible refine bel_drew ?_)))⟩
  case round =>
    obtain ⟨k, f, acc, rfl, rfl, hr, hA, hb⟩ := hrel
    have HRow := Lib.hid hr
    obtain ⟨h1, h2, h3⟩ := splAt_bd hA.out
    clear hr
    by_cases hle : k ≤ s.length
    · have hap : ∀ (W : World), (Instr.slice 9 (.string ⟨s.toArray⟩) (some (.int .i64 f)) (some (.int .i64 k)) none).run Try.prog W = .ok (vS ((s.drop f).take (k - f))) W := fun W => run_sub _ _ Try.underlying9 s f k h2 hle W
      have HX : Hid (((s.drop f).take (k - f)).length ≤ 9223372036854775807) := by unfold Hid; rw [List.length_take, List.length_drop]; omega
      generalize hxx : (s.drop f).take (k - f) = x at hap HX
      have HLX := Lib.hid (Row.lit1 flatS wr 9 x HX.out (Nat.le_refl _))
      by_cases hlt : k < s.length
      · have HY := Lib.hid (fun hc : s[k] = c => splAt_yes hA.out hlt hc)
        rw [hxx] at HY
        have HN := Lib.hid (fun hc : ¬ s[k] = c => splAt_no hA.out hlt hc)
        have HC : Hid (∀ b : Bool, ((({ data := s.toArray } : ByteArray)[k]'(by show k < s.toArray.size; simpa using hlt)).toNat == (c.toNat : Int)) = b → (b = true → s[k] = c) ∧ (b = false → ¬ s[k] = c)) := by
          intro b hb
          have hb' : ((s[k].toNat : Int) == (c.toNat : Int)) = b := hb
          refine ⟨fun e => ?_, fun e => ?_⟩
          · subst e; exact UInt8.toNat_inj.1 (by have := beq_iff_eq.1 hb'; omega)
          · subst e; intro e2; rw [e2] at hb'; simp at hb'
        have hL : (k : Int) ≠ s.length := by omega
        clear hxx
        set_option maxRecDepth 100000 in go_wp2_with (at_builtin; go_loud (refine wpList_append_row rfl _ _ 25 rfl flatS w.heap.size 9 info_str rfl Try.underlying25 _ _ acc [x] rfl rfl (HRow.out.below (by repeat' (first | (with_reducible exact Below.refl _ _) | (with_reducible assumption) | (with_reducible refine bel_set ?_ (by (try dsimp only); omega) _) | (with_reducible refine bel_alloc ?_ _) | (with_reducible refine bel_drewN ?_ _) | (with_reducible refine bel_drew ?_)))) (HLX.out.rd (by (try simp only [World.size_alloc, World.size_setCell, size_drewN, World.size_drew]); omega)) ?_ ?_ ?_ ?_))
        case refine_1 => rw [List.length_singleton]; omega
        case refine_2 => rw [List.length_singleton]; unfold maxLen; omega
        case refine_3 => simp only [World.size_alloc]; have := hb.size; omega
        · rename_i hh _ hK
          have HY2 := Lib.hid (HY.out ((HC.out _ (hh.resolve_left (by simp; omega))).1 rfl))
          intro v' w' hr' hg'
          have hb' : Below w.heap.size w w' := bel_grown (bel_alloc hb _) (by simp only [World.size_alloc]; have := hb.size; omega) hg' (fun g hg => (HRow.out.block g hg).1)
          have HR' := Lib.hid hr'
          clear hr'
          go_wp2
          go_roundw
          case rel => exact ⟨k + 1, k + 1, acc ++ [x], by go_num, by first | rfl | go_num, HR'.out, Lib.hid HY2.out, hb'⟩
          case measure => simp [intOf] <;> omega
        · rename_i hh
          have HN2 := Lib.hid (HN.out ((HC.out _ hh.2).2 rfl))
          refine ⟨⟨k + 1, f, acc, by go_num, rfl, HRow.out, Lib.hid HN2.out, hb⟩, ?_⟩
          simp [intOf] <;> omega
      · obtain rfl : k = s.length := by omega
        have HN := Lib.hid (splAt_end hA.out)
        rw [hxx] at HN
        clear hxx
        set_option maxRecDepth 100000 in go_wp2_with (at_builtin; go_loud (refine wpList_append_row rfl _ _ 25 rfl flatS w.heap.size 9 info_str rfl Try.underlying25 _ _ acc [x] rfl rfl (HRow.out.below (by repeat' (first | (with_reducible exact Below.refl _ _) | (with_reducible assumption) | (with_reducible refine bel_set ?_ (by (try dsimp only); omega) _) | (with_reducible refine bel_alloc ?_ _) | (with_reducible refine bel_drewN ?_ _) | (with_reducible refine bel_drew ?_)))) (HLX.out.rd (by (try simp only [World.size_alloc, World.size_setCell, size_drewN, World.size_drew]); omega)) ?_ ?_ ?_ ?_))
        case refine_1 => rw [List.length_singleton]; omega
        case refine_2 => rw [List.length_singleton]; unfold maxLen; omega
        case refine_3 => simp only [World.size_alloc]; have := hb.size; omega
        intro v' w' hr' hg'
        have hb' : Below w.heap.size w w' := bel_grown (bel_alloc hb _) (by simp only [World.size_alloc]; have := hb.size; omega) hg' (fun g hg => (HRow.out.block g hg).1)
        have HR' := Lib.hid hr'
        clear hr'
        go_wp2
        go_roundw
        case rel => exact ⟨s.length + 1, s.length + 1, acc ++ [x], by go_num, by first | rfl | go_num, HR'.out, Lib.hid HN.out, hb'⟩
        case measure => simp [intOf] <;> omega
    · have HE := Lib.hid (splAt_done hA.out hle)
      go_wp2
      go_ret
      obtain rfl := HE.out
      exact ⟨_, rfl, HRow.out, hb⟩
end Go.Proofs.Ytldgbnlcnlfmeaa
