/- Data out of bytes. Printed by gen9.py. -/
import Derived.Test.YtmhchmokjconoaaRdn
import Derived.Test.YtmhchmokjconoaaDci
import Derived.Test.YtmhchmokjconoaaKey
import Derived.Test.YtmhchmokjconoaaApn
import Derived.RegionTactic
import Derived.ChangeAlike
namespace Go.Proofs.Ytmhchmokjconoaa
open Go.RowKit
set_option linter.unusedVariables false
set_option linter.unusedSimpArgs false

def decodeData (b : List UInt8) : Option tData.D := match readName b 0 with
  | none => none
  | some n => match readBytes b n.2 60 with
    | none => none
    | some s => match readName b s.2 with
      | none => none
      | some kn => match decodeInts b kn.2 2 with
        | none => none
        | some l => if l.2 = b.length then (if f_ValidData (n.1, s.1, kn.1, l.1.getD 0 0, l.1.getD 1 0) then some (n.1, s.1, kn.1, l.1.getD 0 0, l.1.getD 1 0) else none) else none
def f0_DecodeData (b : List UInt8) : tData.D := (decodeData b).getD ([], [], [], 0, 0)
def f1_DecodeData (b : List UInt8) : Bool := (decodeData b).isSome
theorem ow_Data_mk {w : World} {A0 A1 A2 : Option Addr} {c0 c1 c2 : Nat} {x : tData.D} {f0 f1 f2 : List Nat} (h0 : (Ty.sl .str).ow w [.slice A0 (List.length x.1) c0] x.1 f0) (h1 : (Ty.sl .byte).ow w [.slice A1 (List.length x.2.1) c1] x.2.1 f1) (h2 : (Ty.sl .str).ow w [.slice A2 (List.length x.2.2.1) c2] x.2.2.1 f2)
    (b3 : -9223372036854775808 ≤ x.2.2.2.1 ∧ x.2.2.2.1 ≤ 9223372036854775807) (b4 : -9223372036854775808 ≤ x.2.2.2.2 ∧ x.2.2.2.2 ≤ 9223372036854775807) :
    tData.ow w [.slice A0 (List.length x.1) c0, .slice A1 (List.length x.2.1) c1, .slice A2 (List.length x.2.2.1) c2, .int .i64 x.2.2.2.1, .int .i64 x.2.2.2.2] x (f0 ++ (f1 ++ f2)) :=
  ⟨[_], [_, _, _, _], f0, f1 ++ f2, rfl, rfl, h0, [_], [_, _, _], f1, f2, rfl, rfl, h1, [_], [_, _], f2, [], rfl, (List.append_nil _).symm, h2, [_], [_], [], [], rfl, rfl, ⟨⟨rfl, b3⟩, rfl⟩, ⟨rfl, b4⟩, rfl⟩
theorem ow_Data_zero (w : World) : tData.ow w [.slice none 0 0, .slice none 0 0, .slice none 0 0, .int .i64 0, .int .i64 0] ([], [], [], 0, 0) [] :=
  ow_Data_mk (x := ([], [], [], 0, 0)) (f0 := []) (f1 := []) (f2 := []) (rd_ow_nil w .str) (rd_ow_nil w .byte) (rd_ow_nil w .str) (by simp) (by simp)
theorem ow_set {w : World} {t : Ty} {cs : List Value} {x : t.D} {fp : List Nat} (h : t.ow w cs x fp) {p : Addr} (hp : p.block ∉ fp) (u : Value) : t.ow (w.setCell p u) cs x fp :=
  Ty.ow_keep (fun b hb => Below.heap_setCell _ _ _ _ (fun e => hp (by rw [← e]; exact hb))) h
theorem fri_not {lo hi : Nat} {fp : List Nat} (h : FrI lo hi fp) {b : Nat} (hb : b < lo) : b ∉ fp := fun hm => by have := h.2 b hm; omega
theorem ow_blk {w : World} {e : Ty} {b o n c : Nat} {x : List e.D} {fp : List Nat} (h : (Ty.sl e).ow w [.slice (some ⟨b, o, none⟩) n c] x fp) (hx : 0 < x.length) : b ∈ fp := by
  obtain ⟨A', c', h1, h2, h3, h4, h5⟩ := h
  rcases h5 with ⟨h0, _⟩ | ⟨_, b', o', fs, hA, hfp, _⟩
  · have h0' : x.length = 0 := h0
    omega
  · injection h1 with h1 _
    injection h1 with h1 _ _
    rw [← h1] at hA
    injection hA with hA
    injection hA with hA1 _
    rw [hfp, hA1]; exact List.mem_cons_self ..
theorem two_of {l : List Int} (h : (l.length : Int) = 2) : ∃ a b, l = [a, b] := by
  match l, h with
  | [a, b], _ => exact ⟨a, b, rfl⟩
  | [], h => simp at h
  | [a], h => simp at h
  | a :: b :: c :: l, h => simp at h; omega
theorem dd_1 {b : List UInt8} (h : readName b 0 = none) : decodeData b = none := by unfold decodeData; rw [h]
theorem dd_2 {b : List UInt8} {n} (h : readName b 0 = some n) (h2 : readBytes b n.2 60 = none) : decodeData b = none := by unfold decodeData; rw [h]; simp only; rw [h2]
theorem dd_3 {b : List UInt8} {n s} (h : readName b 0 = some n) (h2 : readBytes b n.2 60 = some s) (h3 : readName b s.2 = none) : decodeData b = none := by unfold decodeData; rw [h]; simp only; rw [h2]; simp only; rw [h3]
theorem dd_4 {b : List UInt8} {n s k} (h : readName b 0 = some n) (h2 : readBytes b n.2 60 = some s) (h3 : readName b s.2 = some k) (h4 : decodeInts b k.2 2 = none) : decodeData b = none := by unfold decodeData; rw [h]; simp only; rw [h2]; simp only; rw [h3]; simp only; rw [h4]
theorem dd_5 {b : List UInt8} {n s k l} (h : readName b 0 = some n) (h2 : readBytes b n.2 60 = some s) (h3 : readName b s.2 = some k) (h4 : decodeInts b k.2 2 = some l) (h5 : ¬ l.2 = b.length) : decodeData b = none := by unfold decodeData; rw [h]; simp only; rw [h2]; simp only; rw [h3]; simp only; rw [h4]; exact if_neg h5
theorem dd_6 {b : List UInt8} {n s k l} (h : readName b 0 = some n) (h2 : readBytes b n.2 60 = some s) (h3 : readName b s.2 = some k) (h4 : decodeInts b k.2 2 = some l) (h5 : l.2 = b.length) {l0 l1 : Int} (h6 : l.1 = [l0, l1]) : decodeData b = if f_ValidData (n.1, s.1, k.1, l0, l1) then some (n.1, s.1, k.1, l0, l1) else none := by
  unfold decodeData; rw [h]; simp only; rw [h2]; simp only; rw [h3]; simp only; rw [h4]; simp only [h6]; rw [if_pos h5]; rfl
theorem name_bulk {n : List (List UInt8)} (h : validName n = true) : Ty.bulk (.sl .str) n ≤ 54 ∧ n.length ≤ 6 := by
  have hv := validName_parts h
  have h1 := bulk_strs hv.2
  have : n.length * (8 + 1) ≤ 6 * 9 := Nat.mul_le_mul_right _ hv.1
  exact ⟨by omega, hv.1⟩
theorem data_bulk {n k : List (List UInt8)} {s : List UInt8} {l0 l1 : Int} (h1 : validName n = true) (h2 : s.length ≤ 60) (h3 : validName k = true) : Ty.bulk tData (n, s, k, l0, l1) ≤ 1048576 := by
  have g1 := name_bulk h1
  have g3 := name_bulk h3
  have g2 : Ty.bulk (.sl .byte) s = s.length := Ty.bulk_flat (e := .byte) (fun _ => rfl) s
  show Ty.bulk (.sl .str) n + (Ty.bulk (.sl .byte) s + (Ty.bulk (.sl .str) k + (0 + 0))) ≤ 1048576
  omega
theorem decodeData_bulk {b : List UInt8} {x : tData.D} (h : decodeData b = some x) : Ty.bulk tData x ≤ 1048576 := by
  unfold decodeData at h
  cases h1 : readName b 0 with
  | none => rw [h1] at h; cases h
  | some n =>
    rw [h1] at h; simp only at h
    cases h2 : readBytes b n.2 60 with
    | none => rw [h2] at h; cases h
    | some s =>
      rw [h2] at h; simp only at h
      cases h3 : readName b s.2 with
      | none => rw [h3] at h; cases h
      | some k =>
        rw [h3] at h; simp only at h
        cases h4 : decodeInts b k.2 2 with
        | none => rw [h4] at h; cases h
        | some l =>
          rw [h4] at h; simp only at h
          split at h
          · split at h
            · injection h with h; subst h
              have := readBytes_bd h2
              exact data_bulk (readName_bd h1).1 (by omega) (readName_bd h3).1
            · cases h
          · cases h
theorem N_DecodeData {b : List UInt8} (s0 : Ty.bulk (.sl .byte) b ≤ 1048576) : Ty.cntv tData (f0_DecodeData b) ≤ 100000000000 := by
  refine cntv_bd (t := tData) (B := 1048576) ?_ (by decide)
  unfold f0_DecodeData
  cases h : decodeData b with
  | none => decide
  | some x => exact decodeData_bulk h
end Go.Proofs.Ytmhchmokjconoaa
