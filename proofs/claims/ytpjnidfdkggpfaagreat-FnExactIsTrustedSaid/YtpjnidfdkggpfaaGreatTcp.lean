/- Chains of trust: the data. No program in sight. -/
import Derived.Test.YtpjnidfdkggpfaaGreatRal
import Derived.Test.YtpjnidfdkggpfaaGreatFct
import Derived.Test.YtpjnidfdkggpfaaGreatAnc
import Derived.Test.YtpjnidfdkggpfaaGreatNb
namespace Go.Proofs.YtpjnidfdkggpfaaGreat
open Go.RowKit
set_option linter.unusedVariables false
set_option linter.unusedSimpArgs false

def tcOk (t : tTrustPolicy.D) (x : Ty.D tData) : Bool := f_VerifySignature t.1 x && f_Allowed t.2.1 x.1 x.2.2.1
def certAt (t : tTrustPolicy.D) (n : List (List UInt8)) (now : Int) : Option (Ty.D tData) := if f_FindCertificate t n now < 0 then none else t.2.2.2[(f_FindCertificate t n now).toNat]?
def tcGo (t : tTrustPolicy.D) (now : Int) : Nat → Ty.D tData → List (List (List UInt8)) → List (List (List UInt8)) × Bool
  | 0, _, _ => ([], false)
  | n + 1, x, c => if tcOk t x = false then ([], false) else if f_IsAnchor t x.2.2.1 = true then (c ++ [x.2.2.1], true) else match certAt t x.2.2.1 now with
    | none => ([], false)
    | some y => tcGo t now n y (c ++ [x.2.2.1])
def f0_TrustChain (t : tTrustPolicy.D) (x : Ty.D tData) (now : Int) : List (List (List UInt8)) := (tcGo t now 4 x []).1
def f1_TrustChain (t : tTrustPolicy.D) (x : Ty.D tData) (now : Int) : Bool := (tcGo t now 4 x []).2
theorem tcGo_bad {t : tTrustPolicy.D} {now : Int} {n : Nat} {x : Ty.D tData} {c : List (List (List UInt8))} (h : tcOk t x = false) : tcGo t now n x c = ([], false) := by
  cases n with
  | zero => rfl
  | succ n => unfold tcGo; rw [if_pos h]
theorem tcGo_anchor {t : tTrustPolicy.D} {now : Int} {n : Nat} {x : Ty.D tData} {c : List (List (List UInt8))} (h : tcOk t x = true) (ha : f_IsAnchor t x.2.2.1 = true) : tcGo t now (n + 1) x c = (c ++ [x.2.2.1], true) := by
  unfold tcGo; rw [if_neg (by rw [h]; simp), if_pos ha]
theorem tcGo_miss {t : tTrustPolicy.D} {now : Int} {n : Nat} {x : Ty.D tData} {c : List (List (List UInt8))} (ha : f_IsAnchor t x.2.2.1 = false) (hf : f_FindCertificate t x.2.2.1 now = -1) : tcGo t now n x c = ([], false) := by
  cases n with
  | zero => rfl
  | succ n =>
    unfold tcGo
    split
    · rfl
    · rw [if_neg (by rw [ha]; simp)]
      have : certAt t x.2.2.1 now = none := by unfold certAt; rw [hf]; rfl
      rw [this]
theorem tcGo_next {t : tTrustPolicy.D} {now : Int} {n k : Nat} {x : Ty.D tData} {c : List (List (List UInt8))} (h : tcOk t x = true) (ha : f_IsAnchor t x.2.2.1 = false) (hk : k < List.length t.2.2.2) (hf : f_FindCertificate t x.2.2.1 now = (k : Int)) : tcGo t now (n + 1) x c = tcGo t now n ((t.2.2.2)[k]) (c ++ [x.2.2.1]) := by
  have : certAt t x.2.2.1 now = some ((t.2.2.2)[k]) := by
    unfold certAt; rw [hf, if_neg (by omega), Int.toNat_natCast, List.getElem?_eq_getElem hk]
  show (if tcOk t x = false then ([], false) else if f_IsAnchor t x.2.2.1 = true then (c ++ [x.2.2.1], true) else match certAt t x.2.2.1 now with
    | none => ([], false)
    | some y => tcGo t now n y (c ++ [x.2.2.1])) = _
  rw [if_neg (by rw [h]; simp), if_neg (by rw [ha]; simp), this]
theorem find_cases (t : tTrustPolicy.D) (n : List (List UInt8)) (now : Int) : f_FindCertificate t n now = -1 ∨ ∃ k : Nat, k < List.length t.2.2.2 ∧ f_FindCertificate t n now = (k : Int) := by
  unfold f_FindCertificate
  split
  · exact .inl rfl
  · rcases ixf_lt (certOk t n now) t.2.2.2 with h | ⟨h1, h2⟩
    · exact .inl h
    · exact .inr ⟨(ixf (certOk t n now) t.2.2.2).toNat, by omega, by omega⟩
theorem data_bulk_key {x : tData.D} {n : Nat} (s : Ty.bulk tData x ≤ n) : Ty.bulk (.sl .str) x.1 ≤ n ∧ Ty.bulk (.sl .str) x.2.2.1 ≤ n := by
  have h1 : Ty.bulk (.sl .str) x.1 + (Ty.bulk (.sl .byte) x.2.1 + (Ty.bulk (.sl .str) x.2.2.1 + (0 + 0))) ≤ n := s
  exact ⟨by omega, by omega⟩
theorem tcGo_bulk {t : tTrustPolicy.D} {now : Int} {M : Nat} (hc : ∀ k (h : k < List.length t.2.2.2), Ty.bulk tData ((t.2.2.2)[k]) ≤ M) : ∀ (n : Nat) (x : Ty.D tData) (c : List (List (List UInt8))), Ty.bulk tData x ≤ M → Ty.bulk (.sl (.sl .str)) (tcGo t now n x c).1 ≤ Ty.bulk (.sl (.sl .str)) c + n * (M + 1)
  | 0, _, _, _ => Nat.zero_le _
  | n + 1, x, c, hx => by
    have h1 := bulk_app (e := .sl .str) c [x.2.2.1]
    have h2 := bulk_one (e := .sl .str) x.2.2.1
    have h3 := (data_bulk_key hx).2
    have h4 : (n + 1) * (M + 1) = n * (M + 1) + (M + 1) := Nat.succ_mul _ _
    unfold tcGo
    split
    · exact Nat.zero_le _
    · split
      · show Ty.bulk (.sl (.sl .str)) (c ++ [x.2.2.1]) ≤ _
        omega
      · cases hq : certAt t x.2.2.1 now with
        | none => exact Nat.zero_le _
        | some y =>
          have hy : Ty.bulk tData y ≤ M := by
            unfold certAt at hq
            split at hq
            · cases hq
            · obtain ⟨hk, rfl⟩ := List.getElem?_eq_some_iff.1 hq
              exact hc _ hk
          have := tcGo_bulk (now := now) hc n y (c ++ [x.2.2.1]) hy
          show Ty.bulk (.sl (.sl .str)) (tcGo t now n y (c ++ [x.2.2.1])).1 ≤ _
          omega
theorem N_TrustChain {t : tTrustPolicy.D} {x : Ty.D tData} {now : Int} (s0 : Ty.bulk tTrustPolicy t ≤ 1048576) (s1 : Ty.bulk tData x ≤ 1048576) : Ty.cnt (.sl (.sl .str)) (f0_TrustChain t x now) ≤ 100000000000 := by
  obtain ⟨_, _, _, hd⟩ := trust_parts s0
  have h := tcGo_bulk (t := t) (now := now) (M := 1048576) (fun k hk => Ty.bulk_at hd hk) 4 x [] s1
  refine cnt_bd (t := .sl (.sl .str)) (B := 5000000) (Nat.le_trans h ?_) (by decide)
  show 0 + 4 * (1048576 + 1) ≤ 5000000
  decide
end Go.Proofs.YtpjnidfdkggpfaaGreat
