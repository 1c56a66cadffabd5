/- Texts of this claim, merged by a program: Cod Drg Swk Ixf Mat Rwd Tru Dtr Old Tpg Smg Lat. -/
import Derived.Test.YtldgbnlcnlfmeaaQhP
import Derived.Test.YtldgbnlcnlfmeaaQh13
import Derived.Test.YtldgbnlcnlfmeaaQh9
import Derived.Test.YtldgbnlcnlfmeaaQh3
import Derived.Test.YtldgbnlcnlfmeaaQh7
import Derived.Test.YtldgbnlcnlfmeaaQh5
import Derived.Test.YtldgbnlcnlfmeaaQh2
import Derived.Test.YtldgbnlcnlfmeaaQh1
import Derived.Laws.CopyRow
import Derived.Maps.AppendAt
import Derived.Test.YtldgbnlcnlfmeaaQh4
import Derived.Deep.RegionHeld3
import Derived.Deep.DeepCutAuto
import Derived.Test.YtldgbnlcnlfmeaaQh6
import Derived.BigQuiet
namespace Go.Proofs.Ytldgbnlcnlfmeaa
open Go.RowKit
set_option linter.unusedVariables false
set_option linter.unusedSimpArgs false
theorem hi_nat (q : Nat) : (hiByte q).toNat = q % 128 + 128 := by have := hiByte_nat q; omega
theorem at_pre {b pre s : List UInt8} {c : UInt8} {p : Nat} (hb : b = pre ++ (c :: s)) (hp : pre.length = p) : ∃ h : p < b.length, b[p] = c := by
 subst hb; subst hp
 exact ⟨by simp, by simp⟩
theorem rv_small {b s pre : List UInt8} {m f k acc q : Nat} (hb : b = pre ++ (varint q ++ s)) (hp : pre.length = m + k) (hq : q < 128) (hn : acc + q * 128 ^ k ≤ 1000000000000) (hk : 0 < k → 0 < q) : rvLoop b m (f + 1) k acc = some (acc + q * 128 ^ k, m + k + (varint q).length) := by
 have hv : varint q = [UInt8.ofNat q] := by rw [varint, dif_pos hq]
 rw [hv] at hb
 obtain ⟨hl, hg⟩ := at_pre (c := UInt8.ofNat q) hb hp
 have hc : b[m + k].toNat = q := by rw [hg, UInt8.toNat_ofNat']; omega
 have e1 : q % 128 = q := by omega
 rw [rv_yes rfl hl hc hq (by
  rw [e1]
  rintro (⟨h1, h2⟩ | h1)
  ·have := hk h2; omega
  ·omega), e1, hv]
 rfl
theorem rv_fwd {b s : List UInt8} {m : Nat} : ∀ (f k acc q : Nat) (pre : List UInt8), b = pre ++ (varint q ++ s) → pre.length = m + k → q < 128 ^ (f + 1) → acc + q * 128 ^ k ≤ 1000000000000 → (0 < k → 0 < q) → rvLoop b m (f + 1) k acc = some (acc + q * 128 ^ k, m + k + (varint q).length) := by
 intro f
 induction f with
 | zero =>
  intro k acc q pre hb hp hq hn hk
  exact rv_small hb hp (by simpa using hq) hn hk
 | succ f ih =>
  intro k acc q pre hb hp hq hn hk
  by_cases h : q < 128
  ·exact rv_small hb hp h hn hk
  ·have hv : varint q = hiByte q :: varint (q / 128) := by rw [varint, dif_neg h]
   have hb' := hb
   rw [hv] at hb
   obtain ⟨hl, hg⟩ := at_pre (c := hiByte q) hb hp
   have hc : b[m + k].toNat = q % 128 + 128 := by rw [hg, hi_nat]
   have e1 : (q % 128 + 128) % 128 = q % 128 := by omega
   have e2 : q % 128 * 128 ^ k + q / 128 * 128 ^ (k + 1) = q * 128 ^ k := by
    rw [Nat.pow_succ, Nat.mul_comm (128 ^ k) 128, ← Nat.mul_assoc, ← Nat.add_mul]
    congr 1
    omega
   have e3 : q / 128 < 128 ^ (f + 1) := Nat.div_lt_of_lt_mul (by rw [Nat.mul_comm, ← Nat.pow_succ]; exact hq)
   rw [rv_go rfl hl hc b_29, e1, ih (k + 1) (acc + q % 128 * 128 ^ k) (q / 128) (pre ++ [hiByte q]) (by rw [hb]; simp) (by rw [List.length_append, hp]; rfl) e3 (by rw [Nat.add_assoc, e2]; exact hn) (fun _ => by omega), Nat.add_assoc acc, e2, hv]
   simp only [List.length_cons]
   congr 2
   omega
theorem readVarint_fwd (pre s : List UInt8) {n : Nat} (hn : n ≤ 1000000000000) : readVarint (pre ++ (varint n ++ s)) (pre.length : Int) = some (n, pre.length + (varint n).length) := by
 unfold readVarint
 rw [if_neg b_29, Int.toNat_natCast, rv_fwd 5 0 0 n pre rfl rfl (Nat.lt_of_le_of_lt hn b_28) (by simpa using hn) b_29]
 simp
theorem appendBytes_eq (pre s : List UInt8) (hs : s.length ≤ 1000000000000) : f_AppendBytes pre s = pre ++ (varint s.length ++ s) := by
 unfold f_AppendBytes f_AppendVarint
 rw [if_pos ⟨by omega, by omega⟩, Int.toNat_natCast, List.append_assoc]
theorem appendVarint_eq (pre : List UInt8) {n : Int} (h : 0 ≤ n ∧ n ≤ 1000000000000) : f_AppendVarint pre n = pre ++ varint n.toNat := by
 unfold f_AppendVarint; rw [if_pos h]
theorem appendVarint_pre (a b : List UInt8) (n : Int) : f_AppendVarint (a ++ b) n = a ++ f_AppendVarint b n := by
 unfold f_AppendVarint
 split
 ·rw [List.append_assoc]
 ·rfl
theorem appendBytes_pre (a b s : List UInt8) : f_AppendBytes (a ++ b) s = a ++ f_AppendBytes b s := by
 unfold f_AppendBytes; rw [appendVarint_pre, List.append_assoc]
theorem foldBytes_pre : ∀ (l : List (List UInt8)) (a b : List UInt8), l.foldl f_AppendBytes (a ++ b) = a ++ l.foldl f_AppendBytes b
 | [], _, _ => rfl
 | s :: l, a, b => by rw [List.foldl_cons, appendBytes_pre, foldBytes_pre l]; rfl
theorem foldVarint_pre : ∀ (l : List Int) (a b : List UInt8), l.foldl f_AppendVarint (a ++ b) = a ++ l.foldl f_AppendVarint b
 | [], _, _ => rfl
 | s :: l, a, b => by rw [List.foldl_cons, appendVarint_pre, foldVarint_pre l]; rfl
theorem appendName_pre (a b : List UInt8) (n : List (List UInt8)) : f_AppendName (a ++ b) n = a ++ f_AppendName b n := by
 unfold f_AppendName nameBytes
 split
 ·rw [appendVarint_pre, foldBytes_pre]
 ·rfl
theorem fold_ints (l : List Int) (a : List UInt8) : a ++ f_EncodeInts l = l.foldl f_AppendVarint a := by
 have := foldVarint_pre l a []
 rw [List.append_nil] at this
 exact this.symm
theorem readBytes_fwd (pre s t : List UInt8) {most : Int} (h1 : (s.length : Int) ≤ most) (h2 : s.length ≤ 1000000000000) : readBytes (f_AppendBytes pre s ++ t) (pre.length : Int) most = some (s, (f_AppendBytes pre s).length) := by
 have e0 : f_AppendBytes pre s ++ t = pre ++ (varint s.length ++ (s ++ t)) := by rw [appendBytes_eq _ _ h2]; simp
 have hv := readVarint_fwd pre (s ++ t) h2
 rw [e0, readBytes_yes hv (by simp; omega), appendBytes_eq _ _ h2]
 have e1 : (pre ++ (varint s.length ++ (s ++ t))).drop (pre.length + (varint s.length).length) = s ++ t := by
  rw [← List.append_assoc, show pre.length + (varint s.length).length = (pre ++ varint s.length).length from by simp, List.drop_left]
 simp only [e1]
 rw [List.take_left]
 simp [Nat.add_assoc]
theorem rnLoop_fwd : ∀ (l : List (List UInt8)) (pre t : List UInt8) (acc : List (List UInt8)), (∀ s ∈ l, s.length ≤ 8) → rnLoop (l.foldl f_AppendBytes pre ++ t) l.length pre.length acc = some (acc ++ l, (l.foldl f_AppendBytes pre).length)
 | [], pre, t, acc, _ => by simp [rnLoop]
 | s :: l, pre, t, acc, h => by
  have hs := h s b_30
  have e : l.foldl f_AppendBytes (f_AppendBytes pre s) = f_AppendBytes pre s ++ l.foldl f_AppendBytes [] := by
   have := foldBytes_pre l (f_AppendBytes pre s) []
   rw [List.append_nil] at this
   exact this
  have hr : readBytes ((s :: l).foldl f_AppendBytes pre ++ t) (pre.length : Int) 8 = some (s, (f_AppendBytes pre s).length) := by
   rw [List.foldl_cons, e, List.append_assoc]
   exact readBytes_fwd pre s _ b_29 b_29
  show (match readBytes ((s :: l).foldl f_AppendBytes pre ++ t) (pre.length : Int) 8 with | none => none | some q => rnLoop ((s :: l).foldl f_AppendBytes pre ++ t) l.length q.2 (acc ++ [q.1])) = _
  rw [hr]
  show rnLoop (l.foldl f_AppendBytes (f_AppendBytes pre s) ++ t) l.length (f_AppendBytes pre s).length (acc ++ [s]) = _
  rw [rnLoop_fwd l (f_AppendBytes pre s) t (acc ++ [s]) (fun q hq => h q (by simp [hq]))]
  simp
theorem readName_fwd (pre t : List UInt8) {n : List (List UInt8)} (hn : validName n = true) : readName (f_AppendName pre n ++ t) (pre.length : Int) = some (n, (f_AppendName pre n).length) := by
 obtain ⟨h6, h8⟩ := validName_parts hn
 have e0 : f_AppendName pre n = n.foldl f_AppendBytes (pre ++ varint n.length) := by
  unfold f_AppendName nameBytes
  rw [if_pos hn, appendVarint_eq _ ⟨by omega, by omega⟩, Int.toNat_natCast]
 have e1 : n.foldl f_AppendBytes (pre ++ varint n.length) = pre ++ (varint n.length ++ n.foldl f_AppendBytes []) := by
  have := foldBytes_pre n (pre ++ varint n.length) []
  rw [List.append_nil] at this
  rw [this, List.append_assoc]
 have hv : readVarint (f_AppendName pre n ++ t) (pre.length : Int) = some (n.length, pre.length + (varint n.length).length) := by
  rw [e0, e1, List.append_assoc, List.append_assoc]
  exact readVarint_fwd pre _ b_29
 rw [readName_go hv (by simp only; omega)]
 have hl := rnLoop_fwd n (pre ++ varint n.length) t [] h8
 rw [List.length_append] at hl
 simp only
 rw [e0, hl]
 simp only [List.nil_append, hn, if_true]
theorem diLoop_fwd : ∀ (l : List Int) (pre t : List UInt8) (acc : List Int), (∀ s ∈ l, 0 ≤ s ∧ s ≤ 1000000000000) → diLoop (l.foldl f_AppendVarint pre ++ t) l.length pre.length acc = some (acc ++ l, (l.foldl f_AppendVarint pre).length)
 | [], pre, t, acc, _ => by simp [diLoop]
 | s :: l, pre, t, acc, h => by
  have hs := h s b_30
  have e : l.foldl f_AppendVarint (f_AppendVarint pre s) = f_AppendVarint pre s ++ l.foldl f_AppendVarint [] := by
   have := foldVarint_pre l (f_AppendVarint pre s) []
   rw [List.append_nil] at this
   exact this
  have hr : readVarint ((s :: l).foldl f_AppendVarint pre ++ t) (pre.length : Int) = some (s.toNat, (f_AppendVarint pre s).length) := by
   rw [List.foldl_cons, e, List.append_assoc, appendVarint_eq _ hs, List.append_assoc, readVarint_fwd pre _ b_29, List.length_append]
  show (match readVarint ((s :: l).foldl f_AppendVarint pre ++ t) (pre.length : Int) with | none => none | some q => diLoop ((s :: l).foldl f_AppendVarint pre ++ t) l.length q.2 (acc ++ [(q.1 : Int)])) = _
  rw [hr]
  show diLoop (l.foldl f_AppendVarint (f_AppendVarint pre s) ++ t) l.length (f_AppendVarint pre s).length (acc ++ [((s.toNat : Nat) : Int)]) = _
  rw [diLoop_fwd l (f_AppendVarint pre s) t _ (fun q hq => h q (by simp [hq])), Int.toNat_of_nonneg hs.1]
  simp
theorem decodeInts_fwd (pre t : List UInt8) {l : List Int} (h : ∀ s ∈ l, 0 ≤ s ∧ s ≤ 1000000000000) (hl : l.length ≤ 100) : decodeInts (l.foldl f_AppendVarint pre ++ t) (pre.length : Int) (l.length : Int) = some (l, (l.foldl f_AppendVarint pre).length) := by
 unfold decodeInts
 have e : l.foldl f_AppendVarint pre = pre ++ l.foldl f_AppendVarint [] := by
  have := foldVarint_pre l pre []
  rw [List.append_nil] at this
  exact this
 have h1 : inR (l.length : Int) 0 100 = true := by simp [inR]; omega
 have h2 : inR (pre.length : Int) 0 ((l.foldl f_AppendVarint pre ++ t).length : Int) = true := by rw [e]; simp [inR]; omega
 rw [h1, h2]
 simp only [Bool.and_self, if_true, Int.toNat_natCast]
 rw [diLoop_fwd l pre t [] h]
 simp
theorem inR_bd {x a b : Int} (h : inR x a b = true) : a ≤ x ∧ x ≤ b := by unfold inR at h; simpa using h
theorem validData_parts {x : tData.D} (h : f_ValidData x = true) : validName x.1 = true ∧ 0 < x.1.length ∧ x.2.1.length ≤ 60 ∧ validName x.2.2.1 = true ∧ inR x.2.2.2.1 0 100000 = true ∧ inR x.2.2.2.2 0 2147483646 = true := by
 unfold f_ValidData at h
 simp only [Bool.and_eq_true, decide_eq_true_eq] at h
 exact h
theorem decode_encode {x : tData.D} (h : f_ValidData x = true) : decodeData (f_EncodeData x) = some x := by
 obtain ⟨h1, h2, h3, h4, h5', h6'⟩ := validData_parts h
 have h5 := inR_bd h5'
 have h6 := inR_bd h6'
 have e : f_EncodeData x = [x.2.2.2.1, x.2.2.2.2].foldl f_AppendVarint (f_AppendName (f_AppendBytes (f_AppendName [] x.1) x.2.1) x.2.2.1) := by
  unfold f_EncodeData; rw [if_pos h, fold_ints]
 have e1 : f_AppendName (f_AppendBytes (f_AppendName [] x.1) x.2.1) x.2.2.1 = f_AppendBytes (f_AppendName [] x.1) x.2.1 ++ f_AppendName [] x.2.2.1 := by
  have := appendName_pre (f_AppendBytes (f_AppendName [] x.1) x.2.1) [] x.2.2.1
  rw [List.append_nil] at this; exact this
 have e2 : f_AppendBytes (f_AppendName [] x.1) x.2.1 = f_AppendName [] x.1 ++ f_AppendBytes [] x.2.1 := by
  have := appendBytes_pre (f_AppendName [] x.1) [] x.2.1
  rw [List.append_nil] at this; exact this
 have e3 : ∀ a : List UInt8, [x.2.2.2.1, x.2.2.2.2].foldl f_AppendVarint a = a ++ [x.2.2.2.1, x.2.2.2.2].foldl f_AppendVarint [] := fun a => by
  have := foldVarint_pre [x.2.2.2.1, x.2.2.2.2] a []
  rw [List.append_nil] at this; exact this
 have r1 : readName (f_EncodeData x) 0 = some (x.1, (f_AppendName [] x.1).length) := by
  rw [e, e3, e1, e2, List.append_assoc, List.append_assoc]
  exact readName_fwd [] _ h1
 have r2 : readBytes (f_EncodeData x) ((f_AppendName [] x.1).length : Nat) 60 = some (x.2.1, (f_AppendBytes (f_AppendName [] x.1) x.2.1).length) := by
  rw [e, e3, e1, List.append_assoc]
  exact readBytes_fwd _ _ _ b_29 b_29
 have r3 : readName (f_EncodeData x) ((f_AppendBytes (f_AppendName [] x.1) x.2.1).length : Nat) = some (x.2.2.1, (f_AppendName (f_AppendBytes (f_AppendName [] x.1) x.2.1) x.2.2.1).length) := by
  rw [e, e3]
  exact readName_fwd _ _ h4
 have r4 : decodeInts (f_EncodeData x) ((f_AppendName (f_AppendBytes (f_AppendName [] x.1) x.2.1) x.2.2.1).length : Nat) 2 = some ([x.2.2.2.1, x.2.2.2.2], (f_EncodeData x).length) := by
  have := decodeInts_fwd (f_AppendName (f_AppendBytes (f_AppendName [] x.1) x.2.1) x.2.2.1) [] (l := [x.2.2.2.1, x.2.2.2.2]) (by
   intro s hs
   simp only [List.mem_cons, List.not_mem_nil, or_false] at hs
   rcases hs with rfl | rfl <;> omega) b_30
  rw [List.append_nil] at this
  rw [← e] at this
  exact this
 rw [dd_6 r1 r2 r3 r4 rfl rfl]
 exact if_pos h
theorem rv_bwd {b : List UInt8} {m : Nat} : ∀ {f k acc : Nat} {r : Nat × Nat}, rvLoop b m f k acc = some r → ∃ q, r.1 = acc + q * 128 ^ k ∧ b.take r.2 = b.take (m + k) ++ varint q ∧ (0 < k → 0 < q)
 | 0, _, _, _, h => by simp [rvLoop] at h
 | f + 1, k, acc, r, h => by
  rw [rvLoop] at h
  cases hc : b[m + k]? with
  | none => rw [hc] at h; cases h
  | some c =>
   rw [hc] at h
   simp only at h
   obtain ⟨hl, hg⟩ := List.getElem?_eq_some_iff.1 hc
   have ht : b.take (m + k + 1) = b.take (m + k) ++ [c] := by rw [List.take_add_one, hc]; rfl
   have hcl : c.toNat < 256 := c.toNat_lt
   split at h
   ·rename_i h1
    split at h
    ·cases h
    ·rename_i h2
     injection h with h
     subst h
     refine ⟨c.toNat, by simp only; rw [show c.toNat % 128 = c.toNat from by omega], ?_, fun hk => by omega⟩
     simp only
     rw [ht, varint, dif_pos h1, UInt8.ofNat_toNat]
   ·rename_i h1
    obtain ⟨q, hq1, hq2, hq3⟩ := rv_bwd h
    have hq0 := hq3 b_29
    have e1 : (c.toNat % 128 + 128 * q) / 128 = q := by omega
    have e2 : (c.toNat % 128 + 128 * q) % 128 + 128 = c.toNat := by omega
    refine ⟨c.toNat % 128 + 128 * q, ?_, ?_, fun _ => by omega⟩
    ·rw [hq1, Nat.add_mul, Nat.pow_succ, Nat.mul_comm (128 ^ k) 128, ← Nat.mul_assoc, Nat.mul_comm q 128, Nat.add_assoc]
    ·rw [hq2, varint.eq_def (c.toNat % 128 + 128 * q), dif_neg b_29, e1, ← Nat.add_assoc, ht, List.append_assoc]
     congr 1
     have : hiByte (c.toNat % 128 + 128 * q) = c := by apply UInt8.toNat_inj.1; rw [hi_nat, e2]
     rw [this]
     rfl
theorem readVarint_bwd {b : List UInt8} {a : Int} {r : Nat × Nat} (h : readVarint b a = some r) : b.take r.2 = f_AppendVarint (b.take a.toNat) r.1 := by
 have hb := readVarint_bd h
 have hn := readVarint_nn h
 unfold readVarint at h
 rw [if_neg b_29] at h
 obtain ⟨q, h1, h2, -⟩ := rv_bwd h
 rw [appendVarint_eq _ ⟨by omega, by omega⟩, Int.toNat_natCast, h2, h1]
 simp
theorem readBytes_bwd {b : List UInt8} {a most : Int} {r : List UInt8 × Nat} (h : readBytes b a most = some r) : b.take r.2 = f_AppendBytes (b.take a.toNat) r.1 := by
 unfold readBytes at h
 cases hv : readVarint b a with
 | none => rw [hv] at h; cases h
 | some q =>
  rw [hv] at h
  simp only at h
  have hb := readVarint_bd hv
  split at h
  ·cases h
  ·rename_i h1
   injection h with h
   subst h
   have e : ((b.drop q.2).take q.1).length = q.1 := by rw [List.length_take, List.length_drop]; omega
   unfold f_AppendBytes
   simp only [e]
   rw [← readVarint_bwd hv, List.take_add]
theorem rnLoop_bwd {b : List UInt8} : ∀ {k p : Nat} {acc : List (List UInt8)} {r : List (List UInt8) × Nat}, rnLoop b k p acc = some r → ∃ l, r.1 = acc ++ l ∧ l.length = k ∧ b.take r.2 = l.foldl f_AppendBytes (b.take p)
 | 0, p, acc, r, h => by rw [rnLoop] at h; injection h with h; subst h; exact ⟨[], by simp, rfl, rfl⟩
 | k + 1, p, acc, r, h => by
  rw [rnLoop] at h
  cases hv : readBytes b p 8 with
  | none => rw [hv] at h; cases h
  | some q =>
   rw [hv] at h
   have hb := readBytes_bwd hv
   obtain ⟨l, h1, h2, h3⟩ := rnLoop_bwd h
   rw [Int.toNat_natCast] at hb
   exact ⟨q.1 :: l, by rw [h1]; simp, by simp [h2], by rw [h3, hb]; rfl⟩
theorem readName_bwd {b : List UInt8} {a : Int} {r : List (List UInt8) × Nat} (h : readName b a = some r) : b.take r.2 = f_AppendName (b.take a.toNat) r.1 := by
 have hok := (readName_bd h).1
 unfold readName at h
 cases hv : readVarint b a with
 | none => rw [hv] at h; cases h
 | some q =>
  rw [hv] at h
  simp only at h
  split at h
  ·cases h
  ·cases hl : rnLoop b q.1 q.2 [] with
   | none => rw [hl] at h; cases h
   | some r' =>
    rw [hl] at h
    simp only at h
    split at h
    ·injection h with h
     subst h
     obtain ⟨l, h1, h2, h3⟩ := rnLoop_bwd hl
     rw [List.nil_append] at h1
     unfold f_AppendName nameBytes
     rw [if_pos hok, h3, h1, h2, ← readVarint_bwd hv]
    ·cases h
theorem diLoop_bwd {b : List UInt8} : ∀ {k p : Nat} {acc : List Int} {r : List Int × Nat}, diLoop b k p acc = some r → ∃ l, r.1 = acc ++ l ∧ l.length = k ∧ b.take r.2 = l.foldl f_AppendVarint (b.take p)
 | 0, p, acc, r, h => by rw [diLoop] at h; injection h with h; subst h; exact ⟨[], by simp, rfl, rfl⟩
 | k + 1, p, acc, r, h => by
  rw [diLoop] at h
  cases hv : readVarint b p with
  | none => rw [hv] at h; cases h
  | some q =>
   rw [hv] at h
   have hb := readVarint_bwd hv
   obtain ⟨l, h1, h2, h3⟩ := diLoop_bwd h
   rw [Int.toNat_natCast] at hb
   exact ⟨(q.1 : Int) :: l, by rw [h1]; simp, by simp [h2], by rw [h3, hb]; rfl⟩
theorem decodeInts_bwd {b : List UInt8} {a n : Int} {r : List Int × Nat} (h : decodeInts b a n = some r) : b.take r.2 = r.1.foldl f_AppendVarint (b.take a.toNat) := by
 unfold decodeInts at h
 split at h
 ·obtain ⟨l, h1, h2, h3⟩ := diLoop_bwd h
  rw [List.nil_append] at h1
  rw [h3, h1]
 ·cases h
theorem encode_decode {b : List UInt8} {x : tData.D} (h : decodeData b = some x) : f_ValidData x = true ∧ f_EncodeData x = b := by
 unfold decodeData at h
 cases h1 : readName b 0 with
 | none => rw [h1] at h; cases h
 | some n =>
  rw [h1] at h
  simp only at h
  cases h2 : readBytes b n.2 60 with
  | none => rw [h2] at h; cases h
  | some s =>
   rw [h2] at h
   simp only at h
   cases h3 : readName b s.2 with
   | none => rw [h3] at h; cases h
   | some kn =>
    rw [h3] at h
    simp only at h
    cases h4 : decodeInts b kn.2 2 with
    | none => rw [h4] at h; cases h
    | some l =>
     rw [h4] at h
     simp only at h
     split at h
     ·rename_i h5
      split at h
      ·rename_i h6
       injection h with h
       subst h
       refine ⟨h6, ?_⟩
       obtain ⟨l0, l1, e⟩ := two_of (decodeInts_bd h4).1
       have b1 := readName_bwd h1
       have b2 := readBytes_bwd h2
       have b3 := readName_bwd h3
       have b4 := decodeInts_bwd h4
       rw [Int.toNat_natCast] at b2 b3 b4
       unfold f_EncodeData
       rw [if_pos h6, fold_ints]
       rw [h5, List.take_length, e, b3, b2, b1] at b4
       rw [b4, e]
       rfl
      ·cases h
     ·cases h
theorem f1_Decode {b : List UInt8} (h : f1_DecodeData b = true) : f_ValidData (f0_DecodeData b) = true ∧ f_EncodeData (f0_DecodeData b) = b := by
 unfold f1_DecodeData at h
 unfold f0_DecodeData
 cases hd : decodeData b with
 | none => rw [hd] at h; cases h
 | some x => exact encode_decode hd
theorem decode_nil : decodeData [] = none := by decide
theorem f1_back (x : tData.D) : f1_DecodeData (f_EncodeData x) = f_ValidData x := by
 unfold f1_DecodeData
 cases h : f_ValidData x with
 | true => rw [decode_encode h]; rfl
 | false => rw [show f_EncodeData x = [] from by unfold f_EncodeData; rw [h]; rfl, decode_nil]; rfl
theorem f0_back {x : tData.D} (h : f_ValidData x = true) : f0_DecodeData (f_EncodeData x) = x := by
 unfold f0_DecodeData; rw [decode_encode h]; rfl
theorem DRow.dr {e : Ty} {B : Nat} {w w' : World} {base : Nat} {te : TypeId} {v : Value} {x : List e.D} (h : DRow e w base te v x) (hd : Dr B w w') (hB : B < base) : DRow e w' base te v x := by
 obtain ⟨css, fs, h1, h2, h3, h4⟩ := h
 refine ⟨css, fs, ⟨h1.1, ?_⟩, fun i hi => ⟨(h2 i hi).1, Dr.ow hd (h2 i hi).2 (fun hm => ?_)⟩, h3.mono (Nat.le_refl _) hd.size, h4⟩
 ·rcases h1.2 with hn | ⟨g, cap, cur, rfl, hbg, hgg, rest⟩
  ·exact .inl hn
  ·exact .inr ⟨g, cap, cur, rfl, hbg, (Dr.block hd (Blk.lt (t := te) (cs := cur) hgg) b_29).trans hgg, rest⟩
 ·have hm2 : B ∈ (List.range x.length).flatMap fs := List.mem_flatMap.2 ⟨i, List.mem_range.2 hi, hm⟩
  have := (h3.2 B hm2).1; omega
theorem DRow.rdH {e : Ty} {B : Nat} {w : World} {base : Nat} {te : TypeId} {v : Value} {x : List e.D} (h : DRow e w base te v x) (hB : B < base) : (Ty.sl e).rd (hide B w) [v] x := by
 obtain ⟨A, c, fp, _, how, hfr⟩ := h.own
 exact Ty.ow_rd (ow_hideF how hfr hB)
def zeroData : tData.D := ([], [], [], 0, 0)
abbrev tBinding : Ty := .pr .str .str
def RetBs (w : World) (r : List (Ty.D tBinding) × Bool) (e : Ending) (w' : World) : Prop := ∃ v, e = .returned (.tuple #[v, .bool r.2]) ∧ (Ty.sl tBinding).rd w' [v] r.1 ∧ Below w.heap.size w w'
theorem RetBs.mk {w w' : World} {r : List (Ty.D tBinding) × Bool} {v : Value} {l : List (Ty.D tBinding)} {b : Bool} (hr : r = (l, b)) (h : (Ty.sl tBinding).rd w' [v] l) (hb : Below w.heap.size w w') : RetBs w r (.returned (.tuple #[v, .bool b])) w' := by
 subst hr; exact ⟨v, rfl, h, hb⟩
theorem DRowF.parts {e : Ty} {w : World} {base : Nat} {te : TypeId} {v : Value} {x : List e.D} {fp : List Nat} (h : DRowF e w base te v x fp) (h0 : 0 < x.length) :
  ∃ (g cap : Nat) (cur : Array Value) (css : Nat → List Value) (fs : Nat → List Nat), v = .slice (some ⟨g, 0, none⟩) x.length cap ∧ base ≤ g ∧ Blk w g te cur ∧ x.length ≤ cap ∧ cap ≤ maxLen ∧ cur.size = cap * e.sz ∧ cur.toList.take (x.length * e.sz) = (List.range x.length).flatMap css ∧
   (∀ i (h : i < x.length), (css i).length = e.sz ∧ e.ow w (css i) x[i] (fs i)) ∧ fp = (List.range x.length).flatMap fs ∧ g ∉ fp := by
 obtain ⟨css, fs, h1, h2, h3, h4⟩ := h
 rcases h1.2 with ⟨_, hn⟩ | ⟨g, cap, cur, rfl, hbg, hg, hnc, hcm, hcs, htake⟩
 ·omega
 ·exact ⟨g, cap, cur, css, fs, rfl, hbg, hg, hnc, hcm, hcs, htake, h2, h3, h4 g rfl⟩
theorem row_cell {e : Ty} {w : World} {x : List e.D} {g : Nat} {te : TypeId} {cur : Array Value} {css : Nat → List Value} (hB : Blk w g te cur) (htake : cur.toList.take (x.length * e.sz) = (List.range x.length).flatMap css) (hcs : ∀ i, i < x.length → (css i).length = e.sz) {i j : Nat} (hi : i < x.length) (hj : j < e.sz) :
  w.cell? ⟨g, i * e.sz + j, none⟩ = (css i)[j]? := by
 have hlt : i * e.sz + j < x.length * e.sz := by
  have h5 : (i + 1) * e.sz ≤ x.length * e.sz := Nat.mul_le_mul_right _ hi
  rw [Nat.succ_mul] at h5; omega
 rw [hB.cell, ← Array.getElem?_toList, ← fmr_get css e.sz x.length hcs i j hi hj, ← htake, List.getElem?_take_of_lt hlt]
theorem SrcF.head {e : Ty} {w : World} {x : List e.D} {g cap k : Nat} {te : TypeId} {cur : Array Value} {css : Nat → List Value} {fs : Nat → List Nat} (hB : Blk w g te cur) (htake : cur.toList.take (x.length * e.sz) = (List.range x.length).flatMap css)
  (h2 : ∀ i (h : i < x.length), (css i).length = e.sz ∧ e.ow w (css i) x[i] (fs i)) (hk : k ≤ x.length) : SrcF e w (.slice (some ⟨g, 0, none⟩) k cap) (x.take k) ((List.range k).flatMap fs) := by
 have hl : (x.take k).length = k := by rw [List.length_take]; omega
 refine ⟨_, cap, fs, by rw [hl], by rw [hl], fun h0 => ⟨g, 0, rfl, fun i hi => ?_⟩⟩
 rw [hl] at hi
 refine ⟨css i, (h2 i b_29).1, fun j hj => ?_, ?_⟩
 ·rw [Nat.zero_add]; exact row_cell hB htake (fun i hi => (h2 i hi).1) b_29 hj
 ·rw [List.getElem_take]; exact (h2 i b_29).2
theorem SrcF.tail {e : Ty} {w : World} {x : List e.D} {g c k : Nat} {te : TypeId} {cur : Array Value} {css : Nat → List Value} {fs : Nat → List Nat} {A : Addr} (hB : Blk w g te cur) (htake : cur.toList.take (x.length * e.sz) = (List.range x.length).flatMap css)
  (h2 : ∀ i (h : i < x.length), (css i).length = e.sz ∧ e.ow w (css i) x[i] (fs i)) (hA : k < x.length → A = ⟨g, k * e.sz, none⟩) : SrcF e w (.slice (some A) (x.length - k) c) (x.drop k) ((List.range (x.length - k)).flatMap (fun i => fs (k + i))) := by
 have hl : (x.drop k).length = x.length - k := List.length_drop
 refine ⟨_, c, fun i => fs (k + i), by rw [hl], by rw [hl], fun h0 => ⟨g, k * e.sz, by rw [hA b_29], fun i hi => ?_⟩⟩
 rw [hl] at hi
 refine ⟨css (k + i), (h2 _ b_29).1, fun j hj => ?_, ?_⟩
 ·rw [← Nat.add_mul]; exact row_cell hB htake (fun i hi => (h2 i hi).1) b_29 hj
 ·rw [List.getElem_drop]; exact (h2 _ b_29).2
theorem DRow.keep {e : Ty} {w w' : World} {base : Nat} {te : TypeId} {v : Value} {x : List e.D} (h : DRow e w base te v x) (hsz : w.heap.size ≤ w'.heap.size) (hk : ∀ b, base ≤ b → b < w.heap.size → w'.heap[b]? = w.heap[b]?) : DRow e w' base te v x := by
 have hbl := h.block
 obtain ⟨css, fs, h1, h2, h3, h4⟩ := h
 refine ⟨css, fs, ⟨h1.1, ?_⟩, fun i hi => ⟨(h2 i hi).1, Ty.ow_keep (fun b hb' => ?_) (h2 i hi).2⟩, h3.mono (Nat.le_refl _) hsz, h4⟩
 ·rcases h1.2 with hn | ⟨g, cap, cur, rfl, hbg, hgg, rest⟩
  ·exact .inl hn
  ·exact .inr ⟨g, cap, cur, rfl, hbg, (hk g hbg (hbl g rfl).2).trans hgg, rest⟩
 ·have := h3.2 b (List.mem_flatMap.2 ⟨i, List.mem_range.2 hi, hb'⟩)
  exact hk b this.1 this.2
theorem DRow.far {e : Ty} {w : World} {base : Nat} {te : TypeId} {v : Value} {x : List e.D} (h : DRow e w base te v x) {p : Addr} (hp : p.block < base) (u : Value) : DRow e (w.setCell p u) base te v x :=
 h.keep b_17 (fun b hb _ => Below.heap_setCell w p u b b_29)
def ru1 : List UInt8 := [47, 63, 120, 47, 107, 101, 121, 32, 60, 32, 47, 107, 101, 121, 47, 97]
def ru2 : List UInt8 := [47, 63, 120, 47, 42, 42, 32, 60, 32, 47, 63, 120, 47, 107, 101, 121]
def R2 : List (Ty.D tRule) := [(prS ru1).1, (prS ru2).1]
def DataR (te : TypeId) (w : World) (lo hi : Nat) (cs : List Value) (x : tData.D) : Prop :=
 ∃ v0 v1 v2 f0 f2 m1 m2, cs = [v0, v1, v2, .int .i64 x.2.2.2.1, .int .i64 x.2.2.2.2] ∧ (Ty.sl .str).ow w [v0] x.1 f0 ∧ FrI lo m1 f0 ∧ Row flatB w m1 te v1 x.2.1 ∧ (∀ g, v1.ownBlock = some g → g < m2) ∧
  (Ty.sl .str).ow w [v2] x.2.2.1 f2 ∧ FrI m2 hi f2 ∧ (lo ≤ m1 ∧ m1 ≤ m2 ∧ m2 ≤ hi ∧ hi ≤ w.heap.size) ∧ (-9223372036854775808 ≤ x.2.2.2.1 ∧ x.2.2.2.1 ≤ 9223372036854775807) ∧ (-9223372036854775808 ≤ x.2.2.2.2 ∧ x.2.2.2.2 ≤ 9223372036854775807)
section
variable {te : TypeId} {w w' : World} {lo hi : Nat} {cs : List Value} {x : tData.D}
theorem Row.keep_ {e : Ty} {F : Flat e} {w w' : World} {base : Nat} {te : TypeId} {v : Value} {x : List e.D} (h : Row F w base te v x) (hk : ∀ g, v.ownBlock = some g → w'.heap[g]? = w.heap[g]?) : Row F w' base te v x := by
 refine ⟨⟨h.1.1, ?_⟩, h.2⟩
 rcases h.1.2 with hn | ⟨g, cap, cur, rfl, hbg, hgg, rest⟩
 ·exact .inl hn
 ·exact .inr ⟨g, cap, cur, rfl, hbg, (hk g rfl).trans hgg, rest⟩
theorem DataR.keep (h : DataR te w lo hi cs x) (hs : w.heap.size ≤ w'.heap.size) (hk : ∀ b, lo ≤ b → b < hi → w'.heap[b]? = w.heap[b]?) : DataR te w' lo hi cs x := by
 obtain ⟨v0, v1, v2, f0, f2, m1, m2, h1, h2, h3, h4, h5, h6, h7, h8, h9⟩ := h
 refine ⟨v0, v1, v2, f0, f2, m1, m2, h1, Ty.ow_keep (fun b hb => hk b (h3.2 b hb).1 (by have := (h3.2 b hb).2; omega)) h2, h3, Row.keep_ h4 (fun g hg => hk g (by have := (h4.block g hg).1; omega) (by have := h5 g hg; omega)), h5, Ty.ow_keep (fun b hb => hk b (by have := (h7.2 b hb).1; omega) (h7.2 b hb).2) h6, h7, ⟨h8.1, h8.2.1, h8.2.2.1, Nat.le_trans h8.2.2.2 hs⟩, h9⟩
theorem DataR.below (h : DataR te w lo hi cs x) (hb : Below w.heap.size w w') : DataR te w' lo hi cs x := h.keep hb.size (fun b _ h2 => hb.block b (by obtain ⟨_, _, _, _, _, _, _, _, _, _, _, _, _, _, h8, _⟩ := h; omega))
theorem DataR.alloc (h : DataR te w lo hi cs x) (o : Obj) : DataR te (w.alloc o) lo hi cs x := h.below (bel_alloc (Below.refl _ _) o)
theorem DataR.drew (h : DataR te w lo hi cs x) : DataR te w.drew lo hi cs x := h.below (bel_drew (Below.refl _ _))
theorem DataR.drewN (h : DataR te w lo hi cs x) (n : Nat) : DataR te (w.drewN n) lo hi cs x := h.below (bel_drewN (Below.refl _ _) n)
theorem DataR.set (h : DataR te w lo hi cs x) {p : Addr} (hp : p.block < lo ∨ hi ≤ p.block) (u : Value) : DataR te (w.setCell p u) lo hi cs x :=
 h.keep b_17 (fun b h1 h2 => Below.heap_setCell _ _ _ _ b_29)
theorem DataR.dr {B : Nat} (h : DataR te w lo hi cs x) (hd : Dr B w w') (hB : B < lo) : DataR te w' lo hi cs x := h.keep hd.size (fun b h1 h2 => hd.block (by obtain ⟨_, _, _, _, _, _, _, _, _, _, _, _, _, _, h8, _⟩ := h; omega) b_29)
theorem DataR.mono {lo' hi' : Nat} (h : DataR te w lo hi cs x) (h1 : lo' ≤ lo) (h2 : hi ≤ hi') (h3 : hi' ≤ w.heap.size) : DataR te w lo' hi' cs x := by
 obtain ⟨v0, v1, v2, f0, f2, m1, m2, e1, e2, e3, e4, e5, e6, e7, e8, e9⟩ := h
 exact ⟨v0, v1, v2, f0, f2, m1, m2, e1, e2, e3.mono h1 (Nat.le_refl _), e4, e5, e6, e7.mono (Nat.le_refl _) h2, ⟨by omega, e8.2.1, by omega, h3⟩, e9⟩
theorem Row.own_ {e : Ty} {F : Flat e} {w : World} {base m : Nat} {te : TypeId} {v : Value} {x : List e.D} (h : Row F w base te v x) (hb : base ≤ w.heap.size) (hm : ∀ g, v.ownBlock = some g → g < m) : ∃ fp, (Ty.sl e).ow w [v] x fp ∧ FrI base m fp := by
 obtain ⟨A, c, fp, rfl, how, hfr⟩ := h.own hb
 by_cases h0 : x.length = 0
 ·refine ⟨[], ?_, FrI.nil _ _⟩
  obtain ⟨A', c', e1, e2, e3, e4, e5⟩ := how
  rcases e5 with ⟨e5, e6⟩ | ⟨e5, _⟩
  ·exact ⟨A', c', e1, e2, e3, e4, .inl ⟨e5, rfl⟩⟩
  ·omega
 ·rcases h.1.2 with ⟨e, hn⟩ | ⟨g, cap, cur, e, hbg, hgg, h3, h4, _, htake⟩
  ·omega
  ·simp only [Value.slice.injEq] at e
   obtain ⟨rfl, _, rfl⟩ := e
   refine ⟨fp, how, hfr.1, fun b hb' => ⟨(hfr.2 b hb').1, ?_⟩⟩
   obtain ⟨A', c', e1, e2, e3, e4, e5⟩ := how
   rcases e5 with ⟨e5, e6⟩ | ⟨e5, b2, o2, fs, e6, e7, e8⟩
   ·omega
   ·simp only [List.cons.injEq, Value.slice.injEq, and_true, true_and] at e1
    obtain ⟨e1, _⟩ := e1
    rw [← e1] at e6
    simp only [Option.some.injEq, Addr.mk.injEq] at e6
    have hg := hm g rfl
    rw [e7] at hb'
    rcases List.mem_cons.1 hb' with rfl | hb'
    ·omega
    ·obtain ⟨i, hi, hb'⟩ := List.mem_flatMap.1 hb'
     obtain ⟨ds, _, _, e9⟩ := e8 i (List.mem_range.1 hi)
     rw [((F.ow _ _ _ _).1 e9).2] at hb'
     cases hb'
theorem DataR.ow (h : DataR te w lo hi cs x) : ∃ fp, tData.ow w cs x fp ∧ FrI lo hi fp := by
 obtain ⟨v0, v1, v2, f0, f2, m1, m2, rfl, h2, h3, h4, h5, h6, h7, h8, h9⟩ := h
 obtain ⟨f1, h10, h11⟩ := h4.own_ b_29 h5
 obtain ⟨A0, c0, e0⟩ := Ty.ow_slv h2
 obtain ⟨A2, c2, e2⟩ := Ty.ow_slv h6
 obtain ⟨A1, c1, rfl⟩ := h4.form
 simp only [List.cons.injEq, and_true] at e0 e2
 subst e0 e2
 refine ⟨_, ow_Data_mk h2 h10 h6 h9.1 h9.2, ?_⟩
 exact fr3 (m1 := m1) (m2 := m2) h3 h11 h7 b_29 b_29 b_29
theorem DataR.form (h : DataR te w lo hi cs x) : ∃ (A0 : Option Addr) (c0 : Nat) (A1 : Option Addr) (c1 : Nat) (A2 : Option Addr) (c2 : Nat), cs = [.slice A0 (List.length x.1) c0, .slice A1 (List.length x.2.1) c1, .slice A2 (List.length x.2.2.1) c2, .int .i64 x.2.2.2.1, .int .i64 x.2.2.2.2] := by
 obtain ⟨fp, how, _⟩ := h.ow
 exact ow_Data how
theorem DataR.zero (te : TypeId) (w : World) : DataR te w w.heap.size w.heap.size [.slice none 0 0, .slice none 0 0, .slice none 0 0, .int .i64 0, .int .i64 0] zeroData :=
 ⟨_, _, _, [], [], w.heap.size, w.heap.size, rfl, ⟨none, 0, rfl, Nat.le_refl _, ⟨Nat.zero_le _, fun _ => rfl⟩, by decide, .inl ⟨rfl, rfl⟩⟩, FrI.nil _ _, Row.nil _ _ _ _, (fun g h => by cases h), ⟨none, 0, rfl, Nat.le_refl _, ⟨Nat.zero_le _, fun _ => rfl⟩, by decide, .inl ⟨rfl, rfl⟩⟩, FrI.nil _ _, ⟨Nat.le_refl _, Nat.le_refl _, Nat.le_refl _, Nat.le_refl _⟩, by decide, by decide⟩
end
theorem inv_step {e q : Int} (h : 1000003 * e = 2147483647 * q) : e = 2147483647 * (1523789695 * q - 709572 * e) := by
 have h2 : 1523789695 * (1000003 * e) = 1523789695 * (2147483647 * q) := by rw [h]
 omega
theorem dstep_inj {d d' c : Int} (h0 : 0 ≤ d ∧ d < 2147483647) (h1 : 0 ≤ d' ∧ d' < 2147483647) (hc : 0 ≤ c) (h : (d * 1000003 + c + 13).tmod 2147483647 = (d' * 1000003 + c + 13).tmod 2147483647) : d = d' := by
 rw [Int.tmod_eq_emod_of_nonneg b_29, Int.tmod_eq_emod_of_nonneg b_29] at h
 have e1 := Int.emod_add_mul_ediv (d * 1000003 + c + 13) 2147483647
 have e2 := Int.emod_add_mul_ediv (d' * 1000003 + c + 13) 2147483647
 rw [h] at e1
 generalize (d' * 1000003 + c + 13) % 2147483647 = r at e1 e2
 generalize (d * 1000003 + c + 13) / 2147483647 = q1 at e1
 generalize (d' * 1000003 + c + 13) / 2147483647 = q2 at e2
 have h4 : 1000003 * (d - d') = 2147483647 * (q1 - q2) := by
  clear h h0 h1 hc
  rw [Int.mul_sub, Int.mul_sub]
  omega
 have h3 := inv_step h4
 clear h e1 e2 h4
 generalize (1523789695 * (q1 - q2) - 709572 * (d - d')) = m at h3
 omega
theorem dstep_inj2 {D u u' : Int} (hD : 0 ≤ D) (h0 : 0 ≤ u ∧ u < 2147483647) (h1 : 0 ≤ u' ∧ u' < 2147483647) (h : (D * 1000003 + u + 13).tmod 2147483647 = (D * 1000003 + u' + 13).tmod 2147483647) : u = u' := by
 rw [Int.tmod_eq_emod_of_nonneg b_29, Int.tmod_eq_emod_of_nonneg b_29] at h
 omega
theorem modP_small {n : Int} (h : 0 ≤ n ∧ n < 2147483647) : modP n = n := by
 unfold modP
 rw [Int.tmod_eq_emod_of_nonneg h.1, Int.tmod_eq_emod_of_nonneg b_29]
 omega
theorem modP_nonneg (n : Int) : 0 ≤ modP n := by
 unfold modP
 have := tmodP_bd n
 rw [Int.tmod_eq_emod_of_nonneg b_29]
 omega
def withUntil (x : Ty.D tData) (u : Int) : Ty.D tData := (x.1, x.2.1, x.2.2.1, u, x.2.2.2.2)
def dstep (d x : Int) : Int := (d * 1000003 + modP x + 13).tmod 2147483647
theorem dstep_bd {d x : Int} (h : 0 ≤ d) : 0 ≤ dstep d x ∧ dstep d x < 2147483647 := by
 unfold dstep
 have := modP_nonneg x
 rw [Int.tmod_eq_emod_of_nonneg b_29]
 omega
theorem dfold_inj : ∀ (l : List Int) {d d' : Int}, 0 ≤ d ∧ d < 2147483647 → 0 ≤ d' ∧ d' < 2147483647 → l.foldl dstep d = l.foldl dstep d' → d = d'
 | [], _, _, _, _, h => h
 | x :: l, d, d', h0, h1, h => dstep_inj h0 h1 (modP_nonneg x) (dfold_inj l (dstep_bd h0.1) (dstep_bd h1.1) h)
theorem mac_mid {s u u' : Int} {l r : List Int} (h : mac s (l ++ u :: r) = mac s (l ++ u' :: r)) : modP u = modP u' := by
 have e : ∀ v, mac s (l ++ v :: r) = (r ++ [s]).foldl dstep (dstep (digest (s :: l)) v) := fun v => by
  show (s :: (l ++ v :: r ++ [s])).foldl dstep 11 = (r ++ [s]).foldl dstep (dstep ((s :: l).foldl dstep 11) v)
  simp only [List.foldl_cons, List.foldl_append, List.append_assoc, List.cons_append, List.foldl_nil]
 rw [e, e] at h
 have hd := digest_le (s :: l)
 have h2 := dfold_inj _ (dstep_bd hd.1) (dstep_bd hd.1) h
 exact dstep_inj2 hd.1 (modP_le u) (modP_le u') h2
theorem mac_le (s : Int) (l : List Int) : 0 ≤ mac s l ∧ mac s l < 2147483647 := digest_le _
theorem verify_signed {a : Int} (x : tData.D) : f_VerifyData a (f_SignData a x) = inR a 1 2147483646 := by
 unfold f_VerifyData
 have : (f_SignData a x).2.2.2.2 = mac a (f_SignedPortion (f_SignData a x)) := rfl
 rw [decide_eq_true this, Bool.and_true]
theorem modP_emod (n : Int) : modP n = n % 2147483647 := by
 have h := Int.tmod_add_mul_tdiv n 2147483647
 have hb := tmodP_bd n
 unfold modP
 rw [Int.tmod_eq_emod_of_nonneg b_29]
 generalize n.tmod 2147483647 = t at h hb ⊢
 generalize n.tdiv 2147483647 = q at h
 omega
theorem modP_next {u : Int} (h : -9223372036854775808 ≤ u ∧ u ≤ 9223372036854775807) : modP u ≠ modP (IntKind.i64.wrap (u + 1)) := by
 rw [modP_emod, modP_emod]
 by_cases hm : u = 9223372036854775807
 ·subst hm; decide
 ·rw [IntWalk.i64_in _ b_29]; omega
theorem verify_until {a u : Int} {x : tData.D} (hu : modP x.2.2.2.1 ≠ modP u) : f_VerifyData a (withUntil (f_SignData a x) u) = false := by
 cases q : f_VerifyData a (withUntil (f_SignData a x) u)
 ·rfl
 ·exfalso
  unfold f_VerifyData at q
  simp only [Bool.and_eq_true, decide_eq_true_eq] at q
  have h3 : mac a ([bti (f_AppendName [] x.1), bti x.2.1, bti (f_AppendName [] x.2.2.1)].flatten ++ x.2.2.2.1 :: []) = mac a ([bti (f_AppendName [] x.1), bti x.2.1, bti (f_AppendName [] x.2.2.1)].flatten ++ u :: []) := q.2
  exact hu (mac_mid h3)
theorem verify_sig {a : Int} {x : tData.D} : f_VerifyData a (signed (f_SignData a x) ((mac a (f_SignedPortion x) + 1).tmod 2147483647)) = false := by
 cases q : f_VerifyData a (signed (f_SignData a x) ((mac a (f_SignedPortion x) + 1).tmod 2147483647))
 ·rfl
 ·exfalso
  unfold f_VerifyData at q
  simp only [Bool.and_eq_true, decide_eq_true_eq] at q
  have h2 : (mac a (f_SignedPortion x) + 1).tmod 2147483647 = mac a (f_SignedPortion x) := q.2
  have hb := mac_le a (f_SignedPortion x)
  rw [Int.tmod_eq_emod_of_nonneg b_29] at h2
  omega
def withText (x : tData.D) (s : List UInt8) : tData.D := (x.1, s, x.2.2.1, x.2.2.2.1, x.2.2.2.2)
theorem verify_text {a : Int} {x : tData.D} {i : Nat} (hi : i < x.2.1.length) {c : UInt8} (hc : c ≠ x.2.1[i]) : f_VerifyData a (withText (f_SignData a x) (x.2.1.set i c)) = false := by
 cases q : f_VerifyData a (withText (f_SignData a x) (x.2.1.set i c))
 ·rfl
 ·exfalso
  unfold f_VerifyData at q
  simp only [Bool.and_eq_true, decide_eq_true_eq] at q
  have h3 : mac a ([bti (f_AppendName [] x.1), bti x.2.1, bti (f_AppendName [] x.2.2.1)].flatten ++ [x.2.2.2.1]) = mac a ([bti (f_AppendName [] x.1), bti (x.2.1.set i c), bti (f_AppendName [] x.2.2.1)].flatten ++ [x.2.2.2.1]) := q.2
  have e1 : x.2.1 = x.2.1.take i ++ x.2.1[i] :: x.2.1.drop (i + 1) := by rw [List.getElem_cons_drop, List.take_append_drop]
  have e2 : x.2.1.set i c = x.2.1.take i ++ c :: x.2.1.drop (i + 1) := List.set_eq_take_append_cons_drop.trans (if_pos hi)
  have e3 : ∀ v : UInt8, bti (x.2.1.take i ++ v :: x.2.1.drop (i + 1)) = ((x.2.1.length : Int) :: (x.2.1.take i).map (fun c => (c.toNat : Int))) ++ (v.toNat : Int) :: (x.2.1.drop (i + 1)).map (fun c => (c.toNat : Int)) := fun v => by
   have hl : (x.2.1.take i ++ v :: x.2.1.drop (i + 1)).length = x.2.1.length := by simp; omega
   unfold bti pre
   rw [hl]
   simp
  rw [e2] at h3
  rw [show bti x.2.1 = bti (x.2.1.take i ++ x.2.1[i] :: x.2.1.drop (i + 1)) from congrArg bti e1, e3, e3] at h3
  have h4 : mac a ((bti (f_AppendName [] x.1) ++ ((x.2.1.length : Int) :: (x.2.1.take i).map (fun c => (c.toNat : Int)))) ++ (x.2.1[i].toNat : Int) :: ((x.2.1.drop (i + 1)).map (fun c => (c.toNat : Int)) ++ bti (f_AppendName [] x.2.2.1) ++ [x.2.2.2.1])) = mac a ((bti (f_AppendName [] x.1) ++ ((x.2.1.length : Int) :: (x.2.1.take i).map (fun c => (c.toNat : Int)))) ++ (c.toNat : Int) :: ((x.2.1.drop (i + 1)).map (fun c => (c.toNat : Int)) ++ bti (f_AppendName [] x.2.2.1) ++ [x.2.2.2.1])) := by simpa using h3
  have h5 := mac_mid h4
  have := (x.2.1[i]).toNat_lt
  have := c.toNat_lt
  rw [modP_small b_29, modP_small b_29] at h5
  exact hc (UInt8.toNat_inj.1 b_29)
theorem things_until {g : Int} {r t : tData.D} (h : t = f_SignData g r) (hb : -9223372036854775808 ≤ (r.2.2.2.1 : Int) ∧ (r.2.2.2.1 : Int) ≤ 9223372036854775807) : f_VerifyData g (withUntil t (wrap64 (t.2.2.2.1 + 1))) = false := by
 subst h
 refine verify_until ?_
 have := modP_next hb
 rw [IntWalk.i64_left] at this
 exact this
theorem things_sig {g : Int} {r t : tData.D} (h : t = f_SignData g r) : f_VerifyData g (signed t ((wrap64 (t.2.2.2.2 + 1)).tmod 2147483647)) = false := by
 subst h
 have hb := mac_le g (f_SignedPortion r)
 have e : wrap64 ((f_SignData g r).2.2.2.2 + 1) = mac g (f_SignedPortion r) + 1 := by
  show wrap64 (mac g (f_SignedPortion r) + 1) = _
  rw [← IntWalk.i64_left, IntWalk.i64_in _ b_29]
 rw [e]
 exact verify_sig
theorem things_text {g : Int} {r t : tData.D} (h : t = f_SignData g r) {i : Nat} (hi : i < t.2.1.length) {c : UInt8} (hc : c ≠ t.2.1[i]) : f_VerifyData g (withText t (t.2.1.set i c)) = false := by
 subst h
 exact verify_text (x := r) hi hc
theorem bulk_text {t : tData.D} {s : List UInt8} (h : s.length = List.length t.2.1) : Ty.bulk tData (withText t s) = Ty.bulk tData t := by
 have e1 : Ty.bulk tData (withText t s) = Ty.bulk (.sl .str) t.1 + (Ty.bulk (.sl .byte) s + (Ty.bulk (.sl .str) t.2.2.1 + (0 + 0))) := rfl
 have e2 : Ty.bulk tData t = Ty.bulk (.sl .str) t.1 + (Ty.bulk (.sl .byte) t.2.1 + (Ty.bulk (.sl .str) t.2.2.1 + (0 + 0))) := rfl
 have e3 : Ty.bulk (.sl .byte) s = Ty.bulk (.sl .byte) t.2.1 := by rw [Ty.bulk_flat (fun _ => rfl), Ty.bulk_flat (fun _ => rfl), h]
 rw [e1, e2, e3]
end Go.Proofs.Ytldgbnlcnlfmeaa
namespace Go.Proofs.Ytldgbnlcnlfmeaa
open Go.RowKit
set_option linter.unusedVariables false
set_option linter.unusedSimpArgs false
set_option maxHeartbeats 1000000 in
theorem C_laws_sameG (w : World) (v1 v2 : Value) (x y : List (UInt8)) (h1 : (Ty.sl .byte).rd w [v1] x) (h2 : (Ty.sl .byte).rd w [v2] y) :
  Calls Try.prog 53 #[v1, v2] w (RetB w (decide (x = y))) := by
 obtain ⟨A1, c1, rfl, hc1, hm1, hn1⟩ := Ty.rd_sl h1
 obtain ⟨A2, c2, rfl, hc2, hm2, hn2⟩ := Ty.rd_sl h2
 by_cases hl : x.length = y.length
 ·have q1 : ((x.length : Int) != y.length) = false := by simp [hl]
  have HL := Lib.hid hl
  clear hl
  go_enter Try.func53, Try.ntmps53
  go_wp2
  go_loopw [5] (fun i wr => ∃ k : Nat, k ≤ x.length ∧ i = .int .i64 k ∧ x.take k = y.take k ∧ Below w.heap.size w wr) (fun i _ => x.length - (intOf i).toNat)
  case atStart => exact ⟨0, by omega, rfl, rfl, Below.refl _ _⟩
  case round =>
   obtain ⟨k, hk, rfl, htk, hb⟩ := hrel
   have HT := Lib.hid htk
   clear htk
   by_cases hlt : k < x.length
   ·have hlt2 : k < y.length := by have := HL.out; omega
    obtain ⟨b1, o1, rfl, e1⟩ := Ty.rd_byte_at (Ty.rd_below hb h1) hlt
    obtain ⟨b2, o2, rfl, e2⟩ := Ty.rd_byte_at (Ty.rd_below hb h2) hlt2
    have i3 : (0 : Int) ≤ (k : Int) := by omega
    have i4 : (k : Int) < (List.length x : Int) := by omega
    have i5 : (k : Int) < (List.length y : Int) := by omega
    by_cases he : x[k] = y[k]
    ·have q2 : ((x[k].toNat : Int) != y[k].toNat) = false := by simp [he]
     have HE := Lib.hid he
     clear he
     go_wp2
     go_quiet (fail)
     go_wp2
     go_roundw
     case rel => exact ⟨k + 1, by omega, by go_num, by rw [List.take_succ_eq_append_getElem hlt, List.take_succ_eq_append_getElem hlt2, HT.out, HE.out], bel_drewN hb _⟩
     case measure => simp [intOf]; omega
    ·have q2 : ((x[k].toNat : Int) != y[k].toNat) = true := by rw [bne_iff_ne]; intro h; exact he (UInt8.toNat_inj.1 b_29)
     have HE : Hid (¬ x = y) := fun h => he (by subst h; rfl)
     clear he
     go_wp2
     go_quiet (fail)
     go_wp2
     go_ret
     exact ⟨ret_bool (by simp [HE.out]), bel_drewN hb _⟩
   ·have HE : Hid (x = y) := by
     have h1 := HT.out
     rwa [List.take_of_length_le b_29, List.take_of_length_le (by have := HL.out; omega)] at h1
    go_wp2
    go_ret
    exact ⟨ret_bool (by simp [HE.out]), hb⟩
 ·have q1 : ((x.length : Int) != y.length) = true := by rw [bne_iff_ne]; omega
  have HE : Hid (¬ x = y) := fun h => hl (congrArg List.length h)
  go_enter Try.func53, Try.ntmps53
  go_wp2
  go_ret
  exact ⟨ret_bool (by simp [HE.out]), Below.refl _ _⟩
set_option maxHeartbeats 1000000 in
theorem C_laws_sameIntsG (w : World) (v1 v2 : Value) (x y : List (Int)) (h1 : (Ty.sl .int).rd w [v1] x) (h2 : (Ty.sl .int).rd w [v2] y) :
  Calls Try.prog 62 #[v1, v2] w (RetB w (decide (x = y))) := by
 obtain ⟨A1, c1, rfl, hc1, hm1, hn1⟩ := Ty.rd_sl h1
 obtain ⟨A2, c2, rfl, hc2, hm2, hn2⟩ := Ty.rd_sl h2
 by_cases hl : x.length = y.length
 ·have q1 : ((x.length : Int) != y.length) = false := by simp [hl]
  have HL := Lib.hid hl
  clear hl
  go_enter Try.func62, Try.ntmps62
  go_wp2
  go_loopw [5] (fun i wr => ∃ k : Nat, k ≤ x.length ∧ i = .int .i64 k ∧ x.take k = y.take k ∧ Below w.heap.size w wr) (fun i _ => x.length - (intOf i).toNat)
  case atStart => exact ⟨0, by omega, rfl, rfl, Below.refl _ _⟩
  case round =>
   obtain ⟨k, hk, rfl, htk, hb⟩ := hrel
   have HT := Lib.hid htk
   clear htk
   by_cases hlt : k < x.length
   ·have hlt2 : k < y.length := by have := HL.out; omega
    obtain ⟨b1, o1, ds1, rfl, hl1, hcell1, hrd1⟩ := Ty.rd_at (Ty.rd_below hb h1) hlt
    obtain ⟨rfl, hs1⟩ := hrd1
    have e0 : wr.cell? ⟨b1, o1 + k, none⟩ = some (.int .i64 x[k]) := by simpa [Ty.sz] using hcell1 0 b_28
    clear hcell1 hl1
    obtain ⟨b2, o2, ds2, rfl, hl2, hcell2, hrd2⟩ := Ty.rd_at (Ty.rd_below hb h2) hlt2
    obtain ⟨rfl, hs2⟩ := hrd2
    have d0 : wr.cell? ⟨b2, o2 + k, none⟩ = some (.int .i64 y[k]) := by simpa [Ty.sz] using hcell2 0 b_28
    clear hcell2 hl2
    have i3 : (0 : Int) ≤ (k : Int) := by omega
    have i4 : (k : Int) < (List.length x : Int) := by omega
    have i5 : (k : Int) < (List.length y : Int) := by omega
    by_cases he : x[k] = y[k]
    ·have q2 : (x[k] != y[k]) = false := by simp [he]
     have HE := Lib.hid he
     clear he
     go_wp2
     go_quiet (fail)
     go_wp2
     go_roundw
     case rel => exact ⟨k + 1, by omega, by go_num, by rw [List.take_succ_eq_append_getElem hlt, List.take_succ_eq_append_getElem hlt2, HT.out, HE.out], bel_drewN hb _⟩
     case measure => simp [intOf]; omega
    ·have q2 : (x[k] != y[k]) = true := by rw [bne_iff_ne]; exact he
     have HE : Hid (¬ x = y) := fun h => he (by subst h; rfl)
     clear he
     go_wp2
     go_quiet (fail)
     go_wp2
     go_ret
     exact ⟨ret_bool (by simp [HE.out]), bel_drewN hb _⟩
   ·have HE : Hid (x = y) := by
     have h1 := HT.out
     rwa [List.take_of_length_le b_29, List.take_of_length_le (by have := HL.out; omega)] at h1
    go_wp2
    go_ret
    exact ⟨ret_bool (by simp [HE.out]), hb⟩
 ·have q1 : ((x.length : Int) != y.length) = true := by rw [bne_iff_ne]; omega
  have HE : Hid (¬ x = y) := fun h => hl (congrArg List.length h)
  go_enter Try.func62, Try.ntmps62
  go_wp2
  go_ret
  exact ⟨ret_bool (by simp [HE.out]), Below.refl _ _⟩
set_option maxHeartbeats 1000000 in
theorem C_laws_sameTextsG (w : World) (v1 v2 : Value) (x y : List (List UInt8)) (h1 : (Ty.sl .str).rd w [v1] x) (h2 : (Ty.sl .str).rd w [v2] y) :
  Calls Try.prog 79 #[v1, v2] w (RetB w (decide (x = y))) := by
 obtain ⟨A1, c1, rfl, hc1, hm1, hn1⟩ := Ty.rd_sl h1
 obtain ⟨A2, c2, rfl, hc2, hm2, hn2⟩ := Ty.rd_sl h2
 by_cases hl : x.length = y.length
 ·have q1 : ((x.length : Int) != y.length) = false := by simp [hl]
  have HL := Lib.hid hl
  clear hl
  go_enter Try.func79, Try.ntmps79
  go_wp2
  go_loopw [5] (fun i wr => ∃ k : Nat, k ≤ x.length ∧ i = .int .i64 k ∧ x.take k = y.take k ∧ Below w.heap.size w wr) (fun i _ => x.length - (intOf i).toNat)
  case atStart => exact ⟨0, by omega, rfl, rfl, Below.refl _ _⟩
  case round =>
   obtain ⟨k, hk, rfl, htk, hb⟩ := hrel
   have HT := Lib.hid htk
   clear htk
   by_cases hlt : k < x.length
   ·have hlt2 : k < y.length := by have := HL.out; omega
    obtain ⟨b1, o1, rfl, e1, _⟩ := Ty.rd_str_at (Ty.rd_below hb h1) hlt
    obtain ⟨b2, o2, rfl, e2, _⟩ := Ty.rd_str_at (Ty.rd_below hb h2) hlt2
    have i3 : (0 : Int) ≤ (k : Int) := by omega
    have i4 : (k : Int) < (List.length x : Int) := by omega
    have i5 : (k : Int) < (List.length y : Int) := by omega
    by_cases he : x[k] = y[k]
    ·have q2 : (!x[k] == y[k]) = false := by simp [he]
     have HE := Lib.hid he
     clear he
     go_wp2
     go_quiet (fail)
     go_wp2
     go_roundw
     case rel => exact ⟨k + 1, by omega, by go_num, by rw [List.take_succ_eq_append_getElem hlt, List.take_succ_eq_append_getElem hlt2, HT.out, HE.out], bel_drewN hb _⟩
     case measure => simp [intOf]; omega
    ·have q2 : (!x[k] == y[k]) = true := by simp [he]
     have HE : Hid (¬ x = y) := fun h => he (by subst h; rfl)
     clear he
     go_wp2
     go_quiet (fail)
     go_wp2
     go_ret
     exact ⟨ret_bool (by simp [HE.out]), bel_drewN hb _⟩
   ·have HE : Hid (x = y) := by
     have h1 := HT.out
     rwa [List.take_of_length_le b_29, List.take_of_length_le (by have := HL.out; omega)] at h1
    go_wp2
    go_ret
    exact ⟨ret_bool (by simp [HE.out]), hb⟩
 ·have q1 : ((x.length : Int) != y.length) = true := by rw [bne_iff_ne]; omega
  have HE : Hid (¬ x = y) := fun h => hl (congrArg List.length h)
  go_enter Try.func79, Try.ntmps79
  go_wp2
  go_ret
  exact ⟨ret_bool (by simp [HE.out]), Below.refl _ _⟩
set_option maxHeartbeats 1000000 in
theorem C_laws_sameNameG (w : World) (cs1 cs2 : List Value) (x y : List (List UInt8)) (h1 : (Ty.sl .str).rd w cs1 x) (h2 : (Ty.sl .str).rd w cs2 y) :
  Calls Try.prog 13 #[.agg cs1.toArray, .agg cs2.toArray] w (RetB w (decide (x = y))) := by
 obtain ⟨A1, c1, rfl⟩ := Ty.rd_slv h1
 obtain ⟨A2, c2, rfl⟩ := Ty.rd_slv h2
 go_enter Try.func13, Try.ntmps13
 go_wp2_with fail
 refine (C_laws_sameTextsG _ _ _ _ _ (Ty.rd_below b_5 h1) (Ty.rd_below b_5 h2)).mono ?_
 rintro e w1 ⟨rfl, hb1⟩
 have hw1 : Below w.heap.size w w1 := bel_trans b_5 hb1
 go_wp2
 go_ret
 exact ⟨rfl, b_5⟩
set_option maxHeartbeats 1000000 in
theorem C_laws_sameThingG (w : World) (cs1 : List Value) (x : tData.D) (cs2 : List Value) (y : tData.D) (h1 : tData.rd w cs1 x) (h2 : tData.rd w cs2 y) (s0 : Ty.bulk tData x ≤ 1048576) (s1 : Ty.bulk tData y ≤ 1048576) :
  Calls Try.prog 29 #[.agg cs1.toArray, .agg cs2.toArray] w (RetB w (f_EqualData x y)) := by
 obtain ⟨A0, c0, A1, c1, A2, c2, rfl, g0, g1, g2, _, _⟩ := rd_Data h1
 obtain ⟨B0, d0, B1, d1, B2, d2, rfl, k0, k1, k2, _, _⟩ := rd_Data h2
 go_enter Try.func29, Try.ntmps29
 go_wp2_with fail
 refine (C_laws_sameNameG _ _ _ _ _ (Ty.rd_below b_5 g0) (Ty.rd_below b_5 k0)).mono ?_
 rintro e w1 ⟨rfl, hb1⟩
 have hw1 : Below w.heap.size w w1 := bel_trans b_5 hb1
 obtain ⟨hc1, hf1⟩ := bcell hb1
 have z10 : w.heap.size < w1.heap.size := by have := hb1.size; simp only [World.size_alloc] at this; omega
 have z11 : w.heap.size + 1 < w1.heap.size := by have := hb1.size; simp only [World.size_alloc] at this; omega
 cases hq0 : decide (x.1 = y.1)
 ·go_wp2
  go_ret
  exact ⟨ret_bool (by unfold f_EqualData; rw [hq0]; rfl), hw1⟩
 go_wp2_with fail
 refine (C_laws_sameG _ _ _ x.2.1 y.2.1 (Ty.rd_below b_5 g1) (Ty.rd_below b_5 k1)).mono ?_
 rintro e w2 ⟨rfl, hb2⟩
 have hw2 : Below w.heap.size w w2 := bel_trans b_5 hb2
 obtain ⟨hc2, hf2⟩ := bcell hb2
 have z20 : w.heap.size < w2.heap.size := by have := hb2.size; omega
 have z21 : w.heap.size + 1 < w2.heap.size := by have := hb2.size; omega
 cases hq1 : decide (x.2.1 = y.2.1)
 ·go_wp2
  go_ret
  exact ⟨ret_bool (by unfold f_EqualData; rw [hq0, hq1]; rfl), hw2⟩
 go_wp2_with fail
 refine (C_laws_sameNameG _ _ _ _ _ (Ty.rd_below b_5 g2) (Ty.rd_below b_5 k2)).mono ?_
 rintro e w3 ⟨rfl, hb3⟩
 have hw3 : Below w.heap.size w w3 := bel_trans b_5 hb3
 obtain ⟨hc3, hf3⟩ := bcell hb3
 cases hq2 : decide (x.2.2.1 = y.2.2.1)
 ·go_wp2
  go_ret
  exact ⟨ret_bool (by unfold f_EqualData; rw [hq0, hq1, hq2]; rfl), hw3⟩
 cases hq3 : (x.2.2.2.1 == y.2.2.2.1)
 ·go_wp2
  go_ret
  exact ⟨ret_bool (by unfold f_EqualData; rw [hq0, hq1, hq2, show decide (x.2.2.2.1 = y.2.2.2.1) = false from by simpa using hq3]; rfl), hw3⟩
 go_wp2
 go_ret
 exact ⟨ret_bool (by unfold f_EqualData; rw [hq0, hq1, hq2, show decide (x.2.2.2.1 = y.2.2.2.1) = true from by simpa using hq3]; (rw [Bool.eq_iff_iff]; simp)), hw3⟩
theorem C_laws_bigG (w : World) (A : Option Addr) (n c : Nat) : Calls Try.prog 7 #[.slice A n c] w (RetBP w (decide ((n : Int) > 1048576))) := by
 go_enter Try.func7, Try.ntmps7
 go_wp2
 go_ret
 first | exact ⟨rfl, rfl⟩ | exact ⟨rfl, Below.refl _ _⟩ | trace_state
set_option maxHeartbeats 1000000 in
theorem C_laws_at (w : World) (v : Value) (x : List UInt8) (i : Nat) (h : (Ty.sl .byte).rd w [v] x) (hn : x.length ≤ 1048576) (hi : i ≤ 100) :
  Calls Try.prog 15 #[v, .int .i64 i] w (fun e w' => w' = w ∧ ∃ k : Int, e = .returned (.int .i64 k) ∧ 0 ≤ k ∧ k ≤ 255) := by
 obtain ⟨A, c, rfl, hc, hm, hn2⟩ := Ty.rd_sl h
 by_cases hlt : i < x.length
 ·obtain ⟨b1, o1, rfl, e1⟩ := Ty.rd_byte_at h hlt
  have hu := x[i].toNat_lt
  go_enter Try.func15, Try.ntmps15
  go_wp2
  go_ret
  exact ⟨rfl, _, rfl, by omega, by omega⟩
 ·go_enter Try.func15, Try.ntmps15
  go_wp2
  go_ret
  exact ⟨rfl, _, rfl, by omega, by omega⟩
end Go.Proofs.Ytldgbnlcnlfmeaa
