/- From a reading of the claim's form to the reading of the proofs (Ty.rd): for integers, bytes, strings, slices, structs. No program in sight. -/
import Derived.Test.YtldgbnlcnlfmeaaBase
import Derived.ProofKit
import Derived.OpenShut
import Derived.ChangeOld
import Derived.Deep.Slices
namespace Go.Proofs.Ytldgbnlcnlfmeaa
open Go.ChangeShapes Go.WideShapes Go.RowKit
set_option linter.unusedVariables false
set_option linter.unusedSimpArgs false
section
variable {H : Type} {enc : TypeId × Value → H} {P : Program} {w : World} {base : Nat} {spare : Nat → Bool} {held : Bool}

theorem collect {α : Type} (n : Nat) (p : Nat → α → Prop) (h : ∀ i, i < n → ∃ d, p i d) : ∃ xs : List α, xs.length = n ∧ ∀ i (h1 : i < xs.length), p i xs[i] := by
  induction n with
  | zero => exact ⟨[], rfl, fun i h1 => absurd h1 (by simp)⟩
  | succ k ih =>
    obtain ⟨xs, h1, h2⟩ := ih (fun i hi' => h i (by omega))
    obtain ⟨d, hd⟩ := h k (by omega)
    refine ⟨xs ++ [d], by simp [h1], fun i hi' => ?_⟩
    by_cases hik : i < xs.length
    · rw [List.getElem_append_left hik]; exact h2 i hik
    · obtain rfl : i = k := by simp at hi'; omega
      rw [List.getElem_append_right (by omega)]
      simpa using hd
/-- Whatever reads at type t reads as data of the shape e. -/
def Opens (enc : TypeId × Value → H) (P : Program) (w : World) (base : Nat) (spare : Nat → Bool) (held : Bool) (t : TypeId) (e : Ty) : Prop :=
  ∀ (fuel : Nat) (cs : List Value) (x : DataW H × List MemPlace), DataW.trod enc P w base spare held fuel t cs = some x → ∃ d, e.rd w cs d

theorem opens_int {t : TypeId} (ht : P.underlying t = some (.int .i64)) : Opens enc P w base spare held t .int := by
  intro fuel cs x h
  obtain ⟨n, rfl, _, hw⟩ := DataW.trod_int ht h
  exact ⟨n, rfl, bounds_i64 hw⟩

theorem opens_byte {t : TypeId} (ht : P.underlying t = some (.int .u8)) : Opens enc P w base spare held t .byte := by
  intro fuel cs x h
  obtain ⟨n, rfl, _, hw⟩ := DataW.trod_int ht h
  have := bounds_u8 hw
  refine ⟨UInt8.ofNat n.toNat, ?_⟩
  show _ = _
  congr 2
  rw [UInt8.toNat_ofNat']
  omega

theorem opens_str {t : TypeId} (ht : P.underlying t = some .string) : Opens enc P w base spare held t .str := by
  intro fuel cs x h
  obtain ⟨s, rfl, _, hs⟩ := DataW.trod_string ht h
  refine ⟨s.data.toList, ?_, ?_⟩
  · show _ = [Value.string ⟨s.data.toList.toArray⟩]
    rw [Array.toArray_toList]
  · unfold maxLen at hs
    show s.data.toList.length ≤ _
    have : s.data.toList.length = s.size := by simp
    omega

theorem opens_sl {t u : TypeId} {e : Ty} (ht : P.underlying t = some (.slice u)) (hc : P.cellsOf u = e.sz) (hz : 0 < e.sz) (h : Opens enc P w base spare held u e) : Opens enc P w base spare held t (.sl e) := by
  intro fuel cs x hx
  rcases Deep.open_slice ht hx with ⟨rfl, _⟩ | ⟨a, len, cap, m, n, D, Pl, rfl, hb, hl, hm, hmm, _, hi⟩
  · exact ⟨[], none, 0, rfl, Nat.le_refl _, ⟨Nat.zero_le _, fun _ => rfl⟩, Nat.zero_le _, fun h => absurd h (by simp)⟩
  · have hlm : len ≤ m := by rw [hmm]; split <;> omega
    have hel : ∀ i, i < len → ∃ (ds : List Value) (d : e.D), ds.length = e.sz ∧ (∀ j, j < e.sz → w.cell? ((a.add (i * e.sz)).add j) = ds[j]?) ∧ e.rd w ds d := by
      intro i hi'
      obtain ⟨cs', hc', ht'⟩ := hi i (by omega)
      rw [hc] at hc'
      obtain ⟨_, hcl, hat⟩ := World.cells?_some hc'
      obtain ⟨d, hd⟩ := h _ _ _ ht'
      exact ⟨cs', d, hcl, hat, hd⟩
    have hall := collect len (fun i d => ∃ ds : List Value, ds.length = e.sz ∧ (∀ j, j < e.sz → w.cell? ((a.add (i * e.sz)).add j) = ds[j]?) ∧ e.rd w ds d)
      (fun i hi' => by obtain ⟨ds, d, g⟩ := hel i hi'; exact ⟨d, ds, g⟩)
    obtain ⟨xs, hxl, hxs⟩ := hall
    subst hxl
    refine ⟨xs, some a, cap, rfl, hl, ⟨hm, fun h => by cases h⟩, by unfold maxLen at hm; omega, fun hpos => ?_⟩
    obtain ⟨b, off, spot⟩ := a
    have hspot : spot = none := by
      obtain ⟨ds, g1, g2, _⟩ := hxs 0 hpos
      have h0 := g2 0 hz
      have hv : w.cell? ⟨b, off, spot⟩ = some (ds[0]'(by omega)) := by
        have : w.cell? ⟨b, off, spot⟩ = ds[0]? := by simpa [Addr.add] using h0
        rw [this]; exact List.getElem?_eq_getElem (by omega)
      exact World.cell?_spot hv
    subst hspot
    refine ⟨b, off, rfl, fun i hi' => ?_⟩
    obtain ⟨ds, g1, g2, g3⟩ := hxs i hi'
    refine ⟨ds, g1, fun j hj => ?_, g3⟩
    have := g2 j hj
    rwa [Addr.add_lit, Addr.add_lit] at this

/-- The fields of a struct, one behind the other. -/
def Ty.ofFields : List Ty → Ty
  | [] => .int
  | [t] => t
  | t :: ts => .pr t (Ty.ofFields ts)
def fieldsOk (P : Program) (n : Nat) : List Field → List Ty → Nat → Bool
  | [f], [t], off => f.offset == off && P.cellsOf f.type == t.sz && off + t.sz == n
  | f :: fs, t :: ts, off => f.offset == off && P.cellsOf f.type == t.sz && fieldsOk P n fs ts (off + t.sz)
  | _, _, _ => false

theorem opens_fields {n : Nat} {cs : List Value} (hn : cs.length = n) : ∀ (fs : List Field) (ts : List Ty) (off : Nat), fieldsOk P n fs ts off = true →
    (∀ (i : Nat) (f : Field) (t : Ty), fs[i]? = some f → ts[i]? = some t → ∃ d, t.rd w ((cs.drop f.offset).take (P.cellsOf f.type)) d) → ∃ d, (Ty.ofFields ts).rd w (cs.drop off) d
  | [], _, _, h, _ => by simp [fieldsOk] at h
  | [f], [], _, h, _ => by simp [fieldsOk] at h
  | f :: g :: fs, [], _, h, _ => by simp [fieldsOk] at h
  | [f], [t], off, h, hf => by
    simp only [fieldsOk, Bool.and_eq_true, beq_iff_eq] at h
    obtain ⟨d, hd⟩ := hf 0 f t rfl rfl
    rw [h.1.1, h.1.2, List.take_of_length_le (by rw [List.length_drop]; omega)] at hd
    exact ⟨d, hd⟩
  | [f], t :: u :: ts, off, h, hf => by simp [fieldsOk] at h
  | f :: g :: fs, [t], off, h, hf => by simp [fieldsOk] at h
  | f :: g :: fs, t :: u :: ts, off, h, hf => by
    simp only [fieldsOk, Bool.and_eq_true, beq_iff_eq] at h
    obtain ⟨d, hd⟩ := hf 0 f t rfl rfl
    obtain ⟨d', hd'⟩ := opens_fields hn (g :: fs) (u :: ts) (off + t.sz) h.2 (fun i f' t' h1 h2 => hf (i + 1) f' t' h1 h2)
    rw [h.1.1, h.1.2] at hd
    refine ⟨(d, d'), (cs.drop off).take t.sz, cs.drop (off + t.sz), ?_, hd, hd'⟩
    rw [← List.drop_drop, List.take_append_drop]

def OpensAll (enc : TypeId × Value → H) (P : Program) (w : World) (base : Nat) (spare : Nat → Bool) (held : Bool) : List Field → List Ty → Prop
  | f :: fs, t :: ts => Opens enc P w base spare held f.type t ∧ OpensAll enc P w base spare held fs ts
  | _, _ => True
theorem OpensAll.get : ∀ {fs : List Field} {ts : List Ty}, OpensAll enc P w base spare held fs ts → ∀ (i : Nat) (f : Field) (e : Ty), fs[i]? = some f → ts[i]? = some e → Opens enc P w base spare held f.type e
  | [], _, _, _, _, _, h, _ => by simp at h
  | _ :: _, [], _, _, _, _, _, h => by simp at h
  | _ :: _, _ :: _, h, 0, f, e, h1, h2 => by
    simp only [List.getElem?_cons_zero, Option.some.injEq] at h1 h2
    subst h1; subst h2
    exact h.1
  | _ :: _, _ :: _, h, i + 1, f, e, h1, h2 => OpensAll.get h.2 i f e h1 h2
theorem opens_struct {t : TypeId} {fs : Array Field} {ts : List Ty} (ht : P.underlying t = some (.struct fs)) (hok : fieldsOk P (P.cellsOf t) fs.toList ts 0 = true)
    (h : OpensAll enc P w base spare held fs.toList ts) : Opens enc P w base spare held t (Ty.ofFields ts) := by
  intro fuel cs x hx
  obtain ⟨xs, n, _, _, hl, hxl, hg⟩ := DataW.trod_struct ht hx
  have := opens_fields (w := w) hl fs.toList ts 0 hok (fun i f e h1 h2 => by
    have hf : fs[i]? = some f := by simpa using h1
    have h3 := hg i f hf
    have hi : i < fs.size := (Array.getElem?_eq_some_iff.1 hf).1
    rw [List.getElem?_eq_getElem (by omega)] at h3
    exact h.get i f e h1 h2 _ _ _ h3)
  simpa using this
end
end Go.Proofs.Ytldgbnlcnlfmeaa
