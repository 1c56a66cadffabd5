/- What a draw hands back: memory of its own. No program in sight. Printed by gen52.py. -/
import Derived.Test.YtldgbnlcnlfmeaaNmn
import Derived.Test.YtldgbnlcnlfmeaaNb
namespace Go.Proofs.Ytldgbnlcnlfmeaa
open Go.RowKit
set_option linter.unusedVariables false
set_option linter.unusedSimpArgs false

section
variable {t : Ty} {w w' : World} {cs : List Value} {x : t.D} {fp : List Nat} {lo hi B : Nat}
theorem owSet (h : t.ow w cs x fp) (hf : FrI lo hi fp) {p : Addr} (hp : p.block < lo) (u : Value) : t.ow (w.setCell p u) cs x fp :=
  Ty.ow_keep (fun b hb => Below.heap_setCell _ _ _ _ (by have := (hf.2 b hb).1; omega)) h
theorem owSetH (h : t.ow w cs x fp) (hf : FrI lo hi fp) {p : Addr} (hp : hi ≤ p.block) (u : Value) : t.ow (w.setCell p u) cs x fp :=
  Ty.ow_keep (fun b hb => Below.heap_setCell _ _ _ _ (by have := (hf.2 b hb).2; omega)) h
theorem owAlloc (h : t.ow w cs x fp) (o : Obj) : t.ow (w.alloc o) cs x fp := Ty.ow_bel (bel_alloc (Below.refl _ _) o) h
theorem owDrew (h : t.ow w cs x fp) : t.ow w.drew cs x fp := Ty.ow_bel (bel_drew (Below.refl _ _)) h
theorem owDrewN (h : t.ow w cs x fp) (n : Nat) : t.ow (w.drewN n) cs x fp := Ty.ow_bel (bel_drewN (Below.refl _ _) n) h
theorem owDr (h : t.ow w cs x fp) (hf : FrI lo hi fp) (hB : B < lo) (hd : Dr B w w') : t.ow w' cs x fp := Dr.ow hd h (fun hm => by have := (hf.2 _ hm).1; omega)
theorem owBel (h : t.ow w cs x fp) (hb : Below w.heap.size w w') : t.ow w' cs x fp := Ty.ow_bel hb h
end
theorem Row.ow {e : Ty} {F : Flat e} {w : World} {base : Nat} {te : TypeId} {A : Option Addr} {c n : Nat} {x : List e.D} (h : Row F w base te (.slice A n c) x) (hb : base ≤ w.heap.size) : ∃ fp, (Ty.sl e).ow w [.slice A n c] x fp ∧ FrI base w.heap.size fp := by
  obtain ⟨A', c', fp, hv, how, hfr⟩ := h.own hb
  exact ⟨fp, how, hfr⟩
theorem DRow.ow_ {e : Ty} {w : World} {base : Nat} {te : TypeId} {A : Option Addr} {c n : Nat} {x : List e.D} (h : DRow e w base te (.slice A n c) x) : ∃ fp, (Ty.sl e).ow w [.slice A n c] x fp ∧ FrI base w.heap.size fp := by
  obtain ⟨A', c', fp, hv, how, hfr⟩ := h.own
  exact ⟨fp, how, hfr⟩
theorem Row.litA {w : World} {te : TypeId} {l : List (List UInt8)} {arr : Array Value} {g n c base : Nat} (ha : arr = (l.map flatS.enc).toArray) (hl : (l.all fun s => decide (s.length ≤ 256)) = true) (hg : g = w.heap.size) (hn : n = l.length) (hc : c = n) (h256 : l.length ≤ 256) (hb : base ≤ w.heap.size) :
    Row flatS (w.alloc (.cells arr te)) base te (.slice (some ⟨g, 0, none⟩) n c) l := by
  subst ha hg hn hc
  exact ⟨World.ownsRow_lit w (l.map flatS.enc).toArray l.length hb (by unfold maxLen; omega) (by simp), fun s hs => by have := List.all_eq_true.1 hl s hs; simp only [decide_eq_true_eq] at this; show s.length ≤ _; omega⟩
/-- A call that draws, and hands back a struct in memory of its own. -/
def DrA (t : Ty) (w : World) (ok : t.D → Prop) (e : Ending) (w' : World) : Prop := ∃ cs x fp, e = .returned (.agg cs.toArray) ∧ t.ow w' cs x fp ∧ FrI w.heap.size w'.heap.size fp ∧ ok x
def DrS (t : Ty) (w : World) (ok : List t.D → Prop) (e : Ending) (w' : World) : Prop := ∃ A x c fp, e = .returned (.slice A (List.length x) c) ∧ (Ty.sl t).ow w' [.slice A (List.length x) c] x fp ∧ FrI w.heap.size w'.heap.size fp ∧ ok x
theorem Dr.grown {B : Nat} {w w1 w' : World} {row : Option Nat} (h : Dr B w w1) (hg : w1.grownBy w' row) (hr : ∀ g, row = some g → w.heap.size ≤ g) : Dr B w w' := by
  have h1 := h.size
  refine ⟨hg.os.trans h.os, hg.tape.trans h.tape, hg.output.trans h.output, by rw [hide_size, hide_size]; have := hg.size; omega, fun k hk => ?_⟩
  by_cases e : k = B
  · subst e
    rw [hide_same (by have := hg.size; omega), hide_same hk]
  · rw [hide_other e, hide_other e, hg.block k (by omega) (fun e' => by have := hr k e'.symm; omega)]
    have := Below.block h k hk
    rw [hide_other e, hide_other e] at this
    exact this
def lenV : Value → Nat
  | .slice _ n _ => n
  | _ => 0
theorem name_bulk {n : List (List UInt8)} (h : validName n = true) : Ty.bulk (.sl .str) n ≤ 54 := by
  have h6 := validName_len h
  have h8 : ∀ s ∈ n, s.length ≤ 8 := fun s hs => by
    unfold validName at h
    simp only [Bool.and_eq_true, List.all_eq_true] at h
    have := h.1 s hs
    unfold validPart at this
    simp only [Bool.and_eq_true, decide_eq_true_eq] at this
    omega
  have key : ∀ n : List (List UInt8), (∀ s ∈ n, s.length ≤ 8) → Ty.bulk (.sl .str) n ≤ n.length * 9 := by
    intro n
    induction n with
    | nil => intro _; exact Nat.le_refl _
    | cons a n ih =>
      intro h
      have h1 := ih (fun s hs => h s (List.mem_cons_of_mem _ hs))
      have h2 := h a (List.mem_cons_self ..)
      have h3 := bulk_app (e := .str) [a] n
      have h4 := bulk_one (e := .str) a
      rw [List.singleton_append] at h3
      have h5 : Ty.bulk .str a = a.length := rfl
      rw [h3, h4, h5, List.length_cons]
      omega
  have := key n h8
  omega
end Go.Proofs.Ytldgbnlcnlfmeaa
