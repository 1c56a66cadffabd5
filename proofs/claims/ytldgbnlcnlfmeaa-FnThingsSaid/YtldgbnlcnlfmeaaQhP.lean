/- Short names for closing tactics that recur in this claim, printed by a program. -/
import Derived.WalkKit
import Derived.WalkSpells
import Derived.Lib.Hide
import Derived.Deep.QuietTactic
import Derived.BigQuiet
import Derived.ProofKit
import Derived.OpenShut
import Derived.ChangeOld
import Derived.Deep.Slices
import Derived.OwnWalk
import Derived.ArgAppend
import Derived.Laws.OwnMore
import Derived.Deep.RegionHeld3
import Derived.Maps.AppendAt
import Derived.Laws.BitsLemmas
import Derived.StillTailTactics
import Derived.WalkLawsBesides
import Derived.Shelf.Abstract
import Derived.Lib.SliceRun
import Derived.Laws.Bits128
import Derived.Laws.IdiomStrings
import Derived.Lib.AppendZeros
import Derived.Deep.DeepCutAuto
import Derived.Deep.OwnRows
import Derived.Laws.BitsAllLaws
import Derived.RegionTactic
import Derived.ChangeAlike
import Derived.Laws.CopyRow
import Derived.ShutString
namespace Go.Proofs.Ytldgbnlcnlfmeaa
open Go.RowKit
set_option linter.unusedVariables false
theorem b_0 {p : Prop} (h : p := by intro b hb'; have hb'' := (hfr0).2 b hb'; (try simp only [szz] at hb''); repeat (first | (with_reducible rfl) | (rw [Below.heap_setCell _ _ _ _ (by (try dsimp only); omega)]) | (rw [Below.heap_alloc _ _ _ (by (try simp only [World.size_alloc, World.size_setCell]); omega)]) | (rw [hb2.block _ (by (try simp only [szz]); omega)]) | (rw [hb1.block _ (by (try simp only [szz]); omega)]))) : p := h
theorem b_1 {p : Prop} (h : p := by intro b hb'; have hb'' := (hfr0).2 b hb'; (try simp only [szz] at hb''); repeat (first | (with_reducible rfl) | (rw [Below.heap_setCell _ _ _ _ (by (try dsimp only); omega)]) | (rw [Below.heap_alloc _ _ _ (by simp only [World.size_alloc, World.size_setCell]; omega)]) | (rw [hb1.block _ (by simp only [szz]; omega)]) | (rw [hb2.block _ (by simp only [szz]; omega)]))) : p := h
theorem b_2 {p : Prop} (h : p := by (repeat' (first | (with_reducible exact Below.refl _ _) | (with_reducible assumption) | (with_reducible refine bel_set ?_ (by (try dsimp only); omega) _) | (with_reducible refine bel_alloc ?_ _) | (with_reducible refine bel_drewN ?_ _) | (with_reducible refine bel_drew ?_) | (with_reducible refine bel_trans ?_ (by assumption)))); done) : p := h
theorem b_3 {p : Prop} (h : p := by repeat' (first | (with_reducible exact Dr.refl _ _) | (with_reducible assumption) | (with_reducible refine Dr.set ?_ (by (try dsimp only); omega) _) | (with_reducible refine Dr.alloc ?_ _) | (with_reducible refine Dr.drewN ?_ _) | (with_reducible refine Dr.drew ?_) | (with_reducible refine Dr.trans ?_ (by assumption)))) : p := h
theorem b_4 {p : Prop} (h : p := by first | exact (RdI.lits (by rfl) (by decide) (by first | (with_reducible rfl) | simp only [World.size_drew]) (by rfl) (by rfl) (by decide)) | exact RdI.drew (RdI.lits (by rfl) (by decide) (by first | (with_reducible rfl) | simp only [World.size_drew]) (by rfl) (by rfl) (by decide))) : p := h
theorem b_5 {p : Prop} (h : p := by repeat' (first | (with_reducible exact Below.refl _ _) | (with_reducible assumption) | (with_reducible refine bel_set ?_ (by (try dsimp only); omega) _) | (with_reducible refine bel_alloc ?_ _) | (with_reducible refine bel_drewN ?_ _) | (with_reducible refine bel_drew ?_))) : p := h
theorem b_6 {p : Prop} (h : p := by (repeat (with_reducible refine rd_drewH ?_)); exact rd_litsA (by rfl) (by decide) (by first | (with_reducible rfl) | simp only [World.size_drew] | simp only [World.size_alloc, World.size_drew, size_drewN]) (by rfl) (by rfl) (by decide) (by (try simp only [szz]); omega)) : p := h
theorem b_7 {p : Prop} (h : p := by (repeat (with_reducible refine rd_drewH ?_)); exact rd_litiA (by rfl) (by decide) (by first | (with_reducible rfl) | simp only [World.size_drew] | simp only [World.size_alloc, World.size_drew, size_drewN]) (by rfl) (by rfl) (by decide) (by (try simp only [szz]); omega)) : p := h
theorem b_8 {p : Prop} (h : p := by intro b hb'; have hb'' := (hfr2).2 b hb'; (try simp only [szz] at hb''); repeat (first | (with_reducible rfl) | (rw [Below.heap_setCell _ _ _ _ (by (try dsimp only); omega)]) | (rw [Below.heap_alloc _ _ _ (by simp only [World.size_alloc, World.size_setCell]; omega)]))) : p := h
theorem b_9 {p : Prop} (h : p := by repeat' (first | (with_reducible assumption) | (with_reducible refine Cur.far ?_ (by (try dsimp only); omega) _) | (with_reducible refine Cur.alloc ?_ _) | (with_reducible refine Cur.drewN ?_ _) | (with_reducible refine Cur.drew ?_))) : p := h
theorem b_10 {p : Prop} (h : p := by (repeat (with_reducible refine rd_drewP ?_)); exact rd_lit1A (by rfl) hsl (by first | (with_reducible rfl) | simp only [World.size_drew] | simp only [World.size_alloc, World.size_drew, size_drewN])) : p := h
theorem b_11 {p : Prop} (h : p := by repeat' (first | (with_reducible exact HG3.out) | (with_reducible refine GRow.alloc ?_ _) | (with_reducible refine GRow.drewN ?_ _) | (with_reducible refine GRow.drew ?_))) : p := h
theorem b_12 {p : Prop} (h : p := by repeat' (first | (with_reducible assumption) | (with_reducible refine Blk.alloc ?_ _) | (with_reducible refine Blk.drewN ?_ _) | (with_reducible refine Blk.drew ?_))) : p := h
theorem b_13 {p : Prop} (h : p := by simp [results, Try.results47, go_sem, R0, RF0, X0, XF0, R1, RF1, X1, XF1, R2, RF2, X2, XF2, R3, RF3, X3, XF3, R4, RF4, X4, XF4, ZR, ZX]) : p := h
theorem b_14 {p : Prop} (h : p := by simp [results, Try.results48, go_sem, R0, RF0, R1, RF1, R2, RF2, R3, RF3, R4, RF4, ZR]) : p := h
theorem b_15 {p : Prop} (h : p := by (intro w hSw; (try dsimp only at hSw); go_simp; first | done | with_reducible rfl)) : p := h
theorem b_16 {p : Prop} (h : p := by first | exact Blk.new _ _ _ | exact Blk.drew (Blk.new _ _ _)) : p := h
theorem b_17 {p : Prop} (h : p := by rw [World.size_setCell]; exact Nat.le_refl _) : p := h
theorem b_18 {p : Prop} (h : p := by first | exact .inl hw14 | exact .inr hw14) : p := h
theorem b_19 {p : Prop} (h : p := by simp only [World.size_setCell]; omega) : p := h
theorem b_20 {p : Prop} (h : p := by simp only [World.size_alloc]; omega) : p := h
theorem b_21 {p : Prop} (h : p := by (try simp only [szz]); omega) : p := h
theorem b_22 {p : Prop} (h : p := by rw [World.size_alloc]; omega) : p := h
theorem b_23 {p : Prop} (h : p := by as_aux_lemma => kernel_rfl) : p := h
theorem b_24 {p : Prop} (h : p := by (try dsimp only); omega) : p := h
theorem b_25 {p : Prop} (h : p := by dsimp only; omega) : p := h
theorem b_26 {p : Prop} (h : p := by assumption) : p := h
theorem b_27 {p : Prop} (h : p := by kernel_rfl) : p := h
theorem b_28 {p : Prop} (h : p := by decide) : p := h
theorem b_29 {p : Prop} (h : p := by omega) : p := h
theorem b_30 {p : Prop} (h : p := by simp) : p := h
theorem b_31 {p : Prop} (h : p := by rfl) : p := h
end Go.Proofs.Ytldgbnlcnlfmeaa
