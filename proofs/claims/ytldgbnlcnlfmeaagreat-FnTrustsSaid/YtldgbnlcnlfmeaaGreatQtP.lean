/- Short names for closing tactics that recur in this claim, printed by a program. -/
import Derived.WalkKit
import Derived.WalkSpells
import Derived.Lib.Hide
import Derived.Deep.QuietTactic
import Derived.BigQuiet
import Derived.ProofKit
import Derived.OpenShut
import Derived.ChangeOld
import Derived.Deep.Slices
import Derived.OwnWalk
import Derived.ArgAppend
import Derived.Laws.OwnMore
import Derived.Deep.RegionHeld3
import Derived.Maps.AppendAt
import Derived.Laws.BitsLemmas
import Derived.StillTailTactics
import Derived.WalkLawsBesides
import Derived.Shelf.Abstract
import Derived.Lib.SliceRun
import Derived.Laws.Bits128
import Derived.Laws.IdiomStrings
import Derived.Lib.AppendZeros
import Derived.Laws.CopyRow
import Derived.Deep.DeepCutAuto
import Derived.Deep.OwnRows
import Derived.ShutString
namespace Go.Proofs.YtldgbnlcnlfmeaaGreat
open Go.RowKit
set_option linter.unusedVariables false
theorem b_0 {p : Prop} (h : p := by repeat' (first | (with_reducible exact HDX.out) | (with_reducible refine DataR.set ?_ (.inl (by (try dsimp only); omega)) _) | (with_reducible refine DataR.set ?_ (.inr (by (try dsimp only); omega)) _) | (with_reducible refine DataR.alloc ?_ _) | (with_reducible refine DataR.drewN ?_ _) | (with_reducible refine DataR.drew ?_) | (with_reducible refine DataR.below ?_ hb5) | (with_reducible refine DataR.below ?_ hb4))) : p := h
theorem b_1 {p : Prop} (h : p := by intro b hb'; have hb'' := (hfr0).2 b hb'; (try simp only [szz] at hb''); repeat (first | (with_reducible rfl) | (rw [Below.heap_setCell _ _ _ _ (by (try dsimp only); omega)]) | (rw [Below.heap_alloc _ _ _ (by (try simp only [World.size_alloc, World.size_setCell]); omega)]) | (rw [hb2.block _ (by (try simp only [szz]); omega)]) | (rw [hb1.block _ (by (try simp only [szz]); omega)]))) : p := h
theorem b_2 {p : Prop} (h : p := by intro b hb'; have hb'' := (hfrx).2 b hb'; (try simp only [szz] at hb''); repeat (first | (with_reducible rfl) | (rw [Below.heap_setCell _ _ _ _ (by (try dsimp only); omega)]) | (rw [Below.heap_alloc _ _ _ (by (try simp only [World.size_alloc, World.size_setCell]); omega)]) | (rw [hb5.block _ (by (try simp only [szz]); omega)]) | (rw [hb4.block _ (by (try simp only [szz]); omega)]))) : p := h
theorem b_3 {p : Prop} (h : p := by intro b hb'; have hb'' := (hfr0).2 b hb'; (try simp only [szz] at hb''); repeat (first | (with_reducible rfl) | (rw [Below.heap_setCell _ _ _ _ (by (try dsimp only); omega)]) | (rw [Below.heap_alloc _ _ _ (by simp only [World.size_alloc, World.size_setCell]; omega)]) | (rw [hb1.block _ (by simp only [szz]; omega)]) | (rw [hb2.block _ (by simp only [szz]; omega)]))) : p := h
theorem b_4 {p : Prop} (h : p := by (repeat' (first | (with_reducible exact Below.refl _ _) | (with_reducible assumption) | (with_reducible refine bel_set ?_ (by (try dsimp only); omega) _) | (with_reducible refine bel_alloc ?_ _) | (with_reducible refine bel_drewN ?_ _) | (with_reducible refine bel_drew ?_) | (with_reducible refine bel_trans ?_ (by assumption)))); done) : p := h
theorem b_5 {p : Prop} (h : p := by repeat' (first | (with_reducible exact Dr.refl _ _) | (with_reducible assumption) | (with_reducible refine Dr.set ?_ (by (try dsimp only); omega) _) | (with_reducible refine Dr.alloc ?_ _) | (with_reducible refine Dr.drewN ?_ _) | (with_reducible refine Dr.drew ?_) | (with_reducible refine Dr.trans ?_ (by assumption)))) : p := h
theorem b_6 {p : Prop} (h : p := by first | exact (RdI.lits (by rfl) (by decide) (by first | (with_reducible rfl) | simp only [World.size_drew]) (by rfl) (by rfl) (by decide)) | exact RdI.drew (RdI.lits (by rfl) (by decide) (by first | (with_reducible rfl) | simp only [World.size_drew]) (by rfl) (by rfl) (by decide))) : p := h
theorem b_7 {p : Prop} (h : p := by first | exact (RdI.liti (by rfl) (by decide) (by first | (with_reducible rfl) | simp only [World.size_drew]) (by rfl) (by rfl) (by decide)) | exact RdI.drew (RdI.liti (by rfl) (by decide) (by first | (with_reducible rfl) | simp only [World.size_drew]) (by rfl) (by rfl) (by decide))) : p := h
theorem b_8 {p : Prop} (h : p := by intro b hb'; have hb'' := (hfrx).2 b hb'; (try simp only [szz] at hb''); repeat (first | (with_reducible rfl) | (rw [Below.heap_setCell _ _ _ _ (by (try dsimp only); omega)]) | (rw [Below.heap_alloc _ _ _ (by (try simp only [World.size_alloc, World.size_setCell]); omega)]))) : p := h
theorem b_9 {p : Prop} (h : p := by intro b hb'; have hb'' := (hfrd).2 b hb'; (try simp only [szz] at hb''); repeat (first | (with_reducible rfl) | (rw [Below.heap_setCell _ _ _ _ (by (try dsimp only); omega)]) | (rw [Below.heap_alloc _ _ _ (by (try simp only [World.size_alloc, World.size_setCell]); omega)]))) : p := h
theorem b_10 {p : Prop} (h : p := by repeat' (first | (with_reducible exact Below.refl _ _) | (with_reducible assumption) | (with_reducible refine bel_set ?_ (by (try dsimp only); omega) _) | (with_reducible refine bel_alloc ?_ _) | (with_reducible refine bel_drewN ?_ _) | (with_reducible refine bel_drew ?_))) : p := h
theorem b_11 {p : Prop} (h : p := by (repeat (with_reducible refine rd_drewH ?_)); exact rd_litsA (by rfl) (by decide) (by first | (with_reducible rfl) | simp only [World.size_drew] | simp only [World.size_alloc, World.size_drew, size_drewN]) (by rfl) (by rfl) (by decide) (by (try simp only [szz]); omega)) : p := h
theorem b_12 {p : Prop} (h : p := by (repeat (with_reducible refine rd_drewH ?_)); exact rd_litiA (by rfl) (by decide) (by first | (with_reducible rfl) | simp only [World.size_drew] | simp only [World.size_alloc, World.size_drew, size_drewN]) (by rfl) (by rfl) (by decide) (by (try simp only [szz]); omega)) : p := h
theorem b_13 {p : Prop} (h : p := by intro b hb'; have hb'' := (hfr2).2 b hb'; (try simp only [szz] at hb''); repeat (first | (with_reducible rfl) | (rw [Below.heap_setCell _ _ _ _ (by (try dsimp only); omega)]) | (rw [Below.heap_alloc _ _ _ (by simp only [World.size_alloc, World.size_setCell]; omega)]))) : p := h
theorem b_14 {p : Prop} (h : p := by repeat' (first | (with_reducible assumption) | (with_reducible refine Cur.far ?_ (by (try dsimp only); omega) _) | (with_reducible refine Cur.alloc ?_ _) | (with_reducible refine Cur.drewN ?_ _) | (with_reducible refine Cur.drew ?_))) : p := h
theorem b_15 {p : Prop} (h : p := by simp [results, Tryz.results36, go_sem, kR_4_0, fR_4_0, kR_4_1, fR_4_1, kR_4_2, fR_4_2, kR_4_3, fR_4_3, kR_4_4, fR_4_4, kX_4_0, fX_4_0, kX_4_1, fX_4_1, kX_4_2, fX_4_2, kX_4_3, fX_4_3, kX_4_4, fX_4_4, zR_4, zX_4]) : p := h
theorem b_16 {p : Prop} (h : p := by simp [results, Tryz.results36, go_sem, kR_5_0, fR_5_0, kR_5_1, fR_5_1, kR_5_2, fR_5_2, kR_5_3, fR_5_3, kR_5_4, fR_5_4, kX_5_0, fX_5_0, kX_5_1, fX_5_1, kX_5_2, fX_5_2, kX_5_3, fX_5_3, kX_5_4, fX_5_4, zR_5, zX_5]) : p := h
theorem b_17 {p : Prop} (h : p := by (repeat (with_reducible refine rd_drewP ?_)); exact rd_lit1A (by rfl) (by decide) (by first | (with_reducible rfl) | simp only [World.size_drew] | simp only [World.size_alloc, World.size_drew, size_drewN])) : p := h
theorem b_18 {p : Prop} (h : p := by (repeat (with_reducible refine rd_drewP ?_)); exact rd_lit1A (by rfl) hsl (by first | (with_reducible rfl) | simp only [World.size_drew] | simp only [World.size_alloc, World.size_drew, size_drewN])) : p := h
theorem b_19 {p : Prop} (h : p := by repeat' (first | (with_reducible exact HG3.out) | (with_reducible refine GRow.alloc ?_ _) | (with_reducible refine GRow.drewN ?_ _) | (with_reducible refine GRow.drew ?_))) : p := h
theorem b_20 {p : Prop} (h : p := by repeat' (first | (with_reducible assumption) | (with_reducible refine Blk.alloc ?_ _) | (with_reducible refine Blk.drewN ?_ _) | (with_reducible refine Blk.drew ?_))) : p := h
theorem b_21 {p : Prop} (h : p := by have := hb1.size; simp only [World.size_alloc, World.size_drew, size_drewN] at this; omega) : p := h
theorem b_22 {p : Prop} (h : p := by simp only [World.size_alloc, World.size_drew, size_drewN]; omega) : p := h
theorem b_23 {p : Prop} (h : p := by (try simp only [World.size_alloc, World.size_setCell]); omega) : p := h
theorem b_24 {p : Prop} (h : p := by first | exact Blk.new _ _ _ | exact Blk.drew (Blk.new _ _ _)) : p := h
theorem b_25 {p : Prop} (h : p := by intro q hq; simp at hq; rcases hq with rfl | rfl <;> omega) : p := h
theorem b_26 {p : Prop} (h : p := by rw [World.size_setCell]; exact Nat.le_refl _) : p := h
theorem b_27 {p : Prop} (h : p := by first | rfl | simp only [World.size_alloc]) : p := h
theorem b_28 {p : Prop} (h : p := by first | exact .inl hw14 | exact .inr hw14) : p := h
theorem b_29 {p : Prop} (h : p := by simp only [World.size_setCell]; omega) : p := h
theorem b_30 {p : Prop} (h : p := by simp only [World.size_alloc]; omega) : p := h
theorem b_31 {p : Prop} (h : p := by rw [World.size_alloc]; omega) : p := h
theorem b_32 {p : Prop} (h : p := by (try simp only [szz]); omega) : p := h
theorem b_33 {p : Prop} (h : p := by (try dsimp only); omega) : p := h
theorem b_34 {p : Prop} (h : p := by dsimp only; omega) : p := h
theorem b_35 {p : Prop} (h : p := by kernel_rfl) : p := h
theorem b_36 {p : Prop} (h : p := by decide) : p := h
theorem b_37 {p : Prop} (h : p := by omega) : p := h
theorem b_38 {p : Prop} (h : p := by simp) : p := h
theorem b_39 {p : Prop} (h : p := by rfl) : p := h
end Go.Proofs.YtldgbnlcnlfmeaaGreat
