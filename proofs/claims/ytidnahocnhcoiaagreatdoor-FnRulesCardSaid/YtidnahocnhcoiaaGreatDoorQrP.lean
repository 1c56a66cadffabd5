/- Short names for closing tactics that recur in this claim, printed by a program. -/
import Derived.WalkKit
import Derived.WalkSpells
import Derived.Lib.Hide
import Derived.Deep.QuietTactic
import Derived.BigQuiet
import Derived.ProofKit
import Derived.OpenShut
import Derived.ChangeOld
import Derived.Deep.Slices
import Derived.OwnWalk
import Derived.ArgAppend
import Derived.Laws.OwnMore
import Derived.Deep.RegionHeld3
import Derived.Maps.AppendAt
import Derived.Laws.BitsLemmas
import Derived.StillTailTactics
import Derived.WalkLawsBesides
import Derived.Shelf.Abstract
import Derived.Shelf.Strings.OnBuilder
import Derived.Lib.Join
import Derived.Laws.Concat
import Derived.Lib.SplitLaws
import Derived.Lib.CutLaws
import Derived.Shelf.Lays
import Derived.Shelf.Strings.Cut
import Derived.Shelf.Strings.Split
import Derived.Deep.DeepCutAuto
import Derived.ShutString
import Derived.LaidLaws
import Derived.LaidSub
import Derived.Shelf.Vars
import Derived.HandedShaped
import Derived.SevenTiedAt
namespace Go.Proofs.YtidnahocnhcoiaaGreatDoor
open Go.RowKit
set_option linter.unusedVariables false
theorem b_0 {p : Prop} (h : p := by (repeat' (first | (with_reducible exact Below.refl _ _) | (with_reducible assumption) | (with_reducible refine bel_set ?_ (by (try dsimp only); omega) _) | (with_reducible refine bel_alloc ?_ _) | (with_reducible refine bel_drewN ?_ _) | (with_reducible refine bel_drew ?_) | (with_reducible refine bel_trans ?_ (by assumption)))); done) : p := h
theorem b_1 {p : Prop} (h : p := by repeat' (first | (with_reducible exact Dr.refl _ _) | (with_reducible assumption) | (with_reducible refine Dr.set ?_ (by (try dsimp only); omega) _) | (with_reducible refine Dr.alloc ?_ _) | (with_reducible refine Dr.drewN ?_ _) | (with_reducible refine Dr.drew ?_) | (with_reducible refine Dr.trans ?_ (by assumption)))) : p := h
theorem b_2 {p : Prop} (h : p := by repeat' (first | (with_reducible exact Below.refl _ _) | (with_reducible assumption) | (with_reducible refine bel_set ?_ (by (try dsimp only); omega) _) | (with_reducible refine bel_alloc ?_ _) | (with_reducible refine bel_drewN ?_ _) | (with_reducible refine bel_drew ?_))) : p := h
theorem b_3 {p : Prop} (h : p := by (repeat (with_reducible refine rd_drewH ?_)); exact rd_litsA (by rfl) (by decide) (by first | (with_reducible rfl) | simp only [World.size_drew] | simp only [World.size_alloc, World.size_drew, size_drewN]) (by rfl) (by rfl) (by decide) (by (try simp only [szz]); omega)) : p := h
theorem b_4 {p : Prop} (h : p := by repeat' (first | (with_reducible assumption) | (with_reducible refine Cur.far ?_ (by (try dsimp only); omega) _) | (with_reducible refine Cur.alloc ?_ _) | (with_reducible refine Cur.drewN ?_ _) | (with_reducible refine Cur.drew ?_))) : p := h
theorem b_5 {p : Prop} (h : p := by (repeat (with_reducible refine rd_drewP ?_)); exact rd_lit1A (by rfl) (by decide) (by first | (with_reducible rfl) | simp only [World.size_drew] | simp only [World.size_alloc, World.size_drew, size_drewN])) : p := h
theorem b_6 {p : Prop} (h : p := by (repeat (with_reducible refine rd_drewP ?_)); exact rd_lit1A (by rfl) hsl (by first | (with_reducible rfl) | simp only [World.size_drew] | simp only [World.size_alloc, World.size_drew, size_drewN])) : p := h
theorem b_7 {p : Prop} (h : p := by repeat' (first | (with_reducible exact HG3.out) | (with_reducible refine GRow.alloc ?_ _) | (with_reducible refine GRow.drewN ?_ _) | (with_reducible refine GRow.drew ?_))) : p := h
theorem b_8 {p : Prop} (h : p := by repeat' (first | (with_reducible assumption) | (with_reducible refine Blk.alloc ?_ _) | (with_reducible refine Blk.drewN ?_ _) | (with_reducible refine Blk.drew ?_))) : p := h
theorem b_9 {p : Prop} (h : p := by (intro w hSw; (try dsimp only at hSw); go_simp; first | done | with_reducible rfl)) : p := h
theorem b_10 {p : Prop} (h : p := by (try simp only [World.size_alloc, World.size_setCell]); omega) : p := h
theorem b_11 {p : Prop} (h : p := by (try simp only [World.size_alloc]); omega) : p := h
theorem b_12 {p : Prop} (h : p := by (try simp only [World.size_drew]); omega) : p := h
theorem b_13 {p : Prop} (h : p := by first | exact .inl hw | exact .inr hw) : p := h
theorem b_14 {p : Prop} (h : p := by simp only [World.size_alloc]; omega) : p := h
theorem b_15 {p : Prop} (h : p := by rw [World.size_alloc]; omega) : p := h
theorem b_16 {p : Prop} (h : p := by (try simp only [szz]); omega) : p := h
theorem b_17 {p : Prop} (h : p := by as_aux_lemma => kernel_rfl) : p := h
theorem b_18 {p : Prop} (h : p := by dsimp only; omega) : p := h
theorem b_19 {p : Prop} (h : p := by assumption) : p := h
theorem b_20 {p : Prop} (h : p := by kernel_rfl) : p := h
theorem b_21 {p : Prop} (h : p := by decide) : p := h
theorem b_22 {p : Prop} (h : p := by omega) : p := h
theorem b_23 {p : Prop} (h : p := by simp) : p := h
theorem b_24 {p : Prop} (h : p := by rfl) : p := h
end Go.Proofs.YtidnahocnhcoiaaGreatDoor
