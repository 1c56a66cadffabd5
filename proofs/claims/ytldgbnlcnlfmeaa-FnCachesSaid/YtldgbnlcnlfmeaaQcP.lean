/- Short names for closing tactics that recur in this claim, printed by a program. -/
import Derived.WalkKit
import Derived.WalkSpells
import Derived.Lib.Hide
import Derived.Deep.QuietTactic
import Derived.BigQuiet
import Derived.ProofKit
import Derived.OpenShut
import Derived.ChangeOld
import Derived.Deep.Slices
import Derived.StillTailTactics
import Derived.WalkLawsBesides
import Derived.Deep.RegionHeld3
import Derived.Shelf.Abstract
import Derived.OwnWalk
import Derived.ArgAppend
import Derived.Laws.OwnMore
import Derived.Lib.SliceRun
import Derived.Laws.Bits128
import Derived.Maps.AppendAt
import Derived.Laws.CopyRow
import Derived.Laws.BitsLemmas
import Derived.Laws.IdiomStrings
import Derived.Deep.DeepCutAuto
import Derived.Deep.OwnRows
import Derived.ShutString
namespace Go.Proofs.Ytldgbnlcnlfmeaa
open Go.RowKit
set_option linter.unusedVariables false
theorem b_0 {p : Prop} (h : p := by (first | exact (Src.litE 127 (ow_CacheEntry_mk (d := (x.2)[k]) (Ty.ow_bel (by (repeat' (first | (with_reducible exact Below.refl _ _) | (with_reducible assumption) | (with_reducible refine bel_set ?_ (by (try dsimp only); omega) _) | (with_reducible refine bel_alloc ?_ _) | (with_reducible refine bel_drewN ?_ _) | (with_reducible refine bel_drew ?_) | (with_reducible refine bel_trans ?_ (by assumption)))); done) how2) eg1) (hfr2.mono (by (try simp only [World.size_alloc, World.size_drew, size_drewN]); omega) (by (try simp only [World.size_alloc, World.size_drew, size_drewN]); omega)) (by first | rfl | simp only [World.size_alloc])) | exact Src.drew (Src.litE 127 (ow_CacheEntry_mk (d := (x.2)[k]) (Ty.ow_bel (by (repeat' (first | (with_reducible exact Below.refl _ _) | (with_reducible assumption) | (with_reducible refine bel_set ?_ (by (try dsimp only); omega) _) | (with_reducible refine bel_alloc ?_ _) | (with_reducible refine bel_drewN ?_ _) | (with_reducible refine bel_drew ?_) | (with_reducible refine bel_trans ?_ (by assumption)))); done) how2) eg1) (hfr2.mono (by (try simp only [World.size_alloc, World.size_drew, size_drewN]); omega) (by (try simp only [World.size_alloc, World.size_drew, size_drewN]); omega)) (by first | rfl | simp only [World.size_alloc])))) : p := h
theorem b_1 {p : Prop} (h : p := by intro b hb'; have hb'' := (hfr0).2 b hb'; (try simp only [szz] at hb''); repeat (first | (with_reducible rfl) | (rw [Below.heap_setCell _ _ _ _ (by (try dsimp only); omega)]) | (rw [Below.heap_alloc _ _ _ (by simp only [World.size_alloc, World.size_setCell]; omega)]) | (rw [hb1.block _ (by simp only [szz]; omega)]) | (rw [hb2.block _ (by simp only [szz]; omega)]))) : p := h
theorem b_2 {p : Prop} (h : p := by (repeat' (first | (with_reducible exact Below.refl _ _) | (with_reducible assumption) | (with_reducible refine bel_set ?_ (by (try dsimp only); omega) _) | (with_reducible refine bel_alloc ?_ _) | (with_reducible refine bel_drewN ?_ _) | (with_reducible refine bel_drew ?_) | (with_reducible refine bel_trans ?_ (by assumption)))); done) : p := h
theorem b_3 {p : Prop} (h : p := by repeat' (first | (with_reducible exact Dr.refl _ _) | (with_reducible assumption) | (with_reducible refine Dr.set ?_ (by (try dsimp only); omega) _) | (with_reducible refine Dr.alloc ?_ _) | (with_reducible refine Dr.drewN ?_ _) | (with_reducible refine Dr.drew ?_) | (with_reducible refine Dr.trans ?_ (by assumption)))) : p := h
theorem b_4 {p : Prop} (h : p := by first | exact (RdI.lits (by rfl) (by decide) (by first | (with_reducible rfl) | simp only [World.size_drew]) (by rfl) (by rfl) (by decide)) | exact RdI.drew (RdI.lits (by rfl) (by decide) (by first | (with_reducible rfl) | simp only [World.size_drew]) (by rfl) (by rfl) (by decide))) : p := h
theorem b_5 {p : Prop} (h : p := by intro b hb'; have hb'' := (hfr1).2 b hb'; (try simp only [szz] at hb''); repeat (first | (with_reducible rfl) | (rw [Below.heap_setCell _ _ _ _ (by (try dsimp only); omega)]) | (rw [Below.heap_alloc _ _ _ (by (try simp only [World.size_alloc, World.size_setCell]); omega)]))) : p := h
theorem b_6 {p : Prop} (h : p := by repeat' (first | (with_reducible exact Below.refl _ _) | (with_reducible assumption) | (with_reducible refine bel_set ?_ (by (try dsimp only); omega) _) | (with_reducible refine bel_alloc ?_ _) | (with_reducible refine bel_drewN ?_ _) | (with_reducible refine bel_drew ?_))) : p := h
theorem b_7 {p : Prop} (h : p := by (repeat (with_reducible refine rd_drewH ?_)); exact rd_litsA (by rfl) (by decide) (by first | (with_reducible rfl) | simp only [World.size_drew] | simp only [World.size_alloc, World.size_drew, size_drewN]) (by rfl) (by rfl) (by decide) (by (try simp only [szz]); omega)) : p := h
theorem b_8 {p : Prop} (h : p := by (repeat (with_reducible refine rd_drewH ?_)); exact rd_litiA (by rfl) (by decide) (by first | (with_reducible rfl) | simp only [World.size_drew] | simp only [World.size_alloc, World.size_drew, size_drewN]) (by rfl) (by rfl) (by decide) (by (try simp only [szz]); omega)) : p := h
theorem b_9 {p : Prop} (h : p := by repeat' (first | (with_reducible assumption) | (with_reducible refine Cur.far ?_ (by (try dsimp only); omega) _) | (with_reducible refine Cur.alloc ?_ _) | (with_reducible refine Cur.drewN ?_ _) | (with_reducible refine Cur.drew ?_))) : p := h
theorem b_10 {p : Prop} (h : p := by have := Blk.new ((w.alloc (.cells #[.int .i64 x.1, .slice Ax1 (List.length x.2) cx1] 55)).alloc (.cells #[.int .i64 0, .slice none 0 0] 55)) 55 #[.int .i64 x.1, .slice none 0 0]; rwa [World.size_alloc, World.size_alloc] at this) : p := h
theorem b_11 {p : Prop} (h : p := by dsimp only; intro hm; rcases List.mem_append.1 hm with hm | hm; (have := hfpx.2 _ hm; omega); (have := (hfr6.2 _ hm).1; (try simp only [World.size_alloc, World.size_drew, size_drewN] at this); omega)) : p := h
theorem b_12 {p : Prop} (h : p := by (repeat (with_reducible refine rd_drewP ?_)); exact rd_lit1A (by rfl) hsl (by first | (with_reducible rfl) | simp only [World.size_drew] | simp only [World.size_alloc, World.size_drew, size_drewN])) : p := h
theorem b_13 {p : Prop} (h : p := by repeat' (first | (with_reducible exact HG3.out) | (with_reducible refine GRow.alloc ?_ _) | (with_reducible refine GRow.drewN ?_ _) | (with_reducible refine GRow.drew ?_))) : p := h
theorem b_14 {p : Prop} (h : p := by repeat' (first | (with_reducible assumption) | (with_reducible refine Blk.alloc ?_ _) | (with_reducible refine Blk.drewN ?_ _) | (with_reducible refine Blk.drew ?_))) : p := h
theorem b_15 {p : Prop} (h : p := by simp [results, Try.results28, go_sem, kR_8_0, fR_8_0, kR_8_1, fR_8_1, kO_8_0, fO_8_0, kO_8_1, fO_8_1, zR_8, zO_8, hn5, hn6]) : p := h
theorem b_16 {p : Prop} (h : p := by simp [results, Try.results20, go_sem, kR_9_0, fR_9_0, kR_9_1, fR_9_1, kO_9_0, fO_9_0, kO_9_1, fO_9_1, zR_9, zO_9]) : p := h
theorem b_17 {p : Prop} (h : p := by (intro w hSw; (try dsimp only at hSw); go_simp; first | done | with_reducible rfl)) : p := h
theorem b_18 {p : Prop} (h : p := by (try simp only [World.size_alloc, World.size_drew, size_drewN]); omega) : p := h
theorem b_19 {p : Prop} (h : p := by have := HL.out; rw [List.length_singleton]; unfold maxLen; omega) : p := h
theorem b_20 {p : Prop} (h : p := by (try simp only [World.size_alloc, World.size_setCell]); omega) : p := h
theorem b_21 {p : Prop} (h : p := by first | exact Blk.new _ _ _ | exact Blk.drew (Blk.new _ _ _)) : p := h
theorem b_22 {p : Prop} (h : p := by rw [World.size_setCell]; exact Nat.le_refl _) : p := h
theorem b_23 {p : Prop} (h : p := by (try simp only [World.size_setCell]); omega) : p := h
theorem b_24 {p : Prop} (h : p := by first | rfl | simp only [World.size_alloc]) : p := h
theorem b_25 {p : Prop} (h : p := by first | exact .inl hw14 | exact .inr hw14) : p := h
theorem b_26 {p : Prop} (h : p := by simp only [World.size_alloc]; omega) : p := h
theorem b_27 {p : Prop} (h : p := by (try simp only [szz]); omega) : p := h
theorem b_28 {p : Prop} (h : p := by as_aux_lemma => kernel_rfl) : p := h
theorem b_29 {p : Prop} (h : p := by (try dsimp only); omega) : p := h
theorem b_30 {p : Prop} (h : p := by dsimp only; omega) : p := h
theorem b_31 {p : Prop} (h : p := by kernel_rfl) : p := h
theorem b_32 {p : Prop} (h : p := by assumption) : p := h
theorem b_33 {p : Prop} (h : p := by decide) : p := h
theorem b_34 {p : Prop} (h : p := by omega) : p := h
theorem b_35 {p : Prop} (h : p := by rfl) : p := h
end Go.Proofs.Ytldgbnlcnlfmeaa
