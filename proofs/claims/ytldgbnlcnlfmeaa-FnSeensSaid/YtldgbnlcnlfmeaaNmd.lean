/- Names are drawn. Printed by gen46.py. -/
import Derived.Test.YtldgbnlcnlfmeaaCuw
import Derived.Test.YtldgbnlcnlfmeaaPnm
import Derived.Test.YtldgbnlcnlfmeaaCpy
namespace Go.Proofs.Ytldgbnlcnlfmeaa
open Go.RowKit
set_option linter.unusedVariables false
set_option linter.unusedSimpArgs false

theorem Row.dr {e : Ty} {F : Flat e} {B : Nat} {w w' : World} {base : Nat} {te : TypeId} {v : Value} {x : List e.D} (h : Row F w base te v x) (hd : Dr B w w') (hB : B < base) : Row F w' base te v x := by
  refine ⟨⟨h.1.1, ?_⟩, h.2⟩
  rcases h.1.2 with hn | ⟨g, cap, cur, rfl, hbg, hgg, rest⟩
  · exact .inl hn
  · exact .inr ⟨g, cap, cur, rfl, hbg, (Dr.block hd (Blk.lt (t := te) (cs := cur) hgg) (by omega)).trans hgg, rest⟩
theorem row_setN {e : Ty} {F : Flat e} {w : World} {base : Nat} {te : TypeId} {v : Value} {x : List e.D} (h : Row F w base te v x) {p : Addr} (hp : p.block < base) (u : Value) : Row F (w.setCell p u) base te v x := by
  refine ⟨⟨h.1.1, ?_⟩, h.2⟩
  rcases h.1.2 with hn | ⟨g, cap, cur, rfl, hbg, hgg, rest⟩
  · exact .inl hn
  · exact .inr ⟨g, cap, cur, rfl, hbg, (Below.heap_setCell _ _ _ _ (by omega)).trans hgg, rest⟩
theorem Row.rdH {e : Ty} {F : Flat e} {B : Nat} {w : World} {base : Nat} {te : TypeId} {v : Value} {x : List e.D} (h : Row F w base te v x) (hb : base ≤ w.heap.size) (hB : B < base) : (Ty.sl e).rd (hide B w) [v] x := by
  obtain ⟨A, c, fp, _, how, hfr⟩ := h.own hb
  exact Ty.ow_rd (ow_hideF how hfr hB)
theorem rd_lits (B : Nat) (w : World) (te : TypeId) (l : List (List UInt8)) (hl : ∀ s ∈ l, s.length ≤ 9223372036854775807) (hn : l.length ≤ 256) (hB : B < w.heap.size) :
    (Ty.sl .str).rd (hide B (w.alloc (.cells (l.map flatS.enc).toArray te))) [.slice (some ⟨w.heap.size, 0, none⟩) l.length l.length] l :=
  Row.rdH (F := flatS) (base := w.heap.size) ⟨World.ownsRow_lit w (l.map flatS.enc).toArray l.length (Nat.le_refl _) (by unfold maxLen; omega) (by simp), hl⟩ (by rw [World.size_alloc]; omega) hB
theorem rd_liti (B : Nat) (w : World) (te : TypeId) (l : List Int) (hl : ∀ s ∈ l, -9223372036854775808 ≤ s ∧ s ≤ 9223372036854775807) (hn : l.length ≤ 256) (hB : B < w.heap.size) :
    (Ty.sl .int).rd (hide B (w.alloc (.cells (l.map flatI.enc).toArray te))) [.slice (some ⟨w.heap.size, 0, none⟩) l.length l.length] l :=
  Row.rdH (F := flatI) (base := w.heap.size) ⟨World.ownsRow_lit w (l.map flatI.enc).toArray l.length (Nat.le_refl _) (by unfold maxLen; omega) (by simp), hl⟩ (by rw [World.size_alloc]; omega) hB
theorem rd_drewH {B : Nat} {w : World} {t : Ty} {cs : List Value} {x : t.D} (h : t.rd (hide B w) cs x) : t.rd (hide B w.drew) cs x := Dr.rd (Dr.drew (Dr.refl B w)) h
/-- A struct of one row, in memory of its own, and perhaps a plain value. -/
def RetRA (te : TypeId) (w : World) (x : List (List UInt8)) (e : Ending) (w' : World) : Prop := ∃ v, e = .returned (.agg #[v]) ∧ Row flatS w' w.heap.size te v x ∧ Below w.heap.size w w'
def RetRA2 (te : TypeId) (w : World) (x : List (List UInt8)) (u : Value) (e : Ending) (w' : World) : Prop := ∃ v, e = .returned (.tuple #[.agg #[v], u]) ∧ Row flatS w' w.heap.size te v x ∧ Below w.heap.size w w'
def apS (n : List (List UInt8)) (s : List UInt8) : List (List UInt8) × Bool := if validName (n ++ [s]) then (n ++ [s], true) else (n, false)
set_option maxHeartbeats 1000000 in
theorem C_spec_l4CopyR (w : World) (cs : List Value) (x : List (List UInt8)) (h : (Ty.sl .str).rd w cs x) (hx : x.length ≤ 1000000000000) :
    Calls Try.prog 73 #[.agg cs.toArray] w (RetRA 9 w x) := by
  obtain ⟨A0, c0, rfl⟩ := Ty.rd_slv h
  have hl0 : Row flatS (((w.alloc (.cells #[.slice A0 x.length c0] 27)).alloc (.cells #[.slice none 0 0] 27)).alloc (.cells #[] 9)) (w.heap.size + 1 + 1) 9 (.slice (some ⟨w.heap.size + 1 + 1, 0, none⟩) 0 0) [] := by
    have := Row.lit0 flatS ((w.alloc (.cells #[.slice A0 x.length c0] 27)).alloc (.cells #[.slice none 0 0] 27)) 9 (base := w.heap.size + 1 + 1) (by simp only [World.size_alloc]; omega)
    simp only [World.size_alloc] at this
    exact this
  have HL0 := Lib.hid hl0
  clear hl0
  go_enter Try.func73, Try.ntmps73
  set_option maxRecDepth 100000 in go_wp2_with (at_builtin; go_loud (refine wpList_append_row rfl _ _ 25 rfl flatS (w.heap.size + 1 + 1) 9 info_str rfl Try.underlying25 _ _ [] x rfl rfl HL0.out (Ty.rd_below (by repeat' (first | (with_reducible exact Below.refl _ _) | (with_reducible assumption) | (with_reducible refine bel_set ?_ (by (try dsimp only); omega) _) | (with_reducible refine bel_alloc ?_ _) | (with_reducible refine bel_drewN ?_ _) | (with_reducible refine bel_drew ?_))) h) ?_ ?_ ?_ ?_))
  case refine_1 => simp only [List.length_nil]; omega
  case refine_2 => simp only [List.length_nil]; unfold maxLen; omega
  case refine_3 => simp only [World.size_alloc]; omega
  intro v1 w1 hr1 hg1
  have hb1 : Below ((w.alloc (.cells #[.slice A0 x.length c0] 27)).alloc (.cells #[.slice none 0 0] 27)).heap.size ((w.alloc (.cells #[.slice A0 x.length c0] 27)).alloc (.cells #[.slice none 0 0] 27)) w1 := bel_grown (bel_alloc (Below.refl _ _) _) (by simp only [World.size_alloc]; omega) hg1 (fun g hg => by simp [Value.ownBlock] at hg; simp only [World.size_alloc]; omega)
  have hz1 := hb1.size
  simp only [World.size_alloc] at hz1
  obtain ⟨A1, c1, fp1, rfl, how1, hfr1⟩ := hr1.own (by omega)
  have hw1 : Below w.heap.size w w1 := bel_trans (by repeat' (first | (with_reducible exact Below.refl _ _) | (with_reducible assumption) | (with_reducible refine bel_set ?_ (by (try dsimp only); omega) _) | (with_reducible refine bel_alloc ?_ _) | (with_reducible refine bel_drewN ?_ _) | (with_reducible refine bel_drew ?_))) hb1
  obtain ⟨hc1, hf1⟩ := bcell hb1
  have z0 : w.heap.size < w1.heap.size := by omega
  have z1 : w.heap.size + 1 < w1.heap.size := by omega
  have HR1 := Lib.hid hr1
  clear hr1
  obtain ⟨A2, c2, hv2⟩ := HR1.out.form
  go_wp2
  refine bodyPost_ret (v := .agg #[.slice A1 (List.length x) c1]) (by simp [results, Try.results73, go_sem, hc1, hf1, z0, z1]) rfl ?_
  exact ⟨_, rfl, (row_setN HR1.out (by dsimp only; omega) _).mono (by omega), (by repeat' (first | (with_reducible exact Below.refl _ _) | (with_reducible assumption) | (with_reducible refine bel_set ?_ (by (try dsimp only); omega) _) | (with_reducible refine bel_alloc ?_ _) | (with_reducible refine bel_drewN ?_ _) | (with_reducible refine bel_drew ?_)))⟩
set_option maxHeartbeats 2000000 in
theorem C_spec_AppendPart (w : World) (v : Value) (n : List (List UInt8)) (s : List UInt8) (h : (Ty.sl .str).rd w [v] n) (hn : n.length ≤ 1000000) (hs : s.length ≤ 1000000) :
    Calls Try.prog 139 #[.agg #[v], vS s] w (RetRA2 9 w (apS n s).1 (.bool (apS n s).2)) := by
  obtain ⟨A0, c0, rfl, _, _, _⟩ := Ty.rd_sl h
  have hl0 : Row flatS (((w.alloc (.cells #[.slice A0 n.length c0] 27)).alloc (.cells #[.slice none 0 0] 27)).alloc (.cells #[] 9)) (w.heap.size + 1 + 1) 9 (.slice (some ⟨w.heap.size + 1 + 1, 0, none⟩) 0 0) [] := by
    have := Row.lit0 flatS ((w.alloc (.cells #[.slice A0 n.length c0] 27)).alloc (.cells #[.slice none 0 0] 27)) 9 (base := w.heap.size + 1 + 1) (by simp only [World.size_alloc]; omega)
    simp only [World.size_alloc] at this
    exact this
  have HL0 := Lib.hid hl0
  clear hl0
  go_enter Try.func139, Try.ntmps139
  set_option maxRecDepth 100000 in go_wp2_with (at_builtin; go_loud (refine wpList_append_row rfl _ _ 25 rfl flatS (w.heap.size + 1 + 1) 9 info_str rfl Try.underlying25 _ _ [] n rfl rfl HL0.out (Ty.rd_below (by repeat' (first | (with_reducible exact Below.refl _ _) | (with_reducible assumption) | (with_reducible refine bel_set ?_ (by (try dsimp only); omega) _) | (with_reducible refine bel_alloc ?_ _) | (with_reducible refine bel_drewN ?_ _) | (with_reducible refine bel_drew ?_))) h) ?_ ?_ ?_ ?_))
  case refine_1 => simp only [List.length_nil]; omega
  case refine_2 => simp only [List.length_nil]; unfold maxLen; omega
  case refine_3 => simp only [World.size_alloc]; omega
  intro v1 w1 hr1 hg1
  have hb1 : Below ((w.alloc (.cells #[.slice A0 n.length c0] 27)).alloc (.cells #[.slice none 0 0] 27)).heap.size ((w.alloc (.cells #[.slice A0 n.length c0] 27)).alloc (.cells #[.slice none 0 0] 27)) w1 := bel_grown (bel_alloc (Below.refl _ _) _) (by simp only [World.size_alloc]; omega) hg1 (fun g hg => by simp [Value.ownBlock] at hg; simp only [World.size_alloc]; omega)
  have hz1 := hb1.size
  simp only [World.size_alloc] at hz1
  have hw1 : Below w.heap.size w w1 := bel_trans (by repeat' (first | (with_reducible exact Below.refl _ _) | (with_reducible assumption) | (with_reducible refine bel_set ?_ (by (try dsimp only); omega) _) | (with_reducible refine bel_alloc ?_ _) | (with_reducible refine bel_drewN ?_ _) | (with_reducible refine bel_drew ?_))) hb1
  have HR1 := Lib.hid (show Row flatS w1 (w.heap.size + 1 + 1) 9 v1 n from hr1)
  have hA1 : Blk w1 w.heap.size 27 #[.slice A0 n.length c0] := ((Blk.new w _ _).alloc _).below hb1 (by simp only [World.size_alloc]; omega)
  have hO1 : Blk w1 (w.heap.size + 1) 27 #[.slice none 0 0] := by
    have := (Blk.new (w.alloc (.cells #[.slice A0 n.length c0] 27)) 27 #[.slice none 0 0]).below hb1 (by simp only [World.size_alloc]; omega)
    rwa [World.size_alloc] at this
  clear hr1
  have HL1 := Lib.hid (Row.lit1 flatS w1 9 s (by show s.length ≤ _; omega) (Nat.le_refl _))
  set_option maxRecDepth 100000 in go_wp2_with (at_builtin; go_loud (refine wpList_append_row rfl _ _ 25 rfl flatS (w.heap.size + 1 + 1) 9 info_str rfl Try.underlying25 _ _ n [s] rfl rfl (HR1.out.below (by repeat' (first | (with_reducible exact Below.refl _ _) | (with_reducible assumption) | (with_reducible refine bel_set ?_ (by (try dsimp only); omega) _) | (with_reducible refine bel_alloc ?_ _) | (with_reducible refine bel_drewN ?_ _) | (with_reducible refine bel_drew ?_)))) (HL1.out.rd (by (try simp only [World.size_alloc, World.size_setCell, size_drewN, World.size_drew]); omega)) ?_ ?_ ?_ ?_))
  case refine_1 => simp only [List.length_singleton]; omega
  case refine_2 => simp only [List.length_singleton]; unfold maxLen; omega
  case refine_3 => simp only [World.size_alloc]; omega
  intro v2 w2 hr2 hg2
  have hne : ∀ g, g < w.heap.size + 1 + 1 → some g ≠ v1.ownBlock := fun g hg e => by have := (HR1.out.block _ e.symm).1; omega
  have hA2 : Blk w2 w.heap.size 27 #[.slice A0 n.length c0] := (hA1.alloc _).grown hg2 (hne _ (by omega))
  have hO2 : Blk w2 (w.heap.size + 1) 27 #[.slice none 0 0] := (hO1.alloc _).grown hg2 (hne _ (by omega))
  have hw2 : Below w.heap.size w w2 := bel_grown (bel_alloc hw1 _) (by simp only [World.size_alloc]; omega) hg2 (fun g hg => by have := (HR1.out.block g hg).1; omega)
  have hz2 := hg2.size
  simp only [World.size_alloc] at hz2
  obtain ⟨A2, c2, rfl⟩ := hr2.form
  have HR2 := Lib.hid hr2
  have hm2 := HR2.out
  have how2 := hm2.own (by omega)
  obtain ⟨A2', c2', fp2, hv2, how2, hfr2⟩ := how2
  have hval := C_spec_ValidName (w2.alloc (.cells #[.slice A2 (n ++ [s]).length c2] 27)) [.slice A2 (n ++ [s]).length c2] (n ++ [s]) (Ty.rd_below (by repeat' (first | (with_reducible exact Below.refl _ _) | (with_reducible assumption) | (with_reducible refine bel_set ?_ (by (try dsimp only); omega) _) | (with_reducible refine bel_alloc ?_ _) | (with_reducible refine bel_drewN ?_ _) | (with_reducible refine bel_drew ?_))) (Ty.ow_rd how2))
  have HNO := Lib.hid (fun h : validName (n ++ [s]) = false => show apS n s = (n, false) from by unfold apS; rw [h]; rfl)
  have HYES := Lib.hid (fun h : validName (n ++ [s]) = true => show apS n s = (n ++ [s], true) from by unfold apS; rw [if_pos h])
  generalize validName (n ++ [s]) = vv at hval HNO HYES
  have hk2 : w2.cell? ⟨w.heap.size, 0, none⟩ = some (.slice A0 n.length c0) := hA2.cell 0
  clear hr2 hm2 hg2 hne
  generalize hnn : (n ++ [s]).length = nn at *
  go_wp2_with fail
  refine hval.mono ?_
  rintro e w3 ⟨rfl, hb3⟩
  have hs3 := hb3.size
  simp only [World.size_alloc] at hs3
  have hx3 : Below w2.heap.size w2 w3 := bel_trans (bel_alloc (Below.refl _ _) _) hb3
  have hw3 : Below w.heap.size w w3 := bel_trans hw2 hx3
  have hA3 := hA2.below hx3 (by omega)
  have hO3 := hO2.below hx3 (by omega)
  have hP3 : Blk w3 w2.heap.size 27 #[.slice A2 nn c2] := (Blk.new w2 _ _).below hb3 (by rw [World.size_alloc]; omega)
  have kA3 : w3.cell? ⟨w.heap.size, 0, none⟩ = some (.slice A0 n.length c0) := hA3.cell 0
  have kO3 : w3.cell? ⟨w.heap.size + 1, 0, none⟩ = some (.slice none 0 0) := hO3.cell 0
  have fO3 : w3.frozen? ⟨w.heap.size + 1, 0, none⟩ = false := hO3.frozen 0
  have kP3 : w3.cell? ⟨w2.heap.size, 0, none⟩ = some (.slice A2 nn c2) := hP3.cell 0
  have z3 : w.heap.size + 1 < w3.heap.size := by omega
  have y3 : w2.heap.size < w3.heap.size := by omega
  clear hk2 hval
  cases vv with
  | true =>
    have HY := Lib.hid (HYES.out rfl)
    go_wp2
    refine bodyPost_ret (v := .tuple #[.agg #[.slice A2 nn c2], .bool true]) (by simp [results, Try.results139, go_sem, kO3, fO3, z3]) rfl ?_
    rw [HY.out]
    exact ⟨_, rfl, (row_setN (HR2.out.below hx3) (by dsimp only; omega) _).mono (by omega), (by repeat' (first | (with_reducible exact Below.refl _ _) | (with_reducible assumption) | (with_reducible refine bel_set ?_ (by (try dsimp only); omega) _) | (with_reducible refine bel_alloc ?_ _) | (with_reducible refine bel_drewN ?_ _) | (with_reducible refine bel_drew ?_)))⟩
  | false =>
    have HN := Lib.hid (HNO.out rfl)
    go_wp2_with fail
    refine (C_spec_l4CopyR _ _ n (Ty.rd_below hw3 h) (by omega)).mono ?_
    rintro e w4 ⟨v4, rfl, hr4, hb4⟩
    have hO4 := hO3.below hb4 z3
    have kO4 : w4.cell? ⟨w.heap.size + 1, 0, none⟩ = some (.slice none 0 0) := hO4.cell 0
    have fO4 : w4.frozen? ⟨w.heap.size + 1, 0, none⟩ = false := hO4.frozen 0
    have z4 : w.heap.size + 1 < w4.heap.size := hO4.lt
    have hs4 := hb4.size
    have HR4 := Lib.hid hr4
    obtain ⟨A4, c4, rfl⟩ := hr4.form
    clear hr4 kO3 fO3
    go_wp2
    refine bodyPost_ret (v := .tuple #[.agg #[.slice A4 n.length c4], .bool false]) (by simp [results, Try.results139, go_sem, kO4, fO4, z4]) rfl ?_
    rw [HN.out]
    exact ⟨_, rfl, (row_setN HR4.out (by dsimp only; omega) _).mono (by omega), bel_set (bel_trans hw3 hb4) (by dsimp only; omega) _⟩
end Go.Proofs.Ytldgbnlcnlfmeaa
