/- Texts of this claim, merged by a program: Rdn Dci Dda Rdl. -/
import Derived.Test.YtidnahocnhcoiaaDoorQwP
import Derived.Test.YtidnahocnhcoiaaDoorQw6
import Derived.Test.YtidnahocnhcoiaaDoorQw0
import Derived.Test.YtidnahocnhcoiaaDoorQw2
import Derived.Test.YtidnahocnhcoiaaDoorQw1
import Derived.Test.YtidnahocnhcoiaaDoorQw5
import Derived.RegionTactic
import Derived.ChangeAlike
namespace Go.Proofs.YtidnahocnhcoiaaDoor
open Go.RowKit
set_option linter.unusedVariables false
set_option linter.unusedSimpArgs false
def rnLoop (b : List UInt8) : Nat → Nat → List (List UInt8) → Option (List (List UInt8) × Nat)
 | 0, p, acc => some (acc, p)
 | k + 1, p, acc => match readBytes b p 8 with | none => none | some q => rnLoop b k q.2 (acc ++ [q.1])
def readName (b : List UInt8) (a : Int) : Option (List (List UInt8) × Nat) := match readVarint b a with
 | none => none
 | some q => if 6 < q.1 then none else match rnLoop b q.1 q.2 [] with | none => none | some r => if validName r.1 then some r else none
def rn0 (r : Option (List (List UInt8) × Nat)) : List (List UInt8) := match r with | none => [] | some q => q.1
def rn1 (r : Option (List (List UInt8) × Nat)) : Int := match r with | none => 0 | some q => q.2
theorem readName_none {b : List UInt8} {a : Int} (h : readVarint b a = none) : readName b a = none := by unfold readName; rw [h]
theorem readName_6 {b : List UInt8} {a : Int} {q : Nat × Nat} (h : readVarint b a = some q) (h6 : 6 < q.1) : readName b a = none := by unfold readName; rw [h]; exact if_pos h6
theorem readName_go {b : List UInt8} {a : Int} {q : Nat × Nat} (h : readVarint b a = some q) (h6 : ¬ 6 < q.1) : readName b a = match rnLoop b q.1 q.2 [] with | none => none | some r => if validName r.1 then some r else none := by unfold readName; rw [h]; exact if_neg h6
theorem rnLoop_bd {b : List UInt8} : ∀ {k p : Nat} {acc : List (List UInt8)} {r : List (List UInt8) × Nat}, p ≤ b.length → rnLoop b k p acc = some r → p ≤ r.2 ∧ r.2 ≤ b.length
 | 0, p, acc, r, hp, h => by rw [rnLoop] at h; injection h with h; subst h; exact ⟨Nat.le_refl _, hp⟩
 | k + 1, p, acc, r, hp, h => by
  rw [rnLoop] at h
  cases hv : readBytes b p 8 with
  | none => rw [hv] at h; cases h
  | some q =>
   rw [hv] at h
   have hb := readBytes_bd hv
   have := rnLoop_bd hb.2.2.1 h
   exact ⟨by omega, this.2⟩
theorem readName_bd {b : List UInt8} {a : Int} {r : List (List UInt8) × Nat} (h : readName b a = some r) : validName r.1 = true ∧ a < r.2 ∧ r.2 ≤ b.length := by
 unfold readName at h
 cases hv : readVarint b a with
 | none => rw [hv] at h; cases h
 | some q =>
  rw [hv] at h
  have hq := readVarint_bd hv
  simp only at h
  split at h
  ·cases h
  ·cases hl : rnLoop b q.1 q.2 [] with
   | none => rw [hl] at h; cases h
   | some r' =>
    rw [hl] at h
    simp only at h
    have := rnLoop_bd hq.2.2 hl
    split at h
    ·rename_i hvn
     injection h with h; subst h
     exact ⟨hvn, by omega, this.2⟩
    ·cases h
theorem bulk_strs {x : List (List UInt8)} {m : Nat} (h : ∀ s ∈ x, s.length ≤ m) : Ty.bulk (.sl .str) x ≤ x.length * (m + 1) := by
 show x.length + (x.map (fun d => List.length d)).sum ≤ _
 induction x with
 | nil => simp
 | cons a l ih =>
  have h1 := ih (fun s hs => h s (List.mem_cons_of_mem _ hs))
  have h2 := h a (List.mem_cons_self ..)
  rw [List.map_cons, List.sum_cons, List.length_cons, Nat.succ_mul]
  omega
theorem row_set {e : Ty} {F : Flat e} {w : World} {base : Nat} {te : TypeId} {v : Value} {x : List e.D} (h : Row F w base te v x) {p : Addr} (hp : p.block < base) (u : Value) : Row F (w.setCell p u) base te v x := by
 refine ⟨⟨h.1.1, ?_⟩, h.2⟩
 rcases h.1.2 with hn | ⟨g, cap, cur, rfl, hbg, hgg, rest⟩
 ·exact .inl hn
 ·exact .inr ⟨g, cap, cur, rfl, hbg, (Below.heap_setCell _ _ _ _ b_18).trans hgg, rest⟩
set_option maxHeartbeats 4000000 in
theorem C_impl_ReadName (w : World) (v : Value) (b : List UInt8) (a : Int) (h : (Ty.sl .byte).rd w [v] b) (hi : -9223372036854775808 ≤ a ∧ a ≤ 9223372036854775807) (hbl : b.length ≤ 1000000000000) :
  Calls Tryd.prog 12 #[v, .int .i64 a] w (RetAgg3 w (.sl .str) (rn0 (readName b a)) (.int .i64 (rn1 (readName b a))) (.bool (readName b a).isSome)) := by
 obtain ⟨A, c, rfl, hc, hm, hn⟩ := Ty.rd_sl h
 cases hv : readVarint b a with
 | none =>
  have HN := Lib.hid (readName_none hv)
  generalize readName b a = R at HN ⊢
  go_enter Tryd.func12, Tryd.ntmps12
  go_wp2_with fail
  refine (C_impl_ReadVarint _ _ b a (Ty.rd_below b_3 h) hi).mono ?_
  rw [hv]
  rintro e w1 ⟨rfl, hw1⟩
  subst hw1
  clear hv
  go_wp2
  refine bodyPost_ret (v := .tuple #[.agg #[.slice none 0 0], .int .i64 0, .bool false]) (by simp [results, Tryd.results12, go_sem]) rfl ?_
  rw [HN.out]
  exact ⟨[.slice none 0 0], [], rfl, rd_ow_nil _ _, FrI.nil _ _, b_3⟩
 | some qq =>
  obtain ⟨k, p⟩ := qq
  have hbd := readVarint_bd hv
  simp only at hbd
  by_cases h6 : 6 < k
  ·have HN := Lib.hid (readName_6 hv h6)
   generalize readName b a = R at HN ⊢
   go_enter Tryd.func12, Tryd.ntmps12
   go_wp2_with fail
   refine (C_impl_ReadVarint _ _ b a (Ty.rd_below b_3 h) hi).mono ?_
   rw [hv]
   rintro e w1 ⟨rfl, hw1⟩
   subst hw1
   clear hv
   go_wp2
   refine bodyPost_ret (v := .tuple #[.agg #[.slice none 0 0], .int .i64 0, .bool false]) (by simp [results, Tryd.results12, go_sem]) rfl ?_
   rw [HN.out]
   exact ⟨[.slice none 0 0], [], rfl, rd_ow_nil _ _, FrI.nil _ _, b_3⟩
  have HN := Lib.hid (readName_go hv h6)
  generalize readName b a = R at HN ⊢
  generalize hL : rnLoop b k p [] = L at HN
  have HL := Lib.hid hL
  clear hL
  have hp0 : p ≤ b.length := hbd.2.2
  go_enter Tryd.func12, Tryd.ntmps12
  go_wp2_with fail
  refine (C_impl_ReadVarint _ _ b a (Ty.rd_below b_3 h) hi).mono ?_
  rw [hv]
  rintro e w1 ⟨rfl, hw1⟩
  subst hw1
  clear hv hbd
  go_wp2
  go_loopw [8, 30] (fun nx i wr => ∃ (j q : Nat) (acc : List (List UInt8)) (vv : Value), j ≤ k ∧ i = .int .i64 j ∧ nx = .int .i64 q ∧ q ≤ b.length ∧ Blk wr w.heap.size 26 #[.slice none 0 0] ∧ Blk wr (w.heap.size + 1) 26 #[vv] ∧ Row flatS wr (w.heap.size + 2) 9 vv acc ∧ acc.length = j ∧ Hid (rnLoop b (k - j) q acc = L) ∧ Below w.heap.size w wr) (fun _ i _ => k - (intOf i).toNat)
  case atStart =>
   exact ⟨0, p, [], .slice none 0 0, by omega, by first | rfl | simp, rfl, hp0, (Blk.new w _ _).alloc _, by have := Blk.new (w.alloc (.cells #[.slice none 0 0] 26)) 26 #[.slice none 0 0]; rwa [World.size_alloc] at this, Row.nil _ _ _ _, rfl, Lib.hid HL.out, b_3⟩
  case round =>
   obtain ⟨j, q, acc, vv, hj, rfl, rfl, hq, hB0, hB1, hr, hal, hR, hb⟩ := hrel
   have HRow := Lib.hid hr
   have HAL := Lib.hid hal
   clear hr hal
   have g0 : wr.cell? ⟨w.heap.size, 0, none⟩ = some (.slice none 0 0) := hB0.cell 0
   have g1 : wr.cell? ⟨w.heap.size + 1, 0, none⟩ = some vv := hB1.cell 0
   have z0 := hB0.lt
   have z1 := hB1.lt
   have f0 : wr.frozen? ⟨w.heap.size, 0, none⟩ = false := hB0.frozen 0
   by_cases hlt : j < k
   ·cases hv : readBytes b q 8 with
    | none =>
     have HL2 := Lib.hid (show L = none from by rw [← hR.out, show k - j = (k - j - 1) + 1 from by omega, rnLoop, hv])
     have hcall : Calls Tryd.prog 41 #[.slice A b.length c, .int .i64 q, .int .i64 8] wr (RetSl3 wr .byte [] (.int .i64 0) (.bool false)) := by
      have := C_impl_ReadBytes wr _ b q 8 (Ty.rd_below hb h) b_18 hbl b_18; rw [hv] at this; exact this
     go_wp2_with fail
     refine hcall.mono ?_
     rintro e w1 ⟨A1, c1, fp1, rfl, how1, hfr1, hb1⟩
     have hw1 : Below w.heap.size w w1 := bel_trans hb hb1
     have k0 : w1.cell? ⟨w.heap.size, 0, none⟩ = some (.slice none 0 0) := (hb1.cell (p := ⟨w.heap.size, 0, none⟩) z0).trans g0
     have k0f : w1.frozen? ⟨w.heap.size, 0, none⟩ = false := (hb1.frozen (p := ⟨w.heap.size, 0, none⟩) z0).trans f0
     have z2 : w.heap.size < w1.heap.size := Nat.lt_of_lt_of_le z0 hb1.size
     clear hv
     go_wp2
     refine bodyPost_ret (v := .tuple #[.agg #[.slice none 0 0], .int .i64 0, .bool false]) (by simp [results, Tryd.results12, go_sem, k0, z2]) rfl ?_
     rw [HN.out, HL2.out]
     exact ⟨[.slice none 0 0], [], rfl, rd_ow_nil _ _, FrI.nil _ _, b_3⟩
    | some r =>
     obtain ⟨x, q2⟩ := r
     have hbd := readBytes_bd hv
     simp only at hbd
     have HL2 := Lib.hid (show rnLoop b (k - (j + 1)) q2 (acc ++ [x]) = L from by rw [← hR.out, show k - j = (k - (j + 1)) + 1 from by omega, rnLoop, hv])
     have hcall : Calls Tryd.prog 41 #[.slice A b.length c, .int .i64 q, .int .i64 8] wr (RetSl3 wr .byte x (.int .i64 q2) (.bool true)) := by
      have := C_impl_ReadBytes wr _ b q 8 (Ty.rd_below hb h) b_18 hbl b_18; rw [hv] at this; exact this
     go_wp2_with fail
     refine hcall.mono ?_
     rintro e w1 ⟨A1, c1, fp1, rfl, how1, hfr1, hb1⟩
     have hw1 : Below w.heap.size w w1 := bel_trans hb hb1
     have B0 := hB0.below hb1 z0
     have B1 := hB1.below hb1 z1
     have k1 : w1.cell? ⟨w.heap.size + 1, 0, none⟩ = some vv := B1.cell 0
     have z2 := B1.lt
     have hx8 : (x.length : Int) ≤ 8 := hbd.1
     have hq2 : q2 ≤ b.length := hbd.2.2.1
     have hcv : (convert 22 9 (.slice A1 (List.length x) c1)).run Tryd.prog w1 = .ok (vS x) w1 := run_str_of_bytes (P := Tryd.prog) 22 9 5 Tryd.underlying22 Tryd.underlying5 Tryd.underlying9 (Ty.ow_rd how1)
     have HRow1 := Lib.hid (HRow.out.below hb1)
     have HLX := Lib.hid (Row.lit1 flatS w1 9 x (by show x.length ≤ _; omega) (Nat.le_refl _))
     have HB0 := Lib.hid B0
     have HB1 := Lib.hid B1
     have hz1 := hb1.size
     clear hv hR hbd B0 B1 hB0 hB1 g0 g1 f0 hfr1 how1
     clear hcall
     set_option maxRecDepth 100000 in go_wp2_with (at_builtin; go_loud (refine wpList_append_row rfl _ _ 24 rfl flatS (w.heap.size + 2) 9 info_str rfl Tryd.underlying24 _ _ acc [x] rfl rfl (HRow1.out.below b_3) (HLX.out.rd b_12) ?_ ?_ ?_ ?_))
     case refine_1 => rw [HAL.out, List.length_singleton]; omega
     case refine_2 => rw [HAL.out, List.length_singleton]; unfold maxLen; omega
     case refine_3 => simp only [World.size_alloc]; omega
     intro v' w' hr' hg'
     obtain ⟨A3, c3, hv3⟩ := hr'.form
     generalize (acc ++ [x]).length = n3 at hv3
     subst hv3
     have hb' : Below w.heap.size w w' := bel_grown (bel_alloc hw1 _) b_12 hg' (fun g hg => by have := (HRow1.out.block g hg).1; omega)
     have hne0 : some w.heap.size ≠ vv.ownBlock := fun e => by have := (HRow1.out.block _ e.symm).1; omega
     have hne1 : some (w.heap.size + 1) ≠ vv.ownBlock := fun e => by have := (HRow1.out.block _ e.symm).1; omega
     have C0 := (HB0.out.alloc (.cells #[vS x] 9)).grown hg' hne0
     have C1 := (HB1.out.alloc (.cells #[vS x] 9)).grown hg' hne1
     have m1 : w'.cell? ⟨w.heap.size + 1, 0, none⟩ = some vv := C1.cell 0
     have m1f : w'.frozen? ⟨w.heap.size + 1, 0, none⟩ = false := C1.frozen 0
     have HC0 := Lib.hid C0
     have HC1 := Lib.hid C1
     have HR' := Lib.hid hr'
     clear hr' C0 C1 hne0 hne1
     set_option maxRecDepth 100000 in go_wp2
     go_roundw
     case rel =>
      refine ⟨j + 1, q2, acc ++ [x], .slice A3 n3 c3, by omega, by go_num, rfl, hq2, HC0.out.far b_19 _, HC1.out.set_ 0 _, ?_, by rw [List.length_append, HAL.out]; rfl, HL2, b_3⟩
      exact row_set HR'.out b_19 _
     case measure => simp [intOf]; omega
   ·have HL2 := Lib.hid (show L = some (acc, q) from by rw [← hR.out, show k - j = 0 from by omega, rnLoop])
    have hrd := HRow.out.rd b_18
    go_wp2_with fail
    refine (C_impl_ValidName _ _ acc hrd).mono ?_
    rintro e w1 ⟨rfl, hb1⟩
    have hw1 : Below w.heap.size w w1 := bel_trans hb hb1
    have B0 := hB0.below hb1 z0
    have B1 := hB1.below hb1 z1
    have k0 : w1.cell? ⟨w.heap.size, 0, none⟩ = some (.slice none 0 0) := B0.cell 0
    have k0f : w1.frozen? ⟨w.heap.size, 0, none⟩ = false := B0.frozen 0
    have k1 : w1.cell? ⟨w.heap.size + 1, 0, none⟩ = some vv := B1.cell 0
    have z2 := B0.lt
    have z3 := B1.lt
    have HRow1 := Lib.hid (HRow.out.below hb1)
    clear B0 B1 hB0 hB1 g0 g1 f0
    cases q0 : validName acc
    ·have HE := Lib.hid q0
     go_wp2
     refine bodyPost_ret (v := .tuple #[.agg #[.slice none 0 0], .int .i64 0, .bool false]) (by simp [results, Tryd.results12, go_sem, k0, z2]) rfl ?_
     rw [HN.out, HL2.out]
     simp only [HE.out]
     exact ⟨[.slice none 0 0], [], rfl, rd_ow_nil _ _, FrI.nil _ _, b_3⟩
    ·have HE := Lib.hid q0
     obtain ⟨A2, c2, fp2, hv2, how2, hfr2⟩ := HRow1.out.own b_18
     subst hv2
     go_wp2
     refine bodyPost_ret (v := .tuple #[.agg #[.slice A2 acc.length c2], .int .i64 q, .bool true]) (by simp [results, Tryd.results12, go_sem, k0, z2]) rfl ?_
     rw [HN.out, HL2.out]
     simp only [HE.out]
     exact ⟨[.slice A2 acc.length c2], fp2, rfl, Ty.ow_keep (by intro b hb'; have hb'' := (hfr2).2 b hb'; (try simp only [szz] at hb''); repeat (first | (with_reducible rfl) | (rw [Below.heap_setCell _ _ _ _ (by (try dsimp only); omega)]) | (rw [Below.heap_alloc _ _ _ (by simp only [World.size_alloc, World.size_setCell]; omega)]))) how2, hfr2.mono b_12 b_12, b_3⟩
set_option maxHeartbeats 4000000 in
theorem C_spec_ReadName (w : World) (v : Value) (b : List UInt8) (a : Int) (h : (Ty.sl .byte).rd w [v] b) (hi : -9223372036854775808 ≤ a ∧ a ≤ 9223372036854775807) (hbl : b.length ≤ 1000000000000) :
  Calls Tryd.prog 13 #[v, .int .i64 a] w (RetAgg3 w (.sl .str) (rn0 (readName b a)) (.int .i64 (rn1 (readName b a))) (.bool (readName b a).isSome)) := by
 obtain ⟨A, c, rfl, hc, hm, hn⟩ := Ty.rd_sl h
 cases hv : readVarint b a with
 | none =>
  have HN := Lib.hid (readName_none hv)
  generalize readName b a = R at HN ⊢
  go_enter Tryd.func13, Tryd.ntmps13
  go_wp2_with fail
  refine (C_spec_ReadVarint _ _ b a (Ty.rd_below b_3 h) hi).mono ?_
  rw [hv]
  rintro e w1 ⟨rfl, hw1⟩
  subst hw1
  clear hv
  go_wp2
  refine bodyPost_ret (v := .tuple #[.agg #[.slice none 0 0], .int .i64 0, .bool false]) (by simp [results, Tryd.results13, go_sem]) rfl ?_
  rw [HN.out]
  exact ⟨[.slice none 0 0], [], rfl, rd_ow_nil _ _, FrI.nil _ _, b_3⟩
 | some qq =>
  obtain ⟨k, p⟩ := qq
  have hbd := readVarint_bd hv
  simp only at hbd
  by_cases h6 : 6 < k
  ·have HN := Lib.hid (readName_6 hv h6)
   generalize readName b a = R at HN ⊢
   go_enter Tryd.func13, Tryd.ntmps13
   go_wp2_with fail
   refine (C_spec_ReadVarint _ _ b a (Ty.rd_below b_3 h) hi).mono ?_
   rw [hv]
   rintro e w1 ⟨rfl, hw1⟩
   subst hw1
   clear hv
   go_wp2
   refine bodyPost_ret (v := .tuple #[.agg #[.slice none 0 0], .int .i64 0, .bool false]) (by simp [results, Tryd.results13, go_sem]) rfl ?_
   rw [HN.out]
   exact ⟨[.slice none 0 0], [], rfl, rd_ow_nil _ _, FrI.nil _ _, b_3⟩
  have HN := Lib.hid (readName_go hv h6)
  generalize readName b a = R at HN ⊢
  generalize hL : rnLoop b k p [] = L at HN
  have HL := Lib.hid hL
  clear hL
  have hp0 : p ≤ b.length := hbd.2.2
  go_enter Tryd.func13, Tryd.ntmps13
  go_wp2_with fail
  refine (C_spec_ReadVarint _ _ b a (Ty.rd_below b_3 h) hi).mono ?_
  rw [hv]
  rintro e w1 ⟨rfl, hw1⟩
  subst hw1
  clear hv hbd
  go_wp2
  go_loopw [8, 11] (fun nx i wr => ∃ (j q : Nat) (acc : List (List UInt8)) (vv : Value), j ≤ k ∧ i = .int .i64 j ∧ nx = .int .i64 q ∧ q ≤ b.length ∧ Blk wr w.heap.size 26 #[.slice none 0 0] ∧ Blk wr (w.heap.size + 1) 26 #[vv] ∧ Row flatS wr (w.heap.size + 2) 9 vv acc ∧ acc.length = j ∧ Hid (rnLoop b (k - j) q acc = L) ∧ Below w.heap.size w wr) (fun _ i _ => k - (intOf i).toNat)
  case atStart =>
   exact ⟨0, p, [], .slice none 0 0, by omega, by first | rfl | simp, rfl, hp0, (Blk.new w _ _).alloc _, by have := Blk.new (w.alloc (.cells #[.slice none 0 0] 26)) 26 #[.slice none 0 0]; rwa [World.size_alloc] at this, Row.nil _ _ _ _, rfl, Lib.hid HL.out, b_3⟩
  case round =>
   obtain ⟨j, q, acc, vv, hj, rfl, rfl, hq, hB0, hB1, hr, hal, hR, hb⟩ := hrel
   have HRow := Lib.hid hr
   have HAL := Lib.hid hal
   clear hr hal
   have g0 : wr.cell? ⟨w.heap.size, 0, none⟩ = some (.slice none 0 0) := hB0.cell 0
   have g1 : wr.cell? ⟨w.heap.size + 1, 0, none⟩ = some vv := hB1.cell 0
   have z0 := hB0.lt
   have z1 := hB1.lt
   have f0 : wr.frozen? ⟨w.heap.size, 0, none⟩ = false := hB0.frozen 0
   by_cases hlt : j < k
   ·cases hv : readBytes b q 8 with
    | none =>
     have HL2 := Lib.hid (show L = none from by rw [← hR.out, show k - j = (k - j - 1) + 1 from by omega, rnLoop, hv])
     have hcall : Calls Tryd.prog 44 #[.slice A b.length c, .int .i64 q, .int .i64 8] wr (RetSl3 wr .byte [] (.int .i64 0) (.bool false)) := by
      have := C_spec_ReadBytes wr _ b q 8 (Ty.rd_below hb h) b_18 hbl b_18; rw [hv] at this; exact this
     go_wp2_with fail
     refine hcall.mono ?_
     rintro e w1 ⟨A1, c1, fp1, rfl, how1, hfr1, hb1⟩
     have hw1 : Below w.heap.size w w1 := bel_trans hb hb1
     have k0 : w1.cell? ⟨w.heap.size, 0, none⟩ = some (.slice none 0 0) := (hb1.cell (p := ⟨w.heap.size, 0, none⟩) z0).trans g0
     have k0f : w1.frozen? ⟨w.heap.size, 0, none⟩ = false := (hb1.frozen (p := ⟨w.heap.size, 0, none⟩) z0).trans f0
     have z2 : w.heap.size < w1.heap.size := Nat.lt_of_lt_of_le z0 hb1.size
     clear hv
     go_wp2
     refine bodyPost_ret (v := .tuple #[.agg #[.slice none 0 0], .int .i64 0, .bool false]) (by simp [results, Tryd.results13, go_sem, k0, z2]) rfl ?_
     rw [HN.out, HL2.out]
     exact ⟨[.slice none 0 0], [], rfl, rd_ow_nil _ _, FrI.nil _ _, b_3⟩
    | some r =>
     obtain ⟨x, q2⟩ := r
     have hbd := readBytes_bd hv
     simp only at hbd
     have HL2 := Lib.hid (show rnLoop b (k - (j + 1)) q2 (acc ++ [x]) = L from by rw [← hR.out, show k - j = (k - (j + 1)) + 1 from by omega, rnLoop, hv])
     have hcall : Calls Tryd.prog 44 #[.slice A b.length c, .int .i64 q, .int .i64 8] wr (RetSl3 wr .byte x (.int .i64 q2) (.bool true)) := by
      have := C_spec_ReadBytes wr _ b q 8 (Ty.rd_below hb h) b_18 hbl b_18; rw [hv] at this; exact this
     go_wp2_with fail
     refine hcall.mono ?_
     rintro e w1 ⟨A1, c1, fp1, rfl, how1, hfr1, hb1⟩
     have hw1 : Below w.heap.size w w1 := bel_trans hb hb1
     have B0 := hB0.below hb1 z0
     have B1 := hB1.below hb1 z1
     have k1 : w1.cell? ⟨w.heap.size + 1, 0, none⟩ = some vv := B1.cell 0
     have z2 := B1.lt
     have hx8 : (x.length : Int) ≤ 8 := hbd.1
     have hq2 : q2 ≤ b.length := hbd.2.2.1
     have hcv : (convert 22 9 (.slice A1 (List.length x) c1)).run Tryd.prog w1 = .ok (vS x) w1 := run_str_of_bytes (P := Tryd.prog) 22 9 5 Tryd.underlying22 Tryd.underlying5 Tryd.underlying9 (Ty.ow_rd how1)
     have HRow1 := Lib.hid (HRow.out.below hb1)
     have HLX := Lib.hid (Row.lit1 flatS w1 9 x (by show x.length ≤ _; omega) (Nat.le_refl _))
     have HB0 := Lib.hid B0
     have HB1 := Lib.hid B1
     have hz1 := hb1.size
     clear hv hR hbd B0 B1 hB0 hB1 g0 g1 f0 hfr1 how1
     clear hcall
     set_option maxRecDepth 100000 in go_wp2_with (at_builtin; go_loud (refine wpList_append_row rfl _ _ 24 rfl flatS (w.heap.size + 2) 9 info_str rfl Tryd.underlying24 _ _ acc [x] rfl rfl (HRow1.out.below b_3) (HLX.out.rd b_12) ?_ ?_ ?_ ?_))
     case refine_1 => rw [HAL.out, List.length_singleton]; omega
     case refine_2 => rw [HAL.out, List.length_singleton]; unfold maxLen; omega
     case refine_3 => simp only [World.size_alloc]; omega
     intro v' w' hr' hg'
     obtain ⟨A3, c3, hv3⟩ := hr'.form
     generalize (acc ++ [x]).length = n3 at hv3
     subst hv3
     have hb' : Below w.heap.size w w' := bel_grown (bel_alloc hw1 _) b_12 hg' (fun g hg => by have := (HRow1.out.block g hg).1; omega)
     have hne0 : some w.heap.size ≠ vv.ownBlock := fun e => by have := (HRow1.out.block _ e.symm).1; omega
     have hne1 : some (w.heap.size + 1) ≠ vv.ownBlock := fun e => by have := (HRow1.out.block _ e.symm).1; omega
     have C0 := (HB0.out.alloc (.cells #[vS x] 9)).grown hg' hne0
     have C1 := (HB1.out.alloc (.cells #[vS x] 9)).grown hg' hne1
     have m1 : w'.cell? ⟨w.heap.size + 1, 0, none⟩ = some vv := C1.cell 0
     have m1f : w'.frozen? ⟨w.heap.size + 1, 0, none⟩ = false := C1.frozen 0
     have HC0 := Lib.hid C0
     have HC1 := Lib.hid C1
     have HR' := Lib.hid hr'
     clear hr' C0 C1 hne0 hne1
     set_option maxRecDepth 100000 in go_wp2
     go_roundw
     case rel =>
      refine ⟨j + 1, q2, acc ++ [x], .slice A3 n3 c3, by omega, by go_num, rfl, hq2, HC0.out.far b_19 _, HC1.out.set_ 0 _, ?_, by rw [List.length_append, HAL.out]; rfl, HL2, b_3⟩
      exact row_set HR'.out b_19 _
     case measure => simp [intOf]; omega
   ·have HL2 := Lib.hid (show L = some (acc, q) from by rw [← hR.out, show k - j = 0 from by omega, rnLoop])
    have hrd := HRow.out.rd b_18
    go_wp2_with fail
    refine (C_spec_ValidName _ _ acc hrd).mono ?_
    rintro e w1 ⟨rfl, hb1⟩
    have hw1 : Below w.heap.size w w1 := bel_trans hb hb1
    have B0 := hB0.below hb1 z0
    have B1 := hB1.below hb1 z1
    have k0 : w1.cell? ⟨w.heap.size, 0, none⟩ = some (.slice none 0 0) := B0.cell 0
    have k0f : w1.frozen? ⟨w.heap.size, 0, none⟩ = false := B0.frozen 0
    have k1 : w1.cell? ⟨w.heap.size + 1, 0, none⟩ = some vv := B1.cell 0
    have z2 := B0.lt
    have z3 := B1.lt
    have HRow1 := Lib.hid (HRow.out.below hb1)
    clear B0 B1 hB0 hB1 g0 g1 f0
    cases q0 : validName acc
    ·have HE := Lib.hid q0
     go_wp2
     refine bodyPost_ret (v := .tuple #[.agg #[.slice none 0 0], .int .i64 0, .bool false]) (by simp [results, Tryd.results13, go_sem, k0, z2]) rfl ?_
     rw [HN.out, HL2.out]
     simp only [HE.out]
     exact ⟨[.slice none 0 0], [], rfl, rd_ow_nil _ _, FrI.nil _ _, b_3⟩
    ·have HE := Lib.hid q0
     obtain ⟨A2, c2, fp2, hv2, how2, hfr2⟩ := HRow1.out.own b_18
     subst hv2
     go_wp2
     refine bodyPost_ret (v := .tuple #[.agg #[.slice A2 acc.length c2], .int .i64 q, .bool true]) (by simp [results, Tryd.results13, go_sem, k0, z2]) rfl ?_
     rw [HN.out, HL2.out]
     simp only [HE.out]
     exact ⟨[.slice A2 acc.length c2], fp2, rfl, Ty.ow_keep (by intro b hb'; have hb'' := (hfr2).2 b hb'; (try simp only [szz] at hb''); repeat (first | (with_reducible rfl) | (rw [Below.heap_setCell _ _ _ _ (by (try dsimp only); omega)]) | (rw [Below.heap_alloc _ _ _ (by simp only [World.size_alloc, World.size_setCell]; omega)]))) how2, hfr2.mono b_12 b_12, b_3⟩
def diLoop (b : List UInt8) : Nat → Nat → List Int → Option (List Int × Nat)
 | 0, p, acc => some (acc, p)
 | k + 1, p, acc => match readVarint b p with | none => none | some q => diLoop b k q.2 (acc ++ [(q.1 : Int)])
def decodeInts (b : List UInt8) (a n : Int) : Option (List Int × Nat) := if inR n 0 100 && inR a 0 b.length then diLoop b n.toNat a.toNat [] else none
def di0 (r : Option (List Int × Nat)) : List Int := match r with | none => [] | some q => q.1
def di1 (r : Option (List Int × Nat)) : Int := match r with | none => 0 | some q => q.2
theorem diLoop_bd {b : List UInt8} : ∀ {k p : Nat} {acc : List Int} {r : List Int × Nat}, p ≤ b.length → (∀ x ∈ acc, 0 ≤ x ∧ x ≤ 1000000000000) → diLoop b k p acc = some r → r.1.length = acc.length + k ∧ p ≤ r.2 ∧ r.2 ≤ b.length ∧ ∀ x ∈ r.1, 0 ≤ x ∧ x ≤ 1000000000000
 | 0, p, acc, r, hp, ha, h => by
  rw [diLoop] at h; injection h with h; subst h
  exact ⟨by simp, by simp, hp, ha⟩
 | k + 1, p, acc, r, hp, ha, h => by
  rw [diLoop] at h
  cases hv : readVarint b p with
  | none => rw [hv] at h; cases h
  | some q =>
   rw [hv] at h
   have hb := readVarint_bd hv
   have := diLoop_bd hb.2.2 (by
    intro x hx
    rcases List.mem_append.1 hx with hx | hx
    ·exact ha x hx
    ·simp at hx; omega) h
   rw [List.length_append, List.length_singleton] at this
   exact ⟨by omega, by omega, this.2.2.1, this.2.2.2⟩
theorem decodeInts_bd {b : List UInt8} {a n : Int} {r : List Int × Nat} (h : decodeInts b a n = some r) : (r.1.length : Int) = n ∧ a ≤ r.2 ∧ r.2 ≤ b.length ∧ ∀ x ∈ r.1, 0 ≤ x ∧ x ≤ 1000000000000 := by
 unfold decodeInts at h
 split at h
 ·rename_i hg
  simp only [inR, Bool.and_eq_true, decide_eq_true_eq] at hg
  have := diLoop_bd b_18 b_19 h
  simp only [List.length_nil] at this
  exact ⟨by omega, by omega, this.2.2.1, this.2.2.2⟩
 ·cases h
set_option maxHeartbeats 4000000 in
theorem C_impl_DecodeInts (w : World) (v : Value) (b : List UInt8) (a n : Int) (h : (Ty.sl .byte).rd w [v] b) (hi : -9223372036854775808 ≤ a ∧ a ≤ 9223372036854775807) (hin : -9223372036854775808 ≤ n ∧ n ≤ 9223372036854775807) :
  Calls Tryd.prog 34 #[v, .int .i64 a, .int .i64 n] w (RetSl3 w .int (di0 (decodeInts b a n)) (.int .i64 (di1 (decodeInts b a n))) (.bool (decodeInts b a n).isSome)) := by
 obtain ⟨A, c, rfl, hc, hm, hn⟩ := Ty.rd_sl h
 cases q1 : inR n 0 100
 ·have HN : Hid (decodeInts b a n = none) := by have := (show decodeInts b a n = if inR n 0 100 && inR a 0 b.length then diLoop b n.toNat a.toNat [] else none from rfl); rw [q1] at this; exact this
  generalize decodeInts b a n = R at HN ⊢
  go_enter Tryd.func34, Tryd.ntmps34
  go_wp2_with fail
  refine (C_impl_InRange _ _ _ _).mono ?_
  rintro e w1 ⟨rfl, hw1⟩
  first | (obtain rfl : w = w1 := hw1.symm) | subst hw1
  rw [q1]
  go_wp2
  go_ret3
  rw [HN.out]
  exact ⟨none, 0, [], rfl, rd_ow_nil _ _, FrI.nil _ _, Below.refl _ _⟩
 cases q2 : inR a 0 b.length
 ·have HN : Hid (decodeInts b a n = none) := by have := (show decodeInts b a n = if inR n 0 100 && inR a 0 b.length then diLoop b n.toNat a.toNat [] else none from rfl); rw [q1, q2] at this; exact this
  generalize decodeInts b a n = R at HN ⊢
  go_enter Tryd.func34, Tryd.ntmps34
  go_wp2_with fail
  refine (C_impl_InRange _ _ _ _).mono ?_
  rintro e w1 ⟨rfl, hw1⟩
  first | (obtain rfl : w = w1 := hw1.symm) | subst hw1
  rw [q1]
  go_wp2_with fail
  refine (C_impl_InRange _ _ _ _).mono ?_
  rintro e w1 ⟨rfl, hw1⟩
  first | (obtain rfl : w = w1 := hw1.symm) | subst hw1
  rw [q2]
  go_wp2
  go_ret3
  rw [HN.out]
  exact ⟨none, 0, [], rfl, rd_ow_nil _ _, FrI.nil _ _, Below.refl _ _⟩
 have hg1 : 0 ≤ n ∧ n ≤ 100 := by simpa [inR] using q1
 have hg2 : 0 ≤ a ∧ a ≤ b.length := by simpa [inR] using q2
 obtain ⟨m, rfl⟩ : ∃ m : Nat, n = m := ⟨n.toNat, by omega⟩
 obtain ⟨p0, rfl⟩ : ∃ p : Nat, a = p := ⟨a.toNat, by omega⟩
 have HR : Hid (decodeInts b p0 m = diLoop b m p0 []) := by have := (show decodeInts b p0 m = if inR m 0 100 && inR p0 0 b.length then diLoop b (m : Int).toNat (p0 : Int).toNat [] else none from rfl); rw [q1, q2] at this; exact this
 generalize decodeInts b p0 m = R at HR ⊢
 have hm100 : m ≤ 100 := by omega
 have hp0 : p0 ≤ b.length := by omega
 go_enter Tryd.func34, Tryd.ntmps34
 go_wp2_with fail
 refine (C_impl_InRange _ _ _ _).mono ?_
 rintro e w1 ⟨rfl, hw1⟩
 first | (obtain rfl : w = w1 := hw1.symm) | subst hw1
 rw [q1]
 go_wp2_with fail
 refine (C_impl_InRange _ _ _ _).mono ?_
 rintro e w1 ⟨rfl, hw1⟩
 first | (obtain rfl : w = w1 := hw1.symm) | subst hw1
 rw [q2]
 clear q1 q2 hg1 hg2
 go_wp2
 go_loopw [1, 9, 25] (fun at_ l i wr => ∃ (k p : Nat) (acc : List Int), k ≤ m ∧ i = .int .i64 k ∧ at_ = .int .i64 p ∧ p ≤ b.length ∧ Row flatI wr w.heap.size 3 l acc ∧ acc.length = k ∧ Hid (diLoop b (m - k) p acc = R) ∧ Below w.heap.size w wr) (fun _ _ i _ => m - (intOf i).toNat)
 case atStart => exact ⟨0, p0, [], by omega, by first | rfl | simp, rfl, hp0, Row.lit0 flatI w 3 (Nat.le_refl _), rfl, Lib.hid HR.out.symm, b_3⟩
 case round =>
  obtain ⟨k, p, acc, hk, rfl, rfl, hp, hr, hal, hR, hb⟩ := hrel
  have HRow := Lib.hid hr
  have HAL := Lib.hid hal
  clear hr hal
  by_cases hlt : k < m
  ·have hcall := C_impl_ReadVarint wr _ b p (Ty.rd_below hb h) b_18
   cases hv : readVarint b p with
   | none =>
    have HN := Lib.hid (show R = none from by rw [← hR.out, show m - k = (m - k - 1) + 1 from by omega, diLoop, hv])
    rw [hv] at hcall
    clear hv
    go_wp2_with fail
    refine hcall.mono ?_
    rintro e w1 ⟨rfl, hw1⟩
    obtain rfl : wr = w1 := hw1.symm
    go_wp2
    go_ret3
    rw [HN.out]
    exact ⟨none, 0, [], rfl, rd_ow_nil _ _, FrI.nil _ _, hb⟩
   | some q =>
    obtain ⟨x, p2⟩ := q
    have hbd := readVarint_bd hv
    simp only at hbd
    have HN := Lib.hid (show diLoop b (m - (k + 1)) p2 (acc ++ [(x : Int)]) = R from by rw [← hR.out, show m - k = (m - (k + 1)) + 1 from by omega, diLoop, hv])
    rw [hv] at hcall
    clear hv hR
    have hx1 : (x : Int) ≤ 1000000000000 := by omega
    have hp2 : p2 ≤ b.length := hbd.2.2
    clear hbd
    go_wp2_with fail
    refine hcall.mono ?_
    rintro e w1 ⟨rfl, hw1⟩
    obtain rfl : wr = w1 := hw1.symm
    have hsz := hb.size
    have HLX := Lib.hid (Row.lit1 flatI wr 3 (x : Int) (okI b_18 b_18) (Nat.le_refl _))
    set_option maxRecDepth 100000 in go_wp2_with (at_builtin; go_loud (refine wpList_append_row rfl _ _ 53 rfl flatI w.heap.size 3 infoI rfl Tryd.underlying53 _ _ acc [(x : Int)] rfl rfl (HRow.out.below b_3) (HLX.out.rd b_12) ?_ ?_ ?_ ?_))
    case refine_1 => rw [HAL.out, List.length_singleton]; omega
    case refine_2 => rw [HAL.out, List.length_singleton]; unfold maxLen; omega
    case refine_3 => simp only [World.size_alloc]; omega
    intro v' w' hr' hg'
    have hb' : Below w.heap.size w w' := bel_grown (bel_alloc hb _) b_12 hg' (fun g hg => (HRow.out.block g hg).1)
    have HR' := Lib.hid hr'
    clear hr'
    go_wp2
    go_roundw
    case rel => exact ⟨k + 1, p2, acc ++ [(x : Int)], by omega, by go_num, rfl, hp2, HR'.out, by rw [List.length_append, HAL.out]; rfl, HN, hb'⟩
    case measure => simp [intOf]; omega
  ·have HN := Lib.hid (show R = some (acc, p) from by rw [← hR.out, show m - k = 0 from by omega, diLoop])
   obtain ⟨A9, c9, fp9, hv9, how9, hfr9⟩ := HRow.out.own hb.size
   subst hv9
   clear HRow
   go_wp2
   go_ret3
   rw [HN.out]
   exact ⟨A9, c9, fp9, rfl, how9, hfr9, hb⟩
set_option maxHeartbeats 4000000 in
theorem C_spec_DecodeInts (w : World) (v : Value) (b : List UInt8) (a n : Int) (h : (Ty.sl .byte).rd w [v] b) (hi : -9223372036854775808 ≤ a ∧ a ≤ 9223372036854775807) (hin : -9223372036854775808 ≤ n ∧ n ≤ 9223372036854775807) :
  Calls Tryd.prog 35 #[v, .int .i64 a, .int .i64 n] w (RetSl3 w .int (di0 (decodeInts b a n)) (.int .i64 (di1 (decodeInts b a n))) (.bool (decodeInts b a n).isSome)) := by
 obtain ⟨A, c, rfl, hc, hm, hn⟩ := Ty.rd_sl h
 cases q1 : inR n 0 100
 ·have HN : Hid (decodeInts b a n = none) := by have := (show decodeInts b a n = if inR n 0 100 && inR a 0 b.length then diLoop b n.toNat a.toNat [] else none from rfl); rw [q1] at this; exact this
  generalize decodeInts b a n = R at HN ⊢
  go_enter Tryd.func35, Tryd.ntmps35
  go_wp2_with fail
  refine (C_spec_l1In _ _ _ _).mono ?_
  rintro e w1 ⟨rfl, hw1⟩
  first | (obtain rfl : w = w1 := hw1.symm) | subst hw1
  rw [q1]
  go_wp2
  go_ret3
  rw [HN.out]
  obtain ⟨A9, c9, fp9, hv9, how9, hfr9⟩ := (Row.lit0 flatI w 3 (Nat.le_refl _)).own (by rw [World.size_alloc]; omega)
  injection hv9 with hv9 _ hv9c
  subst hv9; subst hv9c
  exact ⟨_, _, fp9, rfl, how9, hfr9, (bel_alloc (Below.refl _ _) _)⟩
 cases q2 : inR a 0 b.length
 ·have HN : Hid (decodeInts b a n = none) := by have := (show decodeInts b a n = if inR n 0 100 && inR a 0 b.length then diLoop b n.toNat a.toNat [] else none from rfl); rw [q1, q2] at this; exact this
  generalize decodeInts b a n = R at HN ⊢
  go_enter Tryd.func35, Tryd.ntmps35
  go_wp2_with fail
  refine (C_spec_l1In _ _ _ _).mono ?_
  rintro e w1 ⟨rfl, hw1⟩
  first | (obtain rfl : w = w1 := hw1.symm) | subst hw1
  rw [q1]
  go_wp2_with fail
  refine (C_spec_l1In _ _ _ _).mono ?_
  rintro e w1 ⟨rfl, hw1⟩
  first | (obtain rfl : w = w1 := hw1.symm) | subst hw1
  rw [q2]
  go_wp2
  go_ret3
  rw [HN.out]
  obtain ⟨A9, c9, fp9, hv9, how9, hfr9⟩ := (Row.lit0 flatI w 3 (Nat.le_refl _)).own (by rw [World.size_alloc]; omega)
  injection hv9 with hv9 _ hv9c
  subst hv9; subst hv9c
  exact ⟨_, _, fp9, rfl, how9, hfr9, (bel_alloc (Below.refl _ _) _)⟩
 have hg1 : 0 ≤ n ∧ n ≤ 100 := by simpa [inR] using q1
 have hg2 : 0 ≤ a ∧ a ≤ b.length := by simpa [inR] using q2
 obtain ⟨m, rfl⟩ : ∃ m : Nat, n = m := ⟨n.toNat, by omega⟩
 obtain ⟨p0, rfl⟩ : ∃ p : Nat, a = p := ⟨a.toNat, by omega⟩
 have HR : Hid (decodeInts b p0 m = diLoop b m p0 []) := by have := (show decodeInts b p0 m = if inR m 0 100 && inR p0 0 b.length then diLoop b (m : Int).toNat (p0 : Int).toNat [] else none from rfl); rw [q1, q2] at this; exact this
 generalize decodeInts b p0 m = R at HR ⊢
 have hm100 : m ≤ 100 := by omega
 have hp0 : p0 ≤ b.length := by omega
 go_enter Tryd.func35, Tryd.ntmps35
 go_wp2_with fail
 refine (C_spec_l1In _ _ _ _).mono ?_
 rintro e w1 ⟨rfl, hw1⟩
 first | (obtain rfl : w = w1 := hw1.symm) | subst hw1
 rw [q1]
 go_wp2_with fail
 refine (C_spec_l1In _ _ _ _).mono ?_
 rintro e w1 ⟨rfl, hw1⟩
 first | (obtain rfl : w = w1 := hw1.symm) | subst hw1
 rw [q2]
 clear q1 q2 hg1 hg2
 go_wp2
 go_loopw [1, 9, 10] (fun at_ l i wr => ∃ (k p : Nat) (acc : List Int), k ≤ m ∧ i = .int .i64 k ∧ at_ = .int .i64 p ∧ p ≤ b.length ∧ Row flatI wr w.heap.size 3 l acc ∧ acc.length = k ∧ Hid (diLoop b (m - k) p acc = R) ∧ Below w.heap.size w wr) (fun _ _ i _ => m - (intOf i).toNat)
 case atStart => exact ⟨0, p0, [], by omega, by first | rfl | simp, rfl, hp0, Row.lit0 flatI w 3 (Nat.le_refl _), rfl, Lib.hid HR.out.symm, b_3⟩
 case round =>
  obtain ⟨k, p, acc, hk, rfl, rfl, hp, hr, hal, hR, hb⟩ := hrel
  have HRow := Lib.hid hr
  have HAL := Lib.hid hal
  clear hr hal
  by_cases hlt : k < m
  ·have hcall := C_spec_ReadVarint wr _ b p (Ty.rd_below hb h) b_18
   cases hv : readVarint b p with
   | none =>
    have HN := Lib.hid (show R = none from by rw [← hR.out, show m - k = (m - k - 1) + 1 from by omega, diLoop, hv])
    rw [hv] at hcall
    clear hv
    go_wp2_with fail
    refine hcall.mono ?_
    rintro e w1 ⟨rfl, hw1⟩
    obtain rfl : wr = w1 := hw1.symm
    go_wp2
    go_ret3
    rw [HN.out]
    obtain ⟨A9, c9, fp9, hv9, how9, hfr9⟩ := (Row.lit0 flatI wr 3 (Nat.le_refl _)).own (by rw [World.size_alloc]; omega)
    injection hv9 with hv9 _ hv9c
    subst hv9; subst hv9c
    exact ⟨_, _, fp9, rfl, how9, hfr9.mono hb.size (Nat.le_refl _), (bel_alloc hb _)⟩
   | some q =>
    obtain ⟨x, p2⟩ := q
    have hbd := readVarint_bd hv
    simp only at hbd
    have HN := Lib.hid (show diLoop b (m - (k + 1)) p2 (acc ++ [(x : Int)]) = R from by rw [← hR.out, show m - k = (m - (k + 1)) + 1 from by omega, diLoop, hv])
    rw [hv] at hcall
    clear hv hR
    have hx1 : (x : Int) ≤ 1000000000000 := by omega
    have hp2 : p2 ≤ b.length := hbd.2.2
    clear hbd
    go_wp2_with fail
    refine hcall.mono ?_
    rintro e w1 ⟨rfl, hw1⟩
    obtain rfl : wr = w1 := hw1.symm
    have hsz := hb.size
    have HLX := Lib.hid (Row.lit1 flatI wr 3 (x : Int) (okI b_18 b_18) (Nat.le_refl _))
    set_option maxRecDepth 100000 in go_wp2_with (at_builtin; go_loud (refine wpList_append_row rfl _ _ 53 rfl flatI w.heap.size 3 infoI rfl Tryd.underlying53 _ _ acc [(x : Int)] rfl rfl (HRow.out.below b_3) (HLX.out.rd b_12) ?_ ?_ ?_ ?_))
    case refine_1 => rw [HAL.out, List.length_singleton]; omega
    case refine_2 => rw [HAL.out, List.length_singleton]; unfold maxLen; omega
    case refine_3 => simp only [World.size_alloc]; omega
    intro v' w' hr' hg'
    have hb' : Below w.heap.size w w' := bel_grown (bel_alloc hb _) b_12 hg' (fun g hg => (HRow.out.block g hg).1)
    have HR' := Lib.hid hr'
    clear hr'
    go_wp2
    go_roundw
    case rel => exact ⟨k + 1, p2, acc ++ [(x : Int)], by omega, by go_num, rfl, hp2, HR'.out, by rw [List.length_append, HAL.out]; rfl, HN, hb'⟩
    case measure => simp [intOf]; omega
  ·have HN := Lib.hid (show R = some (acc, p) from by rw [← hR.out, show m - k = 0 from by omega, diLoop])
   obtain ⟨A9, c9, fp9, hv9, how9, hfr9⟩ := HRow.out.own hb.size
   subst hv9
   clear HRow
   go_wp2
   go_ret3
   rw [HN.out]
   exact ⟨A9, c9, fp9, rfl, how9, hfr9, hb⟩
theorem name_bulkD {n : List (List UInt8)} (h : validName n = true) : Ty.bulk (.sl .str) n ≤ 54 ∧ n.length ≤ 6 := by
 have hv := validName_parts h
 have h1 := bulk_strs hv.2
 have : n.length * (8 + 1) ≤ 6 * 9 := Nat.mul_le_mul_right _ hv.1
 exact ⟨by omega, hv.1⟩
def f0_ReadName (b : List UInt8) (a : Int) : List (List UInt8) := rn0 (readName b a)
def f1_ReadName (b : List UInt8) (a : Int) : Int := rn1 (readName b a)
def f2_ReadName (b : List UInt8) (a : Int) : Bool := (readName b a).isSome
theorem S_impl_ReadName (w : World) (v : Value) (b : List UInt8) (a : Int) (h : (Ty.sl .byte).rd w [v] b) (s0 : Ty.bulk (.sl .byte) b ≤ 1048576) (hi : -9223372036854775808 ≤ a ∧ a ≤ 9223372036854775807) :
  Calls Tryd.prog 12 #[v, .int .i64 a] w (RetAgg3 w (.sl .str) (f0_ReadName b a) (.int .i64 (f1_ReadName b a)) (.bool (f2_ReadName b a))) :=
 C_impl_ReadName w v b a h hi (Nat.le_trans (Ty.bulk_len s0) b_17)
theorem S_spec_ReadName (w : World) (v : Value) (b : List UInt8) (a : Int) (h : (Ty.sl .byte).rd w [v] b) (s0 : Ty.bulk (.sl .byte) b ≤ 1048576) (hi : -9223372036854775808 ≤ a ∧ a ≤ 9223372036854775807) :
  Calls Tryd.prog 13 #[v, .int .i64 a] w (RetAgg3 w (.sl .str) (f0_ReadName b a) (.int .i64 (f1_ReadName b a)) (.bool (f2_ReadName b a))) :=
 C_spec_ReadName w v b a h hi (Nat.le_trans (Ty.bulk_len s0) b_17)
end Go.Proofs.YtidnahocnhcoiaaDoor
