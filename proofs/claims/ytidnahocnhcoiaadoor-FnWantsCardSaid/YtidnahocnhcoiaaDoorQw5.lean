/- Texts of this claim, merged by a program: Enc Apn Cat Kdg Sig Ar3 Bnt Inr. -/
import Derived.Test.YtidnahocnhcoiaaDoorQwP
import Derived.Test.YtidnahocnhcoiaaDoorQw2
import Derived.Laws.IdiomStrings
import Derived.Lib.AppendZeros
import Derived.Test.YtidnahocnhcoiaaDoorQw1
import Derived.Deep.QuietTactic
import Derived.BigQuiet
import Derived.Test.YtidnahocnhcoiaaDoorQw4
import Derived.Deep.RegionHeld3
namespace Go.Proofs.YtidnahocnhcoiaaDoor
open Go.RowKit
set_option linter.unusedVariables false
set_option linter.unusedSimpArgs false
theorem varint_lt : ∀ (k n : Nat), n < 128 ^ (k + 1) → (varint n).length ≤ k + 1
 | 0, n, h => by rw [varint, dif_pos b_18]; simp
 | k + 1, n, h => by
  rw [varint]
  by_cases hn : n < 128
  ·rw [dif_pos hn]; simp
  ·rw [dif_neg hn, List.length_cons]
   have := varint_lt k (n / 128) (by rw [Nat.div_lt_iff_lt_mul b_17]; rw [Nat.pow_succ] at h; exact h)
   omega
theorem appendVarint_len (b : List UInt8) (n : Int) : (f_AppendVarint b n).length ≤ b.length + 6 := by
 unfold f_AppendVarint
 split
 ·rename_i h
  have := varint_lt 5 n.toNat b_18
  rw [List.length_append]; omega
 ·omega
def f_AppendBytes (b s : List UInt8) : List UInt8 := f_AppendVarint b s.length ++ s
def f_EncodeInts (l : List Int) : List UInt8 := l.foldl f_AppendVarint []
theorem encodeInts_take (l : List Int) {k : Nat} (h : k < l.length) : f_EncodeInts (l.take (k + 1)) = f_AppendVarint (f_EncodeInts (l.take k)) l[k] := by
 unfold f_EncodeInts
 rw [List.take_succ_eq_append_getElem h, List.foldl_append]; rfl
theorem encodeInts_len (l : List Int) : (f_EncodeInts l).length ≤ 6 * l.length := by
 have : ∀ (l : List Int) (b : List UInt8), (l.foldl f_AppendVarint b).length ≤ b.length + 6 * l.length := by
  intro l
  induction l with
  | nil => intro b; simp
  | cons a l ih => intro b; have h1 := ih (f_AppendVarint b a); have h2 := appendVarint_len b a; rw [List.foldl_cons, List.length_cons]; omega
 have := this l []
 simpa [f_EncodeInts] using this
set_option maxHeartbeats 1000000 in
theorem C_spec_AppendBytes (w : World) (v1 v2 : Value) (b s : List UInt8) (h1 : (Ty.sl .byte).rd w [v1] b) (h2 : (Ty.sl .byte).rd w [v2] s) (hb : b.length ≤ 1099511627776) (hs : s.length ≤ 1099511627776) :
  Calls Tryd.prog 54 #[v1, v2] w (RetRow flatB w 5 (f_AppendBytes b s)) := by
 obtain ⟨A2, c2, rfl, hc2, hm2, hn2⟩ := Ty.rd_sl h2
 go_enter Tryd.func54, Tryd.ntmps54
 go_wp2_with fail
 refine (C_spec_AppendVarint _ _ b (s.length : Int) h1 hb b_18).mono ?_
 rintro e w1 ⟨u1, rfl, hr1, hb1⟩
 have HR := Lib.hid hr1
 clear hr1
 have HL := Lib.hid (appendVarint_len b s.length)
 have hz := hb1.size
 set_option maxRecDepth 100000 in go_wp2_with (at_builtin; go_loud (refine wpList_append_row rfl _ _ 22 rfl flatB w.heap.size 5 infoB rfl Tryd.underlying22 _ _ (f_AppendVarint b s.length) s rfl rfl HR.out (Ty.rd_below b_3 h2) ?_ ?_ ?_ ?_))
 case refine_1 => have := HL.out; omega
 case refine_2 => have := HL.out; unfold maxLen; omega
 case refine_3 => exact hz
 case refine_4 =>
  intro v' w' hr' hg'
  have hb' : Below w.heap.size w w' := bel_grown hb1 hz hg' (fun g hg => (HR.out.block g hg).1)
  have HR' := Lib.hid hr'
  clear hr'
  go_wp2
  go_ret
  exact ⟨_, rfl, HR'.out, hb'⟩
set_option maxHeartbeats 1000000 in
theorem C_spec_EncodeInts (w : World) (v : Value) (x : List Int) (h : (Ty.sl .int).rd w [v] x) (hx : x.length ≤ 100000000000) : Calls Tryd.prog 49 #[v] w (RetRow flatB w 5 (f_EncodeInts x)) := by
 obtain ⟨A, c, rfl, hc, hm, hn⟩ := Ty.rd_sl h
 go_enter Tryd.func49, Tryd.ntmps49
 go_wp2
 go_loopw [3, 4] (fun l i wr => ∃ k : Nat, k ≤ x.length ∧ i = .int .i64 k ∧ Row flatB wr w.heap.size 5 l (f_EncodeInts (x.take k)) ∧ Below w.heap.size w wr) (fun _ i _ => x.length - (intOf i).toNat)
 case atStart => exact ⟨0, by omega, rfl, Row.lit0 flatB w 5 (Nat.le_refl _), b_3⟩
 case round =>
  obtain ⟨k, hk, rfl, hr, hb⟩ := hrel
  have HR := Lib.hid hr
  clear hr
  by_cases hlt : k < x.length
  ·obtain ⟨b, o, rfl, e0, n0⟩ := Ty.rd_int_at (Ty.rd_below hb h) hlt
   have HP := Lib.hid (encodeInts_take x hlt)
   have HL := Lib.hid (encodeInts_len (x.take k))
   go_wp2_with fail
   refine (C_spec_AppendVarint _ _ (f_EncodeInts (x.take k)) x[k] (HR.out.rd hb.size) (by have := HL.out; rw [List.length_take] at this; omega) n0).mono ?_
   rintro e w1 ⟨u1, rfl, hr1, hb1⟩
   have hw1 : Below w.heap.size w w1 := bel_trans hb hb1
   have HR1 := Lib.hid (hr1.mono hb.size)
   clear hr1
   go_wp2
   go_roundw
   case rel => exact ⟨k + 1, by omega, by go_num, by rw [HP.out]; exact HR1.out, hw1⟩
   case measure => simp [intOf]; omega
  ·have HE : Hid (f_EncodeInts (x.take k) = f_EncodeInts x) := by rw [List.take_of_length_le b_18]; exact rfl
   go_wp2
   go_ret
   exact ⟨_, rfl, by rw [← HE.out]; exact HR.out, hb⟩
set_option maxHeartbeats 1000000 in
theorem C_impl_AppendBytes (w : World) (v1 v2 : Value) (b s : List UInt8) (h1 : (Ty.sl .byte).rd w [v1] b) (h2 : (Ty.sl .byte).rd w [v2] s) (hb : b.length ≤ 1099511627776) (hs : s.length ≤ 1099511627776) :
  Calls Tryd.prog 52 #[v1, v2] w (RetRow flatB w 5 (f_AppendBytes b s)) := by
 obtain ⟨A2, c2, rfl, hc2, hm2, hn2⟩ := Ty.rd_sl h2
 go_enter Tryd.func52, Tryd.ntmps52
 go_wp2_with fail
 refine (C_impl_AppendVarint _ _ b (s.length : Int) h1 hb b_18).mono ?_
 rintro e w1 ⟨u1, rfl, hr1, hb1⟩
 have HR := Lib.hid hr1
 clear hr1
 have HL := Lib.hid (appendVarint_len b s.length)
 have hz := hb1.size
 set_option maxRecDepth 100000 in go_wp2_with (at_builtin; go_loud (refine wpList_append_row rfl _ _ 22 rfl flatB w.heap.size 5 infoB rfl Tryd.underlying22 _ _ (f_AppendVarint b s.length) s rfl rfl HR.out (Ty.rd_below b_3 h2) ?_ ?_ ?_ ?_))
 case refine_1 => have := HL.out; omega
 case refine_2 => have := HL.out; unfold maxLen; omega
 case refine_3 => exact hz
 case refine_4 =>
  intro v' w' hr' hg'
  have hb' : Below w.heap.size w w' := bel_grown hb1 hz hg' (fun g hg => (HR.out.block g hg).1)
  have HR' := Lib.hid hr'
  clear hr'
  go_wp2
  go_ret
  exact ⟨_, rfl, HR'.out, hb'⟩
set_option maxHeartbeats 1000000 in
theorem C_impl_EncodeInts (w : World) (v : Value) (x : List Int) (h : (Ty.sl .int).rd w [v] x) (hx : x.length ≤ 100000000000) : Calls Tryd.prog 31 #[v] w (RetRow flatB w 5 (f_EncodeInts x)) := by
 obtain ⟨A, c, rfl, hc, hm, hn⟩ := Ty.rd_sl h
 go_enter Tryd.func31, Tryd.ntmps31
 go_wp2
 go_loopw [3, 9] (fun l i wr => ∃ k : Nat, k ≤ x.length ∧ i = .int .i64 k ∧ Row flatB wr w.heap.size 5 l (f_EncodeInts (x.take k)) ∧ Below w.heap.size w wr) (fun _ i _ => x.length - (intOf i).toNat)
 case atStart => exact ⟨0, by omega, rfl, Row.lit0 flatB w 5 (Nat.le_refl _), b_3⟩
 case round =>
  obtain ⟨k, hk, rfl, hr, hb⟩ := hrel
  have HR := Lib.hid hr
  clear hr
  by_cases hlt : k < x.length
  ·obtain ⟨b, o, rfl, e0, n0⟩ := Ty.rd_int_at (Ty.rd_below hb h) hlt
   have HP := Lib.hid (encodeInts_take x hlt)
   have HL := Lib.hid (encodeInts_len (x.take k))
   go_wp2_with fail
   refine (C_impl_AppendVarint _ _ (f_EncodeInts (x.take k)) x[k] (HR.out.rd hb.size) (by have := HL.out; rw [List.length_take] at this; omega) n0).mono ?_
   rintro e w1 ⟨u1, rfl, hr1, hb1⟩
   have hw1 : Below w.heap.size w w1 := bel_trans hb hb1
   have HR1 := Lib.hid (hr1.mono hb.size)
   clear hr1
   go_wp2
   go_roundw
   case rel => exact ⟨k + 1, by omega, by go_num, by rw [HP.out]; exact HR1.out, hw1⟩
   case measure => simp [intOf]; omega
  ·have HE : Hid (f_EncodeInts (x.take k) = f_EncodeInts x) := by rw [List.take_of_length_le b_18]; exact rfl
   go_wp2
   go_ret
   exact ⟨_, rfl, by rw [← HE.out]; exact HR.out, hb⟩
def convW (W : World) (te : TypeId) (s : List UInt8) : World := W.drew.alloc (.cells (bytesRow ⟨s.toArray⟩ (grownCap W s.length 0 te)) te ((bytesRow ⟨s.toArray⟩ (grownCap W s.length 0 te)).size, (bytesRow ⟨s.toArray⟩ (grownCap W s.length 0 te)).size + 1))
theorem convW_bel (W : World) (te : TypeId) (s : List UInt8) : Below W.heap.size W (convW W te s) := bel_alloc (bel_drew (Below.refl _ _)) _
theorem convW_rd (W : World) (te : TypeId) (s : List UInt8) (hs : s.length ≤ 1099511627776) : (Ty.sl .byte).rd (convW W te s) [.slice (some ⟨W.heap.size, 0, none⟩) s.length (grownCap W s.length 0 te)] s := by
 refine ⟨_, _, rfl, grownCap_ge W _ _ _, ⟨grownCap_le_maxLen W _ _ _ (by unfold maxLen; omega), fun h => by cases h⟩, by show s.length ≤ _; omega, fun _ => ⟨W.heap.size, 0, rfl, fun i hi => ⟨[.int .u8 (s[i].toNat : Int)], rfl, fun j hj => ?_, rfl⟩⟩⟩
 have hj0 : j = 0 := by simp [Ty.sz] at hj; omega
 subst hj0
 have h1 := cell_of_row (convW W te s) W.heap.size (0 + i * Ty.byte.sz + 0) _ _ _ (heap_alloc_new W.drew _)
 rw [h1]
 have h2 := bytesRow_at ⟨s.toArray⟩ (grownCap W s.length 0 te) i (by simpa using hi)
 rw [show 0 + i * Ty.byte.sz + 0 = i from by simp [Ty.sz], h2]
 simp
theorem foldBytes_len : ∀ (l : List (List UInt8)) (b : List UInt8), (∀ s ∈ l, s.length ≤ 8) → (l.foldl f_AppendBytes b).length ≤ b.length + 14 * l.length
 | [], b, _ => by simp
 | s :: l, b, h => by
  have h1 := foldBytes_len l (f_AppendBytes b s) (fun t ht => h t (List.mem_cons_of_mem _ ht))
  have h2 := appendVarint_len b s.length
  have h3 := h s (List.mem_cons_self ..)
  have h4 : (f_AppendBytes b s).length = (f_AppendVarint b s.length).length + s.length := by unfold f_AppendBytes; rw [List.length_append]
  rw [List.foldl_cons, List.length_cons]; omega
theorem foldBytes_take (l : List (List UInt8)) (b : List UInt8) {k : Nat} (h : k < l.length) : (l.take (k + 1)).foldl f_AppendBytes b = f_AppendBytes ((l.take k).foldl f_AppendBytes b) l[k] := by
 rw [List.take_succ_eq_append_getElem h, List.foldl_append]; rfl
theorem validName_parts {n : List (List UInt8)} (h : validName n = true) : n.length ≤ 6 ∧ ∀ s ∈ n, s.length ≤ 8 := by
 unfold validName at h
 simp only [Bool.and_eq_true, decide_eq_true_eq, List.all_eq_true] at h
 refine ⟨h.2, fun s hs => ?_⟩
 have := h.1 s hs
 unfold validPart at this
 simp only [Bool.and_eq_true, decide_eq_true_eq] at this
 exact this.2.2
def nameBytes (b : List UInt8) (n : List (List UInt8)) : List UInt8 := n.foldl f_AppendBytes (f_AppendVarint b n.length)
def f_AppendName (b : List UInt8) (n : List (List UInt8)) : List UInt8 := if validName n then nameBytes b n else b
set_option maxHeartbeats 1000000 in
theorem C_impl_AppendName (w : World) (v1 : Value) (b : List UInt8) (cs : List Value) (n : List (List UInt8)) (h1 : (Ty.sl .byte).rd w [v1] b) (h2 : (Ty.sl .str).rd w cs n) (hb : b.length ≤ 1000000000000) :
  Calls Tryd.prog 21 #[v1, .agg cs.toArray] w (RetRow flatB w 5 (f_AppendName b n)) := by
 obtain ⟨A2, c2, rfl⟩ := Ty.rd_slv h2
 obtain ⟨_, _, _, _, _, n2⟩ := Ty.rd_sl h2
 have hconv : ∀ (W : World) (s : List UInt8), (convert 9 22 (vS s)).run Tryd.prog W = .ok (.slice (some ⟨W.heap.size, 0, none⟩) s.length (grownCap W s.length 0 5)) (convW W 5 s) := fun W s => run_bytes_of_string W _ _ _ ⟨s.toArray⟩ Tryd.underlying9 Tryd.underlying22 Tryd.underlying5
 go_enter Tryd.func21, Tryd.ntmps21
 go_wp2_with fail
 refine (C_impl_ValidName _ _ _ (Ty.rd_below b_3 h2)).mono ?_
 rintro e w1 ⟨rfl, hb1⟩
 have hw1 : Below w.heap.size w w1 := bel_trans b_3 hb1
 obtain ⟨hc1, hf1⟩ := bcell hb1
 have z1 : w.heap.size < w1.heap.size := by have := hb1.size; simp only [World.size_alloc] at this; omega
 have HF := Lib.hid (show f_AppendName b n = if validName n then nameBytes b n else b from rfl)
 cases hq : validName n
 ·rw [hq] at HF
  go_wp2_with fail
  refine (C_slices_Clone_byte _ _ b (Ty.rd_below hw1 h1) b_18).mono ?_
  rintro e w2 ⟨u2, rfl, hr2, hb2⟩
  have HR := Lib.hid (hr2.mono hw1.size)
  clear hr2
  go_wp2
  go_ret
  exact ⟨_, rfl, by rw [HF.out]; exact HR.out, bel_trans hw1 hb2⟩
 ·rw [hq] at HF
  have HV := Lib.hid (validName_parts hq)
  have hl6 := HV.out.1
  go_wp2_with fail
  refine (C_impl_AppendVarint _ _ b (n.length : Int) (Ty.rd_below hw1 h1) b_18 b_18).mono ?_
  rintro e w2 ⟨u2, rfl, hr2, hb2⟩
  have hw2 : Below w.heap.size w w2 := bel_trans hw1 hb2
  have HR := Lib.hid (hr2.mono hw1.size)
  clear hr2
  obtain ⟨hc2, hf2⟩ := bcell hb2
  have HL0 := Lib.hid (appendVarint_len b n.length)
  go_wp2
  go_loopw [5, 21] (fun l i wr => ∃ k : Nat, k ≤ n.length ∧ i = .int .i64 k ∧ Row flatB wr w.heap.size 5 l ((n.take k).foldl f_AppendBytes (f_AppendVarint b n.length)) ∧ Below w.heap.size w wr) (fun _ i _ => n.length - (intOf i).toNat)
  case atStart => exact ⟨0, by omega, rfl, HR.out, hw2⟩
  case round =>
   obtain ⟨k, hk, rfl, hr, hbr⟩ := hrel
   have HRr := Lib.hid hr
   clear hr
   by_cases hlt : k < n.length
   ·obtain ⟨ab, ao, rfl, e0, m0⟩ := Ty.rd_str_at (Ty.rd_below hbr h2) hlt
    have HP := Lib.hid (foldBytes_take n (f_AppendVarint b n.length) hlt)
    have HL := Lib.hid (foldBytes_len (n.take k) (f_AppendVarint b n.length) (fun s hs => HV.out.2 s (List.mem_of_mem_take hs)))
    have hp8 : n[k].length ≤ 8 := HV.out.2 _ (List.getElem_mem hlt)
    go_wp2_with fail
    refine (C_impl_AppendBytes _ _ _ ((n.take k).foldl f_AppendBytes (f_AppendVarint b n.length)) n[k] ((HRr.out.below (convW_bel wr _ _)).rd (Nat.le_trans hbr.size (convW_bel wr _ _).size)) (convW_rd wr 5 n[k] b_18) (by have h3 := HL.out; have h4 := HL0.out; rw [List.length_take] at h3; omega) b_18).mono ?_
    rintro e w3 ⟨u3, rfl, hr3, hb3⟩
    have hb3' := bel_trans (convW_bel wr _ _) hb3
    have hw3 : Below w.heap.size w w3 := bel_trans hbr hb3'
    have HR3 := Lib.hid (hr3.mono (Nat.le_trans hbr.size (convW_bel wr _ _).size))
    clear hr3
    go_wp2
    go_roundw
    case rel => exact ⟨k + 1, by omega, by go_num, by rw [HP.out]; exact HR3.out, hw3⟩
    case measure => simp [intOf]; omega
   ·have HE : Hid ((n.take k).foldl f_AppendBytes (f_AppendVarint b n.length) = nameBytes b n) := by rw [List.take_of_length_le b_18]; exact rfl
    go_wp2
    go_ret
    exact ⟨_, rfl, by rw [HF.out, ← HE.out]; exact HRr.out, hbr⟩
set_option maxHeartbeats 1000000 in
theorem C_spec_AppendName (w : World) (v1 : Value) (b : List UInt8) (cs : List Value) (n : List (List UInt8)) (h1 : (Ty.sl .byte).rd w [v1] b) (h2 : (Ty.sl .str).rd w cs n) (hb : b.length ≤ 1000000000000) :
  Calls Tryd.prog 22 #[v1, .agg cs.toArray] w (RetRow flatB w 5 (f_AppendName b n)) := by
 obtain ⟨A2, c2, rfl⟩ := Ty.rd_slv h2
 obtain ⟨_, _, _, _, _, n2⟩ := Ty.rd_sl h2
 have hconv : ∀ (W : World) (s : List UInt8), (convert 9 22 (vS s)).run Tryd.prog W = .ok (.slice (some ⟨W.heap.size, 0, none⟩) s.length (grownCap W s.length 0 5)) (convW W 5 s) := fun W s => run_bytes_of_string W _ _ _ ⟨s.toArray⟩ Tryd.underlying9 Tryd.underlying22 Tryd.underlying5
 go_enter Tryd.func22, Tryd.ntmps22
 have hl0 : Row flatB ((w.alloc (.cells #[.slice A2 n.length c2] 26)).alloc (.cells #[] 5)) w.heap.size 5 (.slice (some ⟨w.heap.size + 1, 0, none⟩) 0 0) [] := by
  have := Row.lit0 flatB (w.alloc (.cells #[.slice A2 n.length c2] 26)) 5 (base := w.heap.size) (by rw [World.size_alloc]; omega)
  rwa [World.size_alloc] at this
 have HL00 := Lib.hid hl0
 clear hl0
 set_option maxRecDepth 100000 in go_wp2_with (at_builtin; go_loud (refine wpList_append_row rfl _ _ 22 rfl flatB w.heap.size 5 infoB rfl Tryd.underlying22 _ _ [] b rfl rfl HL00.out (Ty.rd_below b_3 h1) ?_ ?_ ?_ ?_))
 case refine_1 => simp only [List.length_nil]; omega
 case refine_2 => simp only [List.length_nil]; unfold maxLen; omega
 case refine_3 => simp only [World.size_alloc]; omega
 intro v0 w0 hr0 hg0
 have hb0 : Below w.heap.size w w0 := bel_grown b_3 b_12 hg0 (fun g hg => by simp [Value.ownBlock] at hg; omega)
 have hcl0 : w0.cell? ⟨w.heap.size, 0, none⟩ = some (.slice A2 n.length c2) := hg0.cell (by rw [World.cell?_alloc_lt _ _ _ b_11]; exact cell_new w _ _ 0 rfl) (by simp [Value.ownBlock])
 have z0 : w.heap.size < w0.heap.size := World.block_lt_of_cell? w0 _ hcl0
 have HR0 := Lib.hid hr0
 clear hr0
 go_wp2_with fail
 refine (C_spec_ValidName _ _ _ (Ty.rd_below hb0 h2)).mono ?_
 rintro e w1 ⟨rfl, hb1⟩
 have hw1 : Below w.heap.size w w1 := bel_trans hb0 hb1
 obtain ⟨hc1, hf1⟩ := bcell hb1
 have z1 : w.heap.size < w1.heap.size := Nat.lt_of_lt_of_le z0 hb1.size
 have HR1 := Lib.hid (HR0.out.below hb1)
 have HF := Lib.hid (show f_AppendName b n = if validName n then nameBytes b n else b from rfl)
 cases hq : validName n
 ·rw [hq] at HF
  go_wp2
  go_ret
  exact ⟨_, rfl, by rw [HF.out]; exact HR1.out, hw1⟩
 ·rw [hq] at HF
  have HV := Lib.hid (validName_parts hq)
  have hl6 := HV.out.1
  go_wp2_with fail
  refine (C_spec_AppendVarint _ _ b (n.length : Int) (HR1.out.rd hw1.size) b_18 b_18).mono ?_
  rintro e w2 ⟨u2, rfl, hr2, hb2⟩
  have hw2 : Below w.heap.size w w2 := bel_trans hw1 hb2
  have HR := Lib.hid (hr2.mono hw1.size)
  clear hr2
  have hcl2 : w2.cell? ⟨w.heap.size, 0, none⟩ = some (.slice A2 n.length c2) := (hb2.cell (p := ⟨w.heap.size, 0, none⟩) z1).trans ((hb1.cell (p := ⟨w.heap.size, 0, none⟩) z0).trans hcl0)
  have HL0 := Lib.hid (appendVarint_len b n.length)
  go_wp2
  go_loopw [5, 6] (fun l i wr => ∃ k : Nat, k ≤ n.length ∧ i = .int .i64 k ∧ Row flatB wr w.heap.size 5 l ((n.take k).foldl f_AppendBytes (f_AppendVarint b n.length)) ∧ Below w.heap.size w wr ∧ wr.cell? ⟨w.heap.size, 0, none⟩ = some (.slice A2 n.length c2)) (fun _ i _ => n.length - (intOf i).toNat)
  case atStart => exact ⟨0, by omega, rfl, HR.out, hw2, hcl2⟩
  case round =>
   obtain ⟨k, hk, rfl, hr, hbr, hcr⟩ := hrel
   have zr : w.heap.size < wr.heap.size := World.block_lt_of_cell? wr _ hcr
   have HRr := Lib.hid hr
   clear hr
   have hclr := hcr
   by_cases hlt : k < n.length
   ·obtain ⟨ab, ao, rfl, e0, m0⟩ := Ty.rd_str_at (Ty.rd_below hbr h2) hlt
    have HP := Lib.hid (foldBytes_take n (f_AppendVarint b n.length) hlt)
    have HL := Lib.hid (foldBytes_len (n.take k) (f_AppendVarint b n.length) (fun s hs => HV.out.2 s (List.mem_of_mem_take hs)))
    have hp8 : n[k].length ≤ 8 := HV.out.2 _ (List.getElem_mem hlt)
    go_wp2_with fail
    refine (C_spec_AppendBytes _ _ _ ((n.take k).foldl f_AppendBytes (f_AppendVarint b n.length)) n[k] ((HRr.out.below (convW_bel wr _ _)).rd (Nat.le_trans hbr.size (convW_bel wr _ _).size)) (convW_rd wr 5 n[k] b_18) (by have h3 := HL.out; have h4 := HL0.out; rw [List.length_take] at h3; omega) b_18).mono ?_
    rintro e w3 ⟨u3, rfl, hr3, hb3⟩
    have hb3' := bel_trans (convW_bel wr _ _) hb3
    have hw3 : Below w.heap.size w w3 := bel_trans hbr hb3'
    have HR3 := Lib.hid (hr3.mono (Nat.le_trans hbr.size (convW_bel wr _ _).size))
    clear hr3
    go_wp2
    go_roundw
    case rel => exact ⟨k + 1, by omega, by go_num, by rw [HP.out]; exact HR3.out, hw3, (hb3'.cell (p := ⟨w.heap.size, 0, none⟩) zr).trans hclr⟩
    case measure => simp [intOf]; omega
   ·have HE : Hid ((n.take k).foldl f_AppendBytes (f_AppendVarint b n.length) = nameBytes b n) := by rw [List.take_of_length_le b_18]; exact rfl
    go_wp2
    go_ret
    exact ⟨_, rfl, by rw [HF.out, ← HE.out]; exact HRr.out, hbr⟩
theorem rd_lit3 (w : World) (te : TypeId) {e : Ty} (hz : e.sz = 1) (a b c : Value) (x y z : e.D) (h1 : e.rd w [a] x) (h2 : e.rd w [b] y) (h3 : e.rd w [c] z) :
  (Ty.sl e).rd (w.alloc (.cells #[a, b, c] te)) [.slice (some ⟨w.heap.size, 0, none⟩) 3 3] [x, y, z] := by
 have hb : Below w.heap.size w (w.alloc (.cells #[a, b, c] te)) := bel_alloc (Below.refl _ _) _
 refine ⟨_, _, rfl, Nat.le_refl _, ⟨by unfold maxLen; omega, fun h => by cases h⟩, by show 3 ≤ _; omega, fun _ => ⟨w.heap.size, 0, rfl, fun i hi => ?_⟩⟩
 have hi3 : i < 3 := hi
 have hc : ∀ j, (w.alloc (.cells #[a, b, c] te)).cell? ⟨w.heap.size, j, none⟩ = #[a, b, c][j]? := fun j => cell_new w te _ j rfl
 rcases i with _ | _ | _ | i
 ·refine ⟨[a], by rw [hz]; rfl, fun j hj => ?_, Ty.rd_below hb h1⟩
  rw [hz] at hj
  obtain rfl : j = 0 := by omega
  rw [hc, hz]
  rfl
 ·refine ⟨[b], by rw [hz]; rfl, fun j hj => ?_, Ty.rd_below hb h2⟩
  rw [hz] at hj
  obtain rfl : j = 0 := by omega
  rw [hc, hz]
  rfl
 ·refine ⟨[c], by rw [hz]; rfl, fun j hj => ?_, Ty.rd_below hb h3⟩
  rw [hz] at hj
  obtain rfl : j = 0 := by omega
  rw [hc, hz]
  rfl
 ·omega
theorem rd_empty (w : World) {e : Ty} (A : Option Addr) : (Ty.sl e).rd w [.slice A 0 0] [] := ⟨A, 0, rfl, Nat.le_refl _, ⟨Nat.zero_le _, fun _ => rfl⟩, by simp, fun h => absurd h b_19⟩
theorem appendName_len (b : List UInt8) (n : List (List UInt8)) : (f_AppendName b n).length ≤ b.length + 90 := by
 unfold f_AppendName
 split
 ·rename_i h
  have hv := validName_parts h
  have h1 := foldBytes_len n (f_AppendVarint b n.length) hv.2
  have h2 := appendVarint_len b n.length
  have h3 := hv.1
  unfold nameBytes
  omega
 ·omega
theorem rd_lit3' {w W : World} {te : TypeId} {e : Ty} (hz : e.sz = 1) {g : Nat} {a b c : Value} {x y z : e.D} (hg : g = w.heap.size) (h1 : e.rd w [a] x) (h2 : e.rd w [b] y) (h3 : e.rd w [c] z) (hb : Below (w.alloc (.cells #[a, b, c] te)).heap.size (w.alloc (.cells #[a, b, c] te)) W) :
  (Ty.sl e).rd W [.slice (some ⟨g, 0, none⟩) 3 3] [x, y, z] := by
 subst hg; exact Ty.rd_below hb (rd_lit3 w te hz a b c x y z h1 h2 h3)
theorem GRow.at {e : Ty} {lo : Nat} {ex : List Nat} {w : World} {te : TypeId} {A : Option Addr} {n c : Nat} {x : List e.D} (h : GRow e lo ex w te (.slice A n c) x) {k : Nat} (hk : k < x.length) :
  ∃ g ds, A = some ⟨g, 0, none⟩ ∧ ds.length = e.sz ∧ (∀ j, j < e.sz → w.cell? ⟨g, k * e.sz + j, none⟩ = ds[j]?) ∧ (∀ i, w.frozen? ⟨g, i, none⟩ = false) ∧ (lo ≤ g ∧ g < w.heap.size ∧ g ∉ ex) ∧ e.rd w ds x[k] ∧
   (∀ (W : World) (te' : TypeId) (g' c' : Nat), Below w.heap.size w W → Blk W g' te' ds.toArray → ASrc e lo ex W (.slice A n c) (.slice (some ⟨g', 0, none⟩) 1 c') [x[k]]) := by
 have hbl := h.block
 obtain ⟨P, css, h0, h1, h2, h3⟩ := h
 have h1' := h1
 rcases h1.2 with ⟨hv, hn⟩ | ⟨g, cap, cur, hv, hbg, hg, hnc, hcm, hcs, htake⟩
 ·omega
 ·simp only [Value.slice.injEq] at hv
  obtain ⟨rfl, rfl, rfl⟩ := hv
  refine ⟨g, css k, rfl, (h2 k hk).1, fun j hj => ?_, fun i => Blk.frozen (t := te) (cs := cur) hg _, hbl g rfl, (h2 k hk).2 w (fun _ _ => rfl), fun W te' g' c' hb hB => ?_⟩
  ·have h5 : (k + 1) * e.sz ≤ x.length * e.sz := Nat.mul_le_mul_right _ hk
   rw [Nat.succ_mul] at h5
   rw [h1'.cellAt (k * e.sz + j) b_18]
   exact fmr_get css e.sz x.length (fun i hi => (h2 i hi).1) k j hk hj
  ·refine ⟨_, c', P, rfl, fun b hb' => ⟨(h0 b hb').1, Nat.lt_of_lt_of_le (h0 b hb').2.1 hb.size, (h0 b hb').2.2, fun e => (h3 b e).1 hb'⟩, fun _ => ⟨g', 0, rfl, fun i hi => ?_⟩⟩
   obtain rfl : i = 0 := by simpa using hi
   exact ⟨css k, (h2 k hk).1, fun j hj => by rw [Nat.zero_mul, Nat.add_zero, Nat.zero_add]; exact (hB.cell j).trans b_19, fun W' hW' => (h2 k hk).2 W' (fun b hb' => (hW' b hb').trans (hb.block b (h0 b hb').2.1))⟩
theorem GRow.setAt {e : Ty} {lo : Nat} {ex : List Nat} {w : World} {te : TypeId} {g n c : Nat} {x : List e.D} (h : GRow e lo ex w te (.slice (some ⟨g, 0, none⟩) n c) x) {k j : Nat} (hk : k < x.length) (hj : j < e.sz) (u : Value) (d : e.D)
  (hnew : ∀ (W : World) (ds : List Value), e.rd W ds x[k] → e.rd W (ds.set j u) d) : GRow e lo ex (w.setCell ⟨g, k * e.sz + j, none⟩ u) te (.slice (some ⟨g, 0, none⟩) n c) (x.set k d) := by
 obtain ⟨P, css, h0, h1, h2, h3⟩ := h
 rcases h1.2 with ⟨hv, hn⟩ | ⟨g', cap, cur, hv, hbg, hg, hnc, hcm, hcs, htake⟩
 ·omega
 ·simp only [Value.slice.injEq, Option.some.injEq, Addr.mk.injEq, and_true] at hv
  obtain ⟨⟨rfl, _⟩, rfl, rfl⟩ := hv
  have hlt : k * e.sz + j < x.length * e.sz := by
   have h5 : (k + 1) * e.sz ≤ x.length * e.sz := Nat.mul_le_mul_right _ hk
   rw [Nat.succ_mul] at h5; omega
  have hcap : x.length * e.sz ≤ c * e.sz := Nat.mul_le_mul_right _ hnc
  have hfl : ((List.range x.length).flatMap css).length = x.length * e.sz := fmr_len css e.sz x.length (fun i hi => (h2 i hi).1)
  have hcss : (List.range x.length).flatMap (fun i => if i = k then (css k).set j u else css i) = ((List.range x.length).flatMap css).set (k * e.sz + j) u := by
   have hl' : ∀ i, i < x.length → ((fun i => if i = k then (css k).set j u else css i) i).length = e.sz := by
    intro i hi
    by_cases hik : i = k
    ·simp only [hik, if_true, List.length_set]; exact (h2 k hk).1
    ·simp only [if_neg hik]; exact (h2 i hi).1
   have hfl' := fmr_len (fun i => if i = k then (css k).set j u else css i) e.sz x.length hl'
   apply List.ext_getElem?
   intro m
   by_cases hm : m < x.length * e.sz
   ·have hpos := Ty.sz_pos e
    have hdiv : m / e.sz < x.length := (Nat.div_lt_iff_lt_mul hpos).2 hm
    have hmod : m % e.sz < e.sz := Nat.mod_lt _ hpos
    have hmm : m / e.sz * e.sz + m % e.sz = m := by rw [Nat.mul_comm]; exact Nat.div_add_mod m e.sz
    have g1 := fmr_get (fun i => if i = k then (css k).set j u else css i) e.sz x.length hl' _ _ hdiv hmod
    have g2 := fmr_get css e.sz x.length (fun i hi => (h2 i hi).1) _ _ hdiv hmod
    rw [hmm] at g1 g2
    rw [g1, List.getElem?_set]
    by_cases hik : m / e.sz = k
    ·simp only [hik, if_true]
     rw [List.getElem?_set]
     by_cases hmj : j = m % e.sz
     ·have e1 : k * e.sz + j = m := by rw [← hik, hmj]; exact hmm
      rw [if_pos hmj, if_pos e1, if_pos (by rw [(h2 k hk).1]; exact hj), if_pos (by rw [hfl]; exact hlt)]
     ·have e1 : ¬ k * e.sz + j = m := fun e' => hmj (by rw [← hik] at e'; omega)
      rw [if_neg hmj, if_neg e1, g2, hik]
    ·have e1 : ¬ k * e.sz + j = m := by
      intro e'
      apply hik
      rw [← e', Nat.mul_comm, Nat.mul_add_div hpos, Nat.div_eq_of_lt hj, Nat.add_zero]
     simp only [if_neg hik]
     rw [if_neg e1, g2]
   ·rw [List.getElem?_eq_none (by rw [hfl']; omega), List.getElem?_eq_none (by rw [List.length_set, hfl]; omega)]
  refine ⟨P, fun i => if i = k then (css k).set j u else css i, fun b hb => ⟨(h0 b hb).1, by rw [World.size_setCell]; exact (h0 b hb).2.1, (h0 b hb).2.2⟩, ?_, fun i hi => ?_, h3⟩
  ·rw [List.length_set, hcss]
   refine ⟨by rw [List.length_set]; exact h1.1, .inr ⟨g, c, cur.setIfInBounds (k * e.sz + j) u, rfl, hbg, ?_, hnc, hcm, by simpa using hcs, ?_⟩⟩
   ·exact Blk.set_ (t := te) hg (k * e.sz + j) u
   ·rw [Array.toList_setIfInBounds, List.take_set, htake]
  ·have hi' : i < x.length := by rwa [List.length_set] at hi
   by_cases hik : i = k
   ·subst hik
    simp only [if_true, List.length_set]
    refine ⟨(h2 i hi').1, fun W hW => ?_⟩
    rw [List.getElem_set_self]
    refine hnew W _ ((h2 i hi').2 W (fun b hb => (hW b hb).trans (Below.heap_setCell _ _ _ _ (fun e' => (h3 g rfl).1 (by rw [← show b = g from e']; exact hb)))))
   ·simp only [if_neg hik]
    refine ⟨(h2 i hi').1, fun W hW => ?_⟩
    rw [List.getElem_set_ne (Ne.symm hik)]
    exact (h2 i hi').2 W (fun b hb => (hW b hb).trans (Below.heap_setCell _ _ _ _ (fun e' => (h3 g rfl).1 (by rw [← show b = g from e']; exact hb))))
theorem GRow.form2 {e : Ty} {lo : Nat} {ex : List Nat} {w : World} {te : TypeId} {v : Value} {x : List e.D} (h : GRow e lo ex w te v x) : (v = .slice none 0 0 ∧ x = []) ∨ ∃ g c, v = .slice (some ⟨g, 0, none⟩) x.length c ∧ x.length ≤ c := by
 obtain ⟨P, css, _, h, _⟩ := h
 rcases h.2 with ⟨rfl, hn⟩ | ⟨g, cap, cur, rfl, _, _, h1, _⟩
 ·exact .inl ⟨rfl, List.eq_nil_of_length_eq_zero hn⟩
 ·exact .inr ⟨g, _, rfl, h1⟩
theorem rd_takeV {w : World} {e : Ty} {A : Option Addr} {n c : Nat} {x : List e.D} (h : (Ty.sl e).rd w [.slice A n c] x) {k : Nat} (hk : k ≤ x.length) : (Ty.sl e).rd w [.slice A k c] (x.take k) := by
 obtain ⟨A', c', h1, h2, h3, h4, h5⟩ := h
 simp only [List.cons.injEq, Value.slice.injEq, and_true] at h1
 obtain ⟨rfl, h1b, rfl⟩ := h1
 have hl : (x.take k).length = k := by rw [List.length_take]; omega
 refine ⟨A, c, by rw [hl], by rw [hl]; omega, h3, by rw [hl]; omega, fun h0 => ?_⟩
 rw [hl] at h0
 obtain ⟨b, o, hA, hc⟩ := h5 b_18
 refine ⟨b, o, hA, fun i hi => ?_⟩
 rw [hl] at hi
 obtain ⟨ds, g1, g2, g3⟩ := hc i b_18
 exact ⟨ds, g1, g2, by rw [List.getElem_take]; exact g3⟩
theorem RdI.take {e : Ty} {lo hi : Nat} {w : World} {A : Option Addr} {n c : Nat} {x : List e.D} (h : RdI (.sl e) lo hi w [.slice A n c] x) {k : Nat} (hk : k ≤ x.length) : RdI (.sl e) lo hi w [.slice A k c] (x.take k) := ⟨h.1, fun W hW => rd_takeV (h.2 W hW) hk⟩
theorem byte_set {u : Int} (h0 : 0 ≤ u) (h1 : u ≤ 255) {W : World} {ds : List Value} {x : UInt8} (h : Ty.byte.rd W ds x) : Ty.byte.rd W (ds.set 0 (.int .u8 u)) (UInt8.ofNat u.toNat) := by
 obtain ⟨a, rfl⟩ : ∃ a, ds = [a] := List.length_eq_one_iff.1 (Ty.rd_len h)
 refine (flatB.rd W _ _).2 ⟨?_, trivial⟩
 show [Value.int .u8 u] = [Value.int .u8 ((UInt8.ofNat u.toNat).toNat : Int)]
 congr 2
 simp only [UInt8.toNat_ofNat']
 omega
theorem byte_enc {u : Int} (h0 : 0 ≤ u) (h1 : u ≤ 255) : (.int .u8 u : Value) = flatB.enc (UInt8.ofNat u.toNat) := by
 show Value.int .u8 u = Value.int .u8 ((UInt8.ofNat u.toNat).toNat : Int)
 congr 1
 simp only [UInt8.toNat_ofNat']
 omega
theorem mem_bent {s : Int} (h : s ∈ ([0, 1, 128, 255] : List Int)) : 0 ≤ s ∧ s ≤ 255 := by
 simp at h; rcases h with rfl | rfl | rfl | rfl <;> decide
set_option maxRecDepth 100000 in
set_option maxHeartbeats 2000000 in
theorem C_spec_l1Bent (w : World) (B : Nat) (v : Value) (b : List UInt8) (hc : CurT w B) (h : (Ty.sl .byte).rd w [v] b) (hb : b.length ≤ 1000000) :
  Calls Tryd.prog 32 #[pB B, v] w (RetDT B w (DrV .byte w (fun x => List.length x ≤ List.length b + 1))) := by
 have hB := hc.lt
 obtain ⟨Ab, cb, rfl, hcb, hmb, hnb⟩ := Ty.rd_sl h
 have HL : Hid (GRow .byte w.heap.size [] (w.alloc (.cells #[] 5)) 5 (.slice (some ⟨w.heap.size, 0, none⟩) 0 0) []) := Lib.hid (GRow.ofRow rfl (Row.lit0 flatB w 5 (Nat.le_refl _)))
 go_enter Tryd.func32, Tryd.ntmps32
 set_option maxRecDepth 100000 in go_wp2_with (at_builtin; go_loud (refine wpList_append_grow (e := .byte) rfl _ _ 22 rfl w.heap.size [] 5 info_Byte rfl Tryd.underlying22 (.slice (some ⟨w.heap.size, 0, none⟩) 0 0) (.slice Ab (List.length b) cb) [] b b_20 b_20 HL.out (ASrc.flat rfl (Ty.rd_below (bel_alloc (Below.refl _ _) _) h)) ?_ ?_ ?_ ?_ ?_))
 case refine_1 => intro q hq; simp at hq
 case refine_2 => simp only [List.length_nil]; omega
 case refine_3 => simp only [List.length_nil]; unfold maxLen; omega
 case refine_4 => exact b_12
 intro v' w1 hr' hg'
 have hbl := HL.out.block
 have D1 : Dr B w w1 := Dr.grown ((Dr.refl B w).alloc _) hg' (fun q hq => (hbl q hq).1)
 have C1 : CurT w1 B := Cur.grown (hc.alloc _) hg' (fun q hq => by have := (hbl q hq).1; omega)
 have hr1 : GRow .byte w.heap.size [] w1 5 v' b := hr'
 obtain ⟨A1, c1, rfl⟩ := hr1.form
 have HG1 := Lib.hid hr1
 clear hr' hg' hbl hr1 HL h
 go_wp2_with fail
 refine Calls.mono (C_spec_l1Below _ B 6 b_6 b_17 b_17) ?_
 rintro e w2 ⟨hd2, hc2, k, rfl, hk0, hk1⟩
 have E2 : Dr B w1 w2 := b_1
 have D2 := D1.trans E2
 have HG2 := Lib.hid (HG1.out.dr E2 hB)
 have zD2 := D2.size
 clear hd2 E2 HG1 D1 C1
 rcases (show k = 0 ∨ k = 1 ∨ k = 2 ∨ (k ≠ 0 ∧ k ≠ 1 ∧ k ≠ 2) by omega) with rfl | rfl | rfl | hk
 ·by_cases h0 : 0 < b.length
  ·have i0 : (0 : Int) < (List.length b : Int) := by omega
   go_wp2_with fail
   refine Calls.mono (C_spec_l1Below _ B (List.length b : Int) b_6 b_18 b_18) ?_
   rintro e w3 ⟨hd3, hc3, i, rfl, hi0, hi1⟩
   obtain ⟨m, rfl⟩ : ∃ m : Nat, i = m := ⟨i.toNat, by omega⟩
   have E3 : Dr B w2 w3 := b_1
   go_wp2_with fail
   refine Calls.mono (C_spec_l1Below _ B 256 b_6 b_17 b_17) ?_
   rintro e w4 ⟨hd4, hc4, y, rfl, hy0, hy1⟩
   have E4 : Dr B w3 w4 := b_1
   have D4 := (D2.trans E3).trans E4
   have HG4 := (HG2.out.dr E3 hB).dr E4 hB
   have hwy : IntKind.u8.wrap y = y := IntWalk.u8_in _ b_18
   have hm : m < b.length := by omega
   obtain ⟨g, ds, hA, hdl, hcell, hfr, hgb, -, -⟩ := HG4.at (k := m) hm
   obtain ⟨u, rfl⟩ : ∃ u, ds = [u] := List.length_eq_one_iff.1 hdl
   subst hA
   have e0 : w4.cell? ⟨g, m, none⟩ = some u := by simpa [Ty.sz] using hcell 0 b_17
   have f0 := hfr m
   have i1 : (0 : Int) ≤ (m : Int) := by omega
   have i2 : (m : Int) < (List.length b : Int) := by omega
   have zg : g < w4.heap.size := hgb.2.1
   have HG5 := Lib.hid (HG4.setAt (k := m) (j := 0) hm b_17 (.int .u8 y) (UInt8.ofNat y.toNat) (fun W ds hd => byte_set hy0 b_18 hd))
   have C5 : CurT (w4.setCell ⟨g, m * Ty.byte.sz + 0, none⟩ (.int .u8 y)) B := Cur.far hc4 b_14 _
   have D5 : Dr B w (w4.setCell ⟨g, m * Ty.byte.sz + 0, none⟩ (.int .u8 y)) := Dr.set D4 (.inr b_14) _
   have hl5 : (b.set m (UInt8.ofNat y.toNat)).length = b.length := List.length_set
   simp only [Ty.sz, Nat.mul_one, Nat.add_zero] at C5 D5 HG5
   generalize b.set m (UInt8.ofNat y.toNat) = r at HG5 hl5
   clear hcell hfr hdl hd3 hd4 HG4 HG2 E3 E4 D2
   go_wp2
   go_ret
   exact ⟨D5, C5, some ⟨g, 0, none⟩, r, c1, by rw [hl5]; rfl, by rw [hl5]; exact HG5.out.rdI, by show List.length r ≤ _; omega⟩
  ·obtain rfl : b = [] := List.length_eq_zero_iff.1 b_18
   go_wp2
   go_ret
   exact ⟨D2, hc2, _, [], _, rfl, HG2.out.rdI, by simp⟩
 ·have hw1 : IntKind.i64.wrap ((List.length b : Int) + 1) = (List.length b : Int) + 1 := IntWalk.i64_in _ b_18
  go_wp2_with fail
  refine Calls.mono (C_spec_l1Below _ B ((List.length b : Int) + 1) b_6 b_18 b_18) ?_
  rintro e w3 ⟨hd3, hc3, i, rfl, hi0, hi1⟩
  obtain ⟨m, rfl⟩ : ∃ m : Nat, i = m := ⟨i.toNat, by omega⟩
  have E3 : Dr B w2 w3 := b_1
  have D3 := D2.trans E3
  have HG3 := HG2.out.dr E3 hB
  have i1 : (0 : Int) ≤ (m : Int) := by omega
  have hm : m ≤ b.length := by omega
  clear hw1 hd3 E3 D2 HG2
  rcases HG3.form2 with ⟨hv, rfl⟩ | ⟨g, c, hv, hlc⟩
  ·injection hv with hA _ hc1
   subst hA; subst hc1
   obtain rfl : m = 0 := by simpa using hm
   have HQ := Lib.hid HG3.rdI
   clear HG3
   go_wp2
   go_ret
   exact ⟨D3, hc3, _, [], _, rfl, HQ.out, by simp⟩
  ·injection hv with hA _ hc1
   subst hA; subst hc1
   have hmc : (m : Int) ≤ (c1 : Int) := by omega
   have hmc' : m ≤ c1 := by omega
   have hlt : (List.take m b).length = m := by rw [List.length_take]; omega
   have HQ := Lib.hid (HG3.rdI.take hm)
   have HLT := Lib.hid hlt
   clear HG3 hlt
   go_wp2
   go_ret
   exact ⟨D3, hc3, some ⟨g, 0, none⟩, List.take m b, c1, by rw [HLT.out]; rfl, by rw [HLT.out]; exact HQ.out, by show List.length (List.take m b) ≤ _; rw [HLT.out]; omega⟩
 ·go_wp2_with fail
  refine Calls.mono (C_spec_l1Int _ B _ [0, 1, 128, 255] b_6 b_5 b_17 b_17) ?_
  rintro e w3 ⟨hd3, hc3, y, hs, rfl⟩
  obtain ⟨hy0, hy1⟩ := mem_bent hs
  have E3 : Dr B w2 w3 := b_1
  have D3 := D2.trans E3
  have HG3 := Lib.hid (HG2.out.dr E3 hB)
  have hwy : IntKind.u8.wrap y = y := IntWalk.u8_in _ b_18
  have hbl := HG3.out.block
  have zD3 := D3.size
  have HY : Hid (Row flatB (w3.alloc (.cells #[.int .u8 y] 5)) w.heap.size 5 (.slice (some ⟨w3.heap.size, 0, none⟩) 1 1) [UInt8.ofNat y.toNat]) := by rw [byte_enc hy0 hy1]; exact Row.lit1 flatB w3 5 _ trivial (by have := D3.size; omega)
  clear hd3 hs E3 D2 HG2
  set_option maxRecDepth 100000 in go_wp2_with (at_builtin; go_loud (refine wpList_append_grow (e := .byte) rfl _ _ 22 rfl w.heap.size [] 5 info_Byte rfl Tryd.underlying22 (.slice A1 (List.length b) c1) _ b [UInt8.ofNat y.toNat] b_20 b_20 (HG3.out.alloc _) (ASrc.flat rfl (HY.out.rd b_12)) ?_ ?_ ?_ ?_ ?_))
  case refine_1 => intro q hq; simp at hq
  case refine_2 => simp only [List.length_singleton]; omega
  case refine_3 => simp only [List.length_singleton]; unfold maxLen; omega
  case refine_4 => exact b_12
  intro v' w' hr' hg'
  have D5 : Dr B w w' := Dr.grown (D3.alloc _) hg' (fun q hq => (hbl q hq).1)
  have C5 : CurT w' B := Cur.grown (hc3.alloc _) hg' (fun q hq => by have := (hbl q hq).1; omega)
  obtain ⟨r, hr⟩ : ∃ r, r = b ++ [UInt8.ofNat y.toNat] := ⟨_, rfl⟩
  have hl5 : List.length r ≤ List.length b + 1 := by rw [hr]; simp
  rw [← hr] at hr'
  clear hr
  obtain ⟨A5, c5, rfl⟩ := hr'.form
  have HR := Lib.hid hr'
  clear hr' hg' hbl
  go_wp2
  go_ret
  exact ⟨D5, C5, _, r, _, rfl, HR.out.rdI, hl5⟩
 ·have q0 : (k == 0) = false := by rw [beq_eq_false_iff_ne]; exact hk.1
  have q1 : (k == 1) = false := by rw [beq_eq_false_iff_ne]; exact hk.2.1
  have q2 : (k == 2) = false := by rw [beq_eq_false_iff_ne]; exact hk.2.2
  go_wp2
  go_ret
  exact ⟨D2, hc2, _, b, _, rfl, HG2.out.rdI, by omega⟩
def f_ValidInterest (x : tInterest.D) : Bool := validName x.1 && (decide (0 < x.1.length) && (inR x.2.1 0 1000000 && (inR x.2.2.1 0 16 && inR x.2.2.2 1 20)))
def f_EncodeInterest (x : tInterest.D) : List UInt8 := if f_ValidInterest x then f_AppendName [] x.1 ++ f_EncodeInts [x.2.1, x.2.2.1, x.2.2.2] else []
theorem encInterest_len (x : tInterest.D) : (f_EncodeInterest x).length ≤ 1000 := by
 have h1 := appendName_len [] x.1
 have h4 := encodeInts_len [x.2.1, x.2.2.1, x.2.2.2]
 simp only [List.length_nil, List.length_cons] at h1 h4
 unfold f_EncodeInterest
 split
 ·rw [List.length_append]; omega
 ·simp
theorem rd_litI3' {w W : World} {te : TypeId} {g : Nat} {n m k : Int} (hg : g = w.heap.size) (hn : -9223372036854775808 ≤ n ∧ n ≤ 9223372036854775807) (hm : -9223372036854775808 ≤ m ∧ m ≤ 9223372036854775807) (hk : -9223372036854775808 ≤ k ∧ k ≤ 9223372036854775807) (hb : Below (w.alloc (.cells #[.int .i64 n, .int .i64 m, .int .i64 k] te)).heap.size (w.alloc (.cells #[.int .i64 n, .int .i64 m, .int .i64 k] te)) W) :
  (Ty.sl .int).rd W [.slice (some ⟨g, 0, none⟩) 3 3] [n, m, k] := rd_lit3' (e := .int) rfl hg ⟨rfl, hn⟩ ⟨rfl, hm⟩ ⟨rfl, hk⟩ hb
set_option maxHeartbeats 1000000 in
theorem C_spec_ValidInterest (w : World) (cs1 : List Value) (x : tInterest.D) (h1 : tInterest.rd w cs1 x) :
  Calls Tryd.prog 28 #[.agg cs1.toArray] w (RetB w (f_ValidInterest x)) := by
 obtain ⟨A0, c0, rfl, g0, b1, b2, b3⟩ := rd_Interest h1
 obtain ⟨_, _, _, _, _, n0⟩ := Ty.rd_sl g0
 have hF : f_ValidInterest x = (validName x.1 && (decide (0 < x.1.length) && (inR x.2.1 0 1000000 && (inR x.2.2.1 0 16 && inR x.2.2.2 1 20)))) := rfl
 generalize f_ValidInterest x = F at hF ⊢
 have HF := Lib.hid hF
 clear hF
 go_enter Tryd.func28, Tryd.ntmps28
 go_wp2_with fail
 refine (C_spec_ValidName _ _ _ (Ty.rd_below b_3 g0)).mono ?_
 rintro e w1 ⟨rfl, hb1⟩
 have hw1 : Below w.heap.size w w1 := bel_trans b_3 hb1
 obtain ⟨hc1, hf1⟩ := bcell hb1
 have z10 : w.heap.size < w1.heap.size := by have := hb1.size; simp only [World.size_alloc] at this; omega
 cases q0 : validName x.1
 ·rw [q0] at HF
  go_wp2
  go_ret
  exact ⟨ret_bool (by rw [HF.out]; rfl), hw1⟩
 rw [q0] at HF
 by_cases hl1 : 0 < x.1.length
 rotate_left
 ·have H1 := Lib.hid hl1
  go_wp2
  go_ret
  exact ⟨ret_bool (by rw [HF.out]; simp [H1.out]), hw1⟩
 have H1 := Lib.hid hl1
 go_wp2_with fail
 refine (C_spec_l1In _ _ _ _).mono ?_
 rintro e w3 ⟨rfl, rfl⟩
 cases q4 : inR x.2.1 0 1000000
 ·rw [q4] at HF
  go_wp2
  go_ret
  exact ⟨ret_bool (by rw [HF.out]; simp), hw1⟩
 rw [q4] at HF
 go_wp2_with fail
 refine (C_spec_l1In _ _ _ _).mono ?_
 rintro e w4 ⟨rfl, rfl⟩
 cases q5 : inR x.2.2.1 0 16
 ·rw [q5] at HF
  go_wp2
  go_ret
  exact ⟨ret_bool (by rw [HF.out]; simp), hw1⟩
 rw [q5] at HF
 go_wp2_with fail
 refine (C_spec_l1In _ _ _ _).mono ?_
 rintro e w5 ⟨rfl, rfl⟩
 go_wp2
 go_ret
 exact ⟨ret_bool (by rw [HF.out]; simp [H1.out]), hw1⟩
set_option maxHeartbeats 1000000 in
theorem C_impl_ValidInterest (w : World) (cs1 : List Value) (x : tInterest.D) (h1 : tInterest.rd w cs1 x) :
  Calls Tryd.prog 27 #[.agg cs1.toArray] w (RetB w (f_ValidInterest x)) := by
 obtain ⟨A0, c0, rfl, g0, b1, b2, b3⟩ := rd_Interest h1
 obtain ⟨_, _, _, _, _, n0⟩ := Ty.rd_sl g0
 have hF : f_ValidInterest x = (validName x.1 && (decide (0 < x.1.length) && (inR x.2.1 0 1000000 && (inR x.2.2.1 0 16 && inR x.2.2.2 1 20)))) := rfl
 generalize f_ValidInterest x = F at hF ⊢
 have HF := Lib.hid hF
 clear hF
 go_enter Tryd.func27, Tryd.ntmps27
 go_wp2_with fail
 refine (C_impl_ValidName _ _ _ (Ty.rd_below b_3 g0)).mono ?_
 rintro e w1 ⟨rfl, hb1⟩
 have hw1 : Below w.heap.size w w1 := bel_trans b_3 hb1
 obtain ⟨hc1, hf1⟩ := bcell hb1
 have z10 : w.heap.size < w1.heap.size := by have := hb1.size; simp only [World.size_alloc] at this; omega
 cases q0 : validName x.1
 ·rw [q0] at HF
  go_wp2
  go_ret
  exact ⟨ret_bool (by rw [HF.out]; rfl), hw1⟩
 rw [q0] at HF
 by_cases hl1 : 0 < x.1.length
 rotate_left
 ·have H1 := Lib.hid hl1
  go_wp2
  go_ret
  exact ⟨ret_bool (by rw [HF.out]; simp [H1.out]), hw1⟩
 have H1 := Lib.hid hl1
 go_wp2_with fail
 refine (C_impl_InRange _ _ _ _).mono ?_
 rintro e w3 ⟨rfl, rfl⟩
 cases q4 : inR x.2.1 0 1000000
 ·rw [q4] at HF
  go_wp2
  go_ret
  exact ⟨ret_bool (by rw [HF.out]; simp), hw1⟩
 rw [q4] at HF
 go_wp2_with fail
 refine (C_impl_InRange _ _ _ _).mono ?_
 rintro e w4 ⟨rfl, rfl⟩
 cases q5 : inR x.2.2.1 0 16
 ·rw [q5] at HF
  go_wp2
  go_ret
  exact ⟨ret_bool (by rw [HF.out]; simp), hw1⟩
 rw [q5] at HF
 go_wp2_with fail
 refine (C_impl_InRange _ _ _ _).mono ?_
 rintro e w5 ⟨rfl, rfl⟩
 go_wp2
 go_ret
 exact ⟨ret_bool (by rw [HF.out]; simp [H1.out]), hw1⟩
set_option maxHeartbeats 8000000 in
theorem C_impl_EncodeInterest (w : World) (cs : List Value) (x : tInterest.D) (h : tInterest.rd w cs x) (s0 : Ty.bulk tInterest x ≤ 1048576) :
  Calls Tryd.prog 6 #[.agg cs.toArray] w (RetSl w .byte (f_EncodeInterest x)) := by
 obtain ⟨A0, c0, rfl, g0, b1, b2, b3⟩ := rd_Interest h
 have kb0 : (w.alloc (.cells #[.slice A0 (List.length x.1) c0, .int .i64 x.2.1, .int .i64 x.2.2.1, .int .i64 x.2.2.2] 28)).cell? ⟨w.heap.size, 0, none⟩ = some (.slice A0 (List.length x.1) c0) := cell_new w _ _ 0 rfl
 have kb1 : (w.alloc (.cells #[.slice A0 (List.length x.1) c0, .int .i64 x.2.1, .int .i64 x.2.2.1, .int .i64 x.2.2.2] 28)).cell? ⟨w.heap.size, 1, none⟩ = some (.int .i64 x.2.1) := cell_new w _ _ 1 rfl
 have kb2 : (w.alloc (.cells #[.slice A0 (List.length x.1) c0, .int .i64 x.2.1, .int .i64 x.2.2.1, .int .i64 x.2.2.2] 28)).cell? ⟨w.heap.size, 2, none⟩ = some (.int .i64 x.2.2.1) := cell_new w _ _ 2 rfl
 have kb3 : (w.alloc (.cells #[.slice A0 (List.length x.1) c0, .int .i64 x.2.1, .int .i64 x.2.2.1, .int .i64 x.2.2.2] 28)).cell? ⟨w.heap.size, 3, none⟩ = some (.int .i64 x.2.2.2) := cell_new w _ _ 3 rfl
 have hvb : Below w.heap.size w (w.alloc (.cells #[.slice A0 (List.length x.1) c0, .int .i64 x.2.1, .int .i64 x.2.2.1, .int .i64 x.2.2.2] 28)) := b_3
 have hzb : w.heap.size < (w.alloc (.cells #[.slice A0 (List.length x.1) c0, .int .i64 x.2.1, .int .i64 x.2.2.1, .int .i64 x.2.2.2] 28)).heap.size := by rw [World.size_alloc]; omega
 have HF := Lib.hid (show f_EncodeInterest x = if f_ValidInterest x then f_AppendName [] x.1 ++ f_EncodeInts [x.2.1, x.2.2.1, x.2.2.2] else [] from rfl)
 have HLA : Hid ((f_AppendName [] x.1).length + (f_EncodeInts [x.2.1, x.2.2.1, x.2.2.2]).length ≤ 1000) := by
  have h1 := appendName_len [] x.1; have h4 := encodeInts_len [x.2.1, x.2.2.1, x.2.2.2]
  simp only [List.length_nil, List.length_cons] at h1 h4
  show _ ≤ _
  omega
 go_enter Tryd.func6, Tryd.ntmps6
 go_wp2_with fail
 generalize w.alloc (.cells #[.slice A0 (List.length x.1) c0, .int .i64 x.2.1, .int .i64 x.2.2.1, .int .i64 x.2.2.2] 28) = WB at kb0 kb1 kb2 kb3 hvb hzb ⊢
 have HS : Hid (∀ W, Below WB.heap.size WB W → Below w.heap.size w W ∧ W.cell? ⟨w.heap.size, 0, none⟩ = some (.slice A0 (List.length x.1) c0) ∧ W.cell? ⟨w.heap.size, 1, none⟩ = some (.int .i64 x.2.1) ∧ W.cell? ⟨w.heap.size, 2, none⟩ = some (.int .i64 x.2.2.1) ∧ W.cell? ⟨w.heap.size, 3, none⟩ = some (.int .i64 x.2.2.2)) := fun W hW => ⟨bel_trans hvb hW, (hW.cell (p := ⟨w.heap.size, 0, none⟩) hzb).trans kb0, (hW.cell (p := ⟨w.heap.size, 1, none⟩) hzb).trans kb1, (hW.cell (p := ⟨w.heap.size, 2, none⟩) hzb).trans kb2, (hW.cell (p := ⟨w.heap.size, 3, none⟩) hzb).trans kb3⟩
 clear kb0 kb1 kb2 kb3
 refine (C_impl_ValidInterest _ _ x (Ty.rd_below hvb h)).mono ?_
 rintro e w1 ⟨rfl, hb1⟩
 have hs1 := HS.out _ hb1
 cases q0 : f_ValidInterest x
 ·rw [q0] at HF
  go_wp2
  go_ret
  rw [HF.out]
  exact RetRow.sl (te := 5) (F := flatB) ⟨_, rfl, Row.nil _ _ _ _, hs1.1⟩
 rw [q0] at HF
 obtain ⟨hw1, k0, k1, k2, k3⟩ := hs1
 go_wp2_with fail
 set_option maxRecDepth 100000 in go_region_held3 (fun W => Below w.heap.size w W ∧ W.cell? ⟨w.heap.size, 0, none⟩ = some (.slice A0 (List.length x.1) c0) ∧ W.cell? ⟨w.heap.size, 1, none⟩ = some (.int .i64 x.2.1) ∧ W.cell? ⟨w.heap.size, 2, none⟩ = some (.int .i64 x.2.2.1) ∧ W.cell? ⟨w.heap.size, 3, none⟩ = some (.int .i64 x.2.2.2)) (first | (exact hz) | (exact HS.out _ b_0))
  (first
   | (go_at_call 21; (with_reducible refine (C_impl_AppendName _ _ [] _ x.1 (rd_empty _ _) (Ty.rd_below b_0 (Ty.rd_below hvb g0)) b_19).mono ?_); rintro e wa ⟨va, rfl, hra, hba⟩; have HBa := Lib.hid (show Below WB.heap.size WB wa from b_0); have HRa := Lib.hid (hra.mono (base' := WB.heap.size) (Below.size (B := WB.heap.size) (w := WB) b_0)); clear hra)
   | (go_at_call 31; (with_reducible refine (C_impl_EncodeInts _ _ [x.2.1, x.2.2.1, x.2.2.2] (by first | (refine rd_litI3' (w := w1) (te := 3) ?_ b1 b2 b3 ?_; (focus (first | rfl | (symm; apply World.size_alloc) | fail)); ((repeat' (first | (with_reducible exact Below.refl _ _) | (with_reducible assumption) | (with_reducible refine bel_set ?_ (by (try dsimp only); omega) _) | (with_reducible refine bel_alloc ?_ _) | (with_reducible refine bel_drewN ?_ _) | (with_reducible refine bel_drew ?_) | (with_reducible refine bel_trans ?_ b_16))); done)) | (refine rd_litI3' (w := wa) (te := 3) ?_ b1 b2 b3 ?_; (focus (first | rfl | (symm; apply World.size_alloc) | fail)); ((repeat' (first | (with_reducible exact Below.refl _ _) | (with_reducible assumption) | (with_reducible refine bel_set ?_ (by (try dsimp only); omega) _) | (with_reducible refine bel_alloc ?_ _) | (with_reducible refine bel_drewN ?_ _) | (with_reducible refine bel_drew ?_) | (with_reducible refine bel_trans ?_ b_16))); done)) | fail) b_19).mono ?_); rintro e we ⟨ve, rfl, hre, hbe⟩; have HBe := Lib.hid (show Below WB.heap.size WB we from b_0); have HRe := Lib.hid (hre.mono (base' := WB.heap.size) (Below.size (B := WB.heap.size) (w := WB) b_0)); clear hre)
   | ((refine step_append_row b_20 _ _ 22 b_20 flatB WB.heap.size 5 infoB rfl Tryd.underlying22 _ _ (f_AppendName [] x.1) (f_EncodeInts [x.2.1, x.2.2.1, x.2.2.2]) b_20 b_20 (HRa.out.below b_0) (Ty.rd_below b_0 (HRe.out.rd HBe.out.size)) (by have := HLA.out; omega) (by have := HLA.out; unfold maxLen; omega) (Below.size (B := WB.heap.size) (w := WB) b_0) ?_); intro v' w' hr' hg'; have hne : some w.heap.size ≠ va.ownBlock := fun e => (by have := (HRa.out.block _ e.symm).1; omega); have hz : Below w.heap.size w w' ∧ w'.cell? ⟨w.heap.size, 0, none⟩ = some (.slice A0 (List.length x.1) c0) ∧ w'.cell? ⟨w.heap.size, 1, none⟩ = some (.int .i64 x.2.1) ∧ w'.cell? ⟨w.heap.size, 2, none⟩ = some (.int .i64 x.2.2.1) ∧ w'.cell? ⟨w.heap.size, 3, none⟩ = some (.int .i64 x.2.2.2) := ⟨bel_grown (B := w.heap.size) b_0 (Below.size (B := w.heap.size) (w := w) b_0) hg' (fun g hg => (by have := (HRa.out.block _ hg).1; omega)), hg'.cell (HS.out _ b_0).2.1 hne, hg'.cell (HS.out _ b_0).2.2.1 hne, hg'.cell (HS.out _ b_0).2.2.2.1 hne, hg'.cell (HS.out _ b_0).2.2.2.2 hne⟩)
   | fail)
 all_goals (have HR' := Lib.hid hr')
 all_goals (clear hr')
 all_goals go_wp2
 all_goals go_ret
 all_goals rw [HF.out]
 all_goals exact RetRow.sl ⟨_, rfl, HR'.out.mono b_18, hz.1⟩
set_option maxHeartbeats 8000000 in
theorem C_spec_EncodeInterest (w : World) (cs : List Value) (x : tInterest.D) (h : tInterest.rd w cs x) (s0 : Ty.bulk tInterest x ≤ 1048576) :
  Calls Tryd.prog 19 #[.agg cs.toArray] w (RetSl w .byte (f_EncodeInterest x)) := by
 obtain ⟨A0, c0, rfl, g0, b1, b2, b3⟩ := rd_Interest h
 have kb0 : (w.alloc (.cells #[.slice A0 (List.length x.1) c0, .int .i64 x.2.1, .int .i64 x.2.2.1, .int .i64 x.2.2.2] 28)).cell? ⟨w.heap.size, 0, none⟩ = some (.slice A0 (List.length x.1) c0) := cell_new w _ _ 0 rfl
 have kb1 : (w.alloc (.cells #[.slice A0 (List.length x.1) c0, .int .i64 x.2.1, .int .i64 x.2.2.1, .int .i64 x.2.2.2] 28)).cell? ⟨w.heap.size, 1, none⟩ = some (.int .i64 x.2.1) := cell_new w _ _ 1 rfl
 have kb2 : (w.alloc (.cells #[.slice A0 (List.length x.1) c0, .int .i64 x.2.1, .int .i64 x.2.2.1, .int .i64 x.2.2.2] 28)).cell? ⟨w.heap.size, 2, none⟩ = some (.int .i64 x.2.2.1) := cell_new w _ _ 2 rfl
 have kb3 : (w.alloc (.cells #[.slice A0 (List.length x.1) c0, .int .i64 x.2.1, .int .i64 x.2.2.1, .int .i64 x.2.2.2] 28)).cell? ⟨w.heap.size, 3, none⟩ = some (.int .i64 x.2.2.2) := cell_new w _ _ 3 rfl
 have hvb : Below w.heap.size w (w.alloc (.cells #[.slice A0 (List.length x.1) c0, .int .i64 x.2.1, .int .i64 x.2.2.1, .int .i64 x.2.2.2] 28)) := b_3
 have hzb : w.heap.size < (w.alloc (.cells #[.slice A0 (List.length x.1) c0, .int .i64 x.2.1, .int .i64 x.2.2.1, .int .i64 x.2.2.2] 28)).heap.size := by rw [World.size_alloc]; omega
 have HF := Lib.hid (show f_EncodeInterest x = if f_ValidInterest x then f_AppendName [] x.1 ++ f_EncodeInts [x.2.1, x.2.2.1, x.2.2.2] else [] from rfl)
 have HLA : Hid ((f_AppendName [] x.1).length + (f_EncodeInts [x.2.1, x.2.2.1, x.2.2.2]).length ≤ 1000) := by
  have h1 := appendName_len [] x.1; have h4 := encodeInts_len [x.2.1, x.2.2.1, x.2.2.2]
  simp only [List.length_nil, List.length_cons] at h1 h4
  show _ ≤ _
  omega
 go_enter Tryd.func19, Tryd.ntmps19
 go_wp2_with fail
 generalize w.alloc (.cells #[.slice A0 (List.length x.1) c0, .int .i64 x.2.1, .int .i64 x.2.2.1, .int .i64 x.2.2.2] 28) = WB at kb0 kb1 kb2 kb3 hvb hzb ⊢
 have HS : Hid (∀ W, Below WB.heap.size WB W → Below w.heap.size w W ∧ W.cell? ⟨w.heap.size, 0, none⟩ = some (.slice A0 (List.length x.1) c0) ∧ W.cell? ⟨w.heap.size, 1, none⟩ = some (.int .i64 x.2.1) ∧ W.cell? ⟨w.heap.size, 2, none⟩ = some (.int .i64 x.2.2.1) ∧ W.cell? ⟨w.heap.size, 3, none⟩ = some (.int .i64 x.2.2.2)) := fun W hW => ⟨bel_trans hvb hW, (hW.cell (p := ⟨w.heap.size, 0, none⟩) hzb).trans kb0, (hW.cell (p := ⟨w.heap.size, 1, none⟩) hzb).trans kb1, (hW.cell (p := ⟨w.heap.size, 2, none⟩) hzb).trans kb2, (hW.cell (p := ⟨w.heap.size, 3, none⟩) hzb).trans kb3⟩
 clear kb0 kb1 kb2 kb3
 refine (C_spec_ValidInterest _ _ x (Ty.rd_below hvb h)).mono ?_
 rintro e w1 ⟨rfl, hb1⟩
 have hs1 := HS.out _ hb1
 cases q0 : f_ValidInterest x
 ·rw [q0] at HF
  go_wp2
  go_ret
  rw [HF.out]
  exact RetRow.sl (te := 5) (F := flatB) ⟨_, rfl, Row.lit0 flatB w1 5 hs1.1.size, b_0⟩
 rw [q0] at HF
 obtain ⟨hw1, k0, k1, k2, k3⟩ := hs1
 go_wp2_with fail
 set_option maxRecDepth 100000 in go_region_held3 (fun W => Below w.heap.size w W ∧ W.cell? ⟨w.heap.size, 0, none⟩ = some (.slice A0 (List.length x.1) c0) ∧ W.cell? ⟨w.heap.size, 1, none⟩ = some (.int .i64 x.2.1) ∧ W.cell? ⟨w.heap.size, 2, none⟩ = some (.int .i64 x.2.2.1) ∧ W.cell? ⟨w.heap.size, 3, none⟩ = some (.int .i64 x.2.2.2)) (first | (exact hz) | (exact HS.out _ b_0))
  (first
   | (go_at_call 22; (with_reducible refine (C_spec_AppendName _ _ [] _ x.1 (rd_empty _ _) (Ty.rd_below b_0 (Ty.rd_below hvb g0)) b_19).mono ?_); rintro e wa ⟨va, rfl, hra, hba⟩; have HBa := Lib.hid (show Below WB.heap.size WB wa from b_0); have HRa := Lib.hid (hra.mono (base' := WB.heap.size) (Below.size (B := WB.heap.size) (w := WB) b_0)); clear hra)
   | (go_at_call 49; (with_reducible refine (C_spec_EncodeInts _ _ [x.2.1, x.2.2.1, x.2.2.2] (by first | (refine rd_litI3' (w := w1) (te := 3) ?_ b1 b2 b3 ?_; (focus (first | rfl | (symm; apply World.size_alloc) | fail)); ((repeat' (first | (with_reducible exact Below.refl _ _) | (with_reducible assumption) | (with_reducible refine bel_set ?_ (by (try dsimp only); omega) _) | (with_reducible refine bel_alloc ?_ _) | (with_reducible refine bel_drewN ?_ _) | (with_reducible refine bel_drew ?_) | (with_reducible refine bel_trans ?_ b_16))); done)) | (refine rd_litI3' (w := wa) (te := 3) ?_ b1 b2 b3 ?_; (focus (first | rfl | (symm; apply World.size_alloc) | fail)); ((repeat' (first | (with_reducible exact Below.refl _ _) | (with_reducible assumption) | (with_reducible refine bel_set ?_ (by (try dsimp only); omega) _) | (with_reducible refine bel_alloc ?_ _) | (with_reducible refine bel_drewN ?_ _) | (with_reducible refine bel_drew ?_) | (with_reducible refine bel_trans ?_ b_16))); done)) | (refine rd_litI3' (w := (w1.alloc (.cells #[] 5))) (te := 3) ?_ b1 b2 b3 ?_; (focus (first | rfl | (symm; apply World.size_alloc) | fail)); ((repeat' (first | (with_reducible exact Below.refl _ _) | (with_reducible assumption) | (with_reducible refine bel_set ?_ (by (try dsimp only); omega) _) | (with_reducible refine bel_alloc ?_ _) | (with_reducible refine bel_drewN ?_ _) | (with_reducible refine bel_drew ?_) | (with_reducible refine bel_trans ?_ b_16))); done)) | fail) b_19).mono ?_); rintro e we ⟨ve, rfl, hre, hbe⟩; have HBe := Lib.hid (show Below WB.heap.size WB we from b_0); have HRe := Lib.hid (hre.mono (base' := WB.heap.size) (Below.size (B := WB.heap.size) (w := WB) b_0)); clear hre)
   | ((refine step_append_row b_20 _ _ 22 b_20 flatB WB.heap.size 5 infoB rfl Tryd.underlying22 _ _ (f_AppendName [] x.1) (f_EncodeInts [x.2.1, x.2.2.1, x.2.2.2]) b_20 b_20 (HRa.out.below b_0) (Ty.rd_below b_0 (HRe.out.rd HBe.out.size)) (by have := HLA.out; omega) (by have := HLA.out; unfold maxLen; omega) (Below.size (B := WB.heap.size) (w := WB) b_0) ?_); intro v' w' hr' hg'; have hne : some w.heap.size ≠ va.ownBlock := fun e => (by have := (HRa.out.block _ e.symm).1; omega); have hz : Below w.heap.size w w' ∧ w'.cell? ⟨w.heap.size, 0, none⟩ = some (.slice A0 (List.length x.1) c0) ∧ w'.cell? ⟨w.heap.size, 1, none⟩ = some (.int .i64 x.2.1) ∧ w'.cell? ⟨w.heap.size, 2, none⟩ = some (.int .i64 x.2.2.1) ∧ w'.cell? ⟨w.heap.size, 3, none⟩ = some (.int .i64 x.2.2.2) := ⟨bel_grown (B := w.heap.size) b_0 (Below.size (B := w.heap.size) (w := w) b_0) hg' (fun g hg => (by have := (HRa.out.block _ hg).1; omega)), hg'.cell (HS.out _ b_0).2.1 hne, hg'.cell (HS.out _ b_0).2.2.1 hne, hg'.cell (HS.out _ b_0).2.2.2.1 hne, hg'.cell (HS.out _ b_0).2.2.2.2 hne⟩)
   | fail)
 all_goals (have HR' := Lib.hid hr')
 all_goals (clear hr')
 all_goals go_wp2
 all_goals go_ret
 all_goals rw [HF.out]
 all_goals exact RetRow.sl ⟨_, rfl, HR'.out.mono b_18, hz.1⟩
end Go.Proofs.YtidnahocnhcoiaaDoor
