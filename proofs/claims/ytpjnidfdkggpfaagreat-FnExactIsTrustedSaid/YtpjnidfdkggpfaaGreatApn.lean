/- Names as bytes. -/
import Derived.Test.YtpjnidfdkggpfaaGreatEnc
import Derived.Laws.IdiomStrings
namespace Go.Proofs.YtpjnidfdkggpfaaGreat
open Go.RowKit
set_option linter.unusedVariables false
set_option linter.unusedSimpArgs false

/-- The world and the value behind '[]byte(s)'. -/
def convW (W : World) (te : TypeId) (s : List UInt8) : World := W.drew.alloc (.cells (bytesRow ⟨s.toArray⟩ (grownCap W s.length 0 te)) te ((bytesRow ⟨s.toArray⟩ (grownCap W s.length 0 te)).size, (bytesRow ⟨s.toArray⟩ (grownCap W s.length 0 te)).size + 1))
theorem convW_bel (W : World) (te : TypeId) (s : List UInt8) : Below W.heap.size W (convW W te s) := bel_alloc (bel_drew (Below.refl _ _)) _
theorem convW_rd (W : World) (te : TypeId) (s : List UInt8) (hs : s.length ≤ 1099511627776) : (Ty.sl .byte).rd (convW W te s) [.slice (some ⟨W.heap.size, 0, none⟩) s.length (grownCap W s.length 0 te)] s := by
  refine ⟨_, _, rfl, grownCap_ge W _ _ _, ⟨grownCap_le_maxLen W _ _ _ (by unfold maxLen; omega), fun h => by cases h⟩, by show s.length ≤ _; omega, fun _ => ⟨W.heap.size, 0, rfl, fun i hi => ⟨[.int .u8 (s[i].toNat : Int)], rfl, fun j hj => ?_, rfl⟩⟩⟩
  have hj0 : j = 0 := by simp [Ty.sz] at hj; omega
  subst hj0
  have h1 := cell_of_row (convW W te s) W.heap.size (0 + i * Ty.byte.sz + 0) _ _ _ (heap_alloc_new W.drew _)
  rw [h1]
  have h2 := bytesRow_at ⟨s.toArray⟩ (grownCap W s.length 0 te) i (by simpa using hi)
  rw [show 0 + i * Ty.byte.sz + 0 = i from by simp [Ty.sz], h2]
  simp
theorem foldBytes_len : ∀ (l : List (List UInt8)) (b : List UInt8), (∀ s ∈ l, s.length ≤ 8) → (l.foldl f_AppendBytes b).length ≤ b.length + 14 * l.length
  | [], b, _ => by simp
  | s :: l, b, h => by
    have h1 := foldBytes_len l (f_AppendBytes b s) (fun t ht => h t (List.mem_cons_of_mem _ ht))
    have h2 := appendVarint_len b s.length
    have h3 := h s (List.mem_cons_self ..)
    have h4 : (f_AppendBytes b s).length = (f_AppendVarint b s.length).length + s.length := by unfold f_AppendBytes; rw [List.length_append]
    rw [List.foldl_cons, List.length_cons]; omega
theorem foldBytes_take (l : List (List UInt8)) (b : List UInt8) {k : Nat} (h : k < l.length) : (l.take (k + 1)).foldl f_AppendBytes b = f_AppendBytes ((l.take k).foldl f_AppendBytes b) l[k] := by
  rw [List.take_succ_eq_append_getElem h, List.foldl_append]; rfl
theorem validName_parts {n : List (List UInt8)} (h : validName n = true) : n.length ≤ 6 ∧ ∀ s ∈ n, s.length ≤ 8 := by
  unfold validName at h
  simp only [Bool.and_eq_true, decide_eq_true_eq, List.all_eq_true] at h
  refine ⟨h.2, fun s hs => ?_⟩
  have := h.1 s hs
  unfold validPart at this
  simp only [Bool.and_eq_true, decide_eq_true_eq] at this
  exact this.2.2
def nameBytes (b : List UInt8) (n : List (List UInt8)) : List UInt8 := n.foldl f_AppendBytes (f_AppendVarint b n.length)
def f_AppendName (b : List UInt8) (n : List (List UInt8)) : List UInt8 := if validName n then nameBytes b n else b
set_option maxHeartbeats 1000000 in
theorem C_impl_AppendName (w : World) (v1 : Value) (b : List UInt8) (cs : List Value) (n : List (List UInt8)) (h1 : (Ty.sl .byte).rd w [v1] b) (h2 : (Ty.sl .str).rd w cs n) (hb : b.length ≤ 1000000000000) :
    Calls Tryz.prog 110 #[v1, .agg cs.toArray] w (RetRow flatB w 5 (f_AppendName b n)) := by
  obtain ⟨A2, c2, rfl⟩ := Ty.rd_slv h2
  obtain ⟨_, _, _, _, _, n2⟩ := Ty.rd_sl h2
  have hconv : ∀ (W : World) (s : List UInt8), (convert 9 31 (vS s)).run Tryz.prog W = .ok (.slice (some ⟨W.heap.size, 0, none⟩) s.length (grownCap W s.length 0 5)) (convW W 5 s) := fun W s => run_bytes_of_string W _ _ _ ⟨s.toArray⟩ Tryz.underlying9 Tryz.underlying31 Tryz.underlying5
  go_enter Tryz.func110, Tryz.ntmps110
  go_wp2_with fail
  refine (C_impl_ValidName _ _ _ (Ty.rd_below (by repeat' (first | (with_reducible exact Below.refl _ _) | (with_reducible assumption) | (with_reducible refine bel_set ?_ (by (try dsimp only); omega) _) | (with_reducible refine bel_alloc ?_ _) | (with_reducible refine bel_drewN ?_ _) | (with_reducible refine bel_drew ?_))) h2)).mono ?_
  rintro e w1 ⟨rfl, hb1⟩
  have hw1 : Below w.heap.size w w1 := bel_trans (by repeat' (first | (with_reducible exact Below.refl _ _) | (with_reducible assumption) | (with_reducible refine bel_set ?_ (by (try dsimp only); omega) _) | (with_reducible refine bel_alloc ?_ _) | (with_reducible refine bel_drewN ?_ _) | (with_reducible refine bel_drew ?_))) hb1
  obtain ⟨hc1, hf1⟩ := bcell hb1
  have z1 : w.heap.size < w1.heap.size := by have := hb1.size; simp only [World.size_alloc] at this; omega
  have HF := Lib.hid (show f_AppendName b n = if validName n then nameBytes b n else b from rfl)
  cases hq : validName n
  · rw [hq] at HF
    go_wp2_with fail
    refine (C_slices_Clone_byte _ _ b (Ty.rd_below hw1 h1) (by omega)).mono ?_
    rintro e w2 ⟨u2, rfl, hr2, hb2⟩
    have HR := Lib.hid (hr2.mono hw1.size)
    clear hr2
    go_wp2
    go_ret
    exact ⟨_, rfl, by rw [HF.out]; exact HR.out, bel_trans hw1 hb2⟩
  · rw [hq] at HF
    have HV := Lib.hid (validName_parts hq)
    have hl6 := HV.out.1
    go_wp2_with fail
    refine (C_impl_AppendVarint _ _ b (n.length : Int) (Ty.rd_below hw1 h1) (by omega) (by omega)).mono ?_
    rintro e w2 ⟨u2, rfl, hr2, hb2⟩
    have hw2 : Below w.heap.size w w2 := bel_trans hw1 hb2
    have HR := Lib.hid (hr2.mono hw1.size)
    clear hr2
    obtain ⟨hc2, hf2⟩ := bcell hb2
    have HL0 := Lib.hid (appendVarint_len b n.length)
    go_wp2
    go_loopw [5, 21] (fun l i wr => ∃ k : Nat, k ≤ n.length ∧ i = .int .i64 k ∧ Row flatB wr w.heap.size 5 l ((n.take k).foldl f_AppendBytes (f_AppendVarint b n.length)) ∧ Below w.heap.size w wr) (fun _ i _ => n.length - (intOf i).toNat)
    case atStart => exact ⟨0, by omega, rfl, HR.out, hw2⟩
    case round =>
      obtain ⟨k, hk, rfl, hr, hbr⟩ := hrel
      have HRr := Lib.hid hr
      clear hr
      by_cases hlt : k < n.length
      · obtain ⟨ab, ao, rfl, e0, m0⟩ := Ty.rd_str_at (Ty.rd_below hbr h2) hlt
        have HP := Lib.hid (foldBytes_take n (f_AppendVarint b n.length) hlt)
        have HL := Lib.hid (foldBytes_len (n.take k) (f_AppendVarint b n.length) (fun s hs => HV.out.2 s (List.mem_of_mem_take hs)))
        have hp8 : n[k].length ≤ 8 := HV.out.2 _ (List.getElem_mem hlt)
        go_wp2_with fail
        refine (C_impl_AppendBytes _ _ _ ((n.take k).foldl f_AppendBytes (f_AppendVarint b n.length)) n[k] ((HRr.out.below (convW_bel wr _ _)).rd (Nat.le_trans hbr.size (convW_bel wr _ _).size)) (convW_rd wr 5 n[k] (by omega)) (by have h3 := HL.out; have h4 := HL0.out; rw [List.length_take] at h3; omega) (by omega)).mono ?_
        rintro e w3 ⟨u3, rfl, hr3, hb3⟩
        have hb3' := bel_trans (convW_bel wr _ _) hb3
        have hw3 : Below w.heap.size w w3 := bel_trans hbr hb3'
        have HR3 := Lib.hid (hr3.mono (Nat.le_trans hbr.size (convW_bel wr _ _).size))
        clear hr3
        go_wp2
        go_roundw
        case rel => exact ⟨k + 1, by omega, by go_num, by rw [HP.out]; exact HR3.out, hw3⟩
        case measure => simp [intOf]; omega
      · have HE : Hid ((n.take k).foldl f_AppendBytes (f_AppendVarint b n.length) = nameBytes b n) := by rw [List.take_of_length_le (by omega)]; exact rfl
        go_wp2
        go_ret
        exact ⟨_, rfl, by rw [HF.out, ← HE.out]; exact HRr.out, hbr⟩
set_option maxHeartbeats 1000000 in
theorem C_spec_AppendName (w : World) (v1 : Value) (b : List UInt8) (cs : List Value) (n : List (List UInt8)) (h1 : (Ty.sl .byte).rd w [v1] b) (h2 : (Ty.sl .str).rd w cs n) (hb : b.length ≤ 1000000000000) :
    Calls Tryz.prog 103 #[v1, .agg cs.toArray] w (RetRow flatB w 5 (f_AppendName b n)) := by
  obtain ⟨A2, c2, rfl⟩ := Ty.rd_slv h2
  obtain ⟨_, _, _, _, _, n2⟩ := Ty.rd_sl h2
  have hconv : ∀ (W : World) (s : List UInt8), (convert 9 31 (vS s)).run Tryz.prog W = .ok (.slice (some ⟨W.heap.size, 0, none⟩) s.length (grownCap W s.length 0 5)) (convW W 5 s) := fun W s => run_bytes_of_string W _ _ _ ⟨s.toArray⟩ Tryz.underlying9 Tryz.underlying31 Tryz.underlying5
  go_enter Tryz.func103, Tryz.ntmps103
  have hl0 : Row flatB ((w.alloc (.cells #[.slice A2 n.length c2] 44)).alloc (.cells #[] 5)) w.heap.size 5 (.slice (some ⟨w.heap.size + 1, 0, none⟩) 0 0) [] := by
    have := Row.lit0 flatB (w.alloc (.cells #[.slice A2 n.length c2] 44)) 5 (base := w.heap.size) (by rw [World.size_alloc]; omega)
    rwa [World.size_alloc] at this
  have HL00 := Lib.hid hl0
  clear hl0
  set_option maxRecDepth 100000 in go_wp2_with (at_builtin; go_loud (refine wpList_append_row rfl _ _ 31 rfl flatB w.heap.size 5 infoB rfl Tryz.underlying31 _ _ [] b rfl rfl HL00.out (Ty.rd_below (by repeat' (first | (with_reducible exact Below.refl _ _) | (with_reducible assumption) | (with_reducible refine bel_set ?_ (by (try dsimp only); omega) _) | (with_reducible refine bel_alloc ?_ _) | (with_reducible refine bel_drewN ?_ _) | (with_reducible refine bel_drew ?_))) h1) ?_ ?_ ?_ ?_))
  case refine_1 => simp only [List.length_nil]; omega
  case refine_2 => simp only [List.length_nil]; unfold maxLen; omega
  case refine_3 => simp only [World.size_alloc]; omega
  intro v0 w0 hr0 hg0
  have hb0 : Below w.heap.size w w0 := bel_grown (by repeat' (first | (with_reducible exact Below.refl _ _) | (with_reducible assumption) | (with_reducible refine bel_set ?_ (by (try dsimp only); omega) _) | (with_reducible refine bel_alloc ?_ _) | (with_reducible refine bel_drewN ?_ _) | (with_reducible refine bel_drew ?_))) (by (try simp only [World.size_alloc, World.size_setCell, size_drewN, World.size_drew]); omega) hg0 (fun g hg => by simp [Value.ownBlock] at hg; omega)
  have hcl0 : w0.cell? ⟨w.heap.size, 0, none⟩ = some (.slice A2 n.length c2) := hg0.cell (by rw [World.cell?_alloc_lt _ _ _ (by simp only [World.size_alloc]; omega)]; exact cell_new w _ _ 0 rfl) (by simp [Value.ownBlock])
  have z0 : w.heap.size < w0.heap.size := World.block_lt_of_cell? w0 _ hcl0
  have HR0 := Lib.hid hr0
  clear hr0
  go_wp2_with fail
  refine (C_spec_ValidName _ _ _ (Ty.rd_below hb0 h2)).mono ?_
  rintro e w1 ⟨rfl, hb1⟩
  have hw1 : Below w.heap.size w w1 := bel_trans hb0 hb1
  obtain ⟨hc1, hf1⟩ := bcell hb1
  have z1 : w.heap.size < w1.heap.size := Nat.lt_of_lt_of_le z0 hb1.size
  have HR1 := Lib.hid (HR0.out.below hb1)
  have HF := Lib.hid (show f_AppendName b n = if validName n then nameBytes b n else b from rfl)
  cases hq : validName n
  · rw [hq] at HF
    go_wp2
    go_ret
    exact ⟨_, rfl, by rw [HF.out]; exact HR1.out, hw1⟩
  · rw [hq] at HF
    have HV := Lib.hid (validName_parts hq)
    have hl6 := HV.out.1
    go_wp2_with fail
    refine (C_spec_AppendVarint _ _ b (n.length : Int) (HR1.out.rd hw1.size) (by omega) (by omega)).mono ?_
    rintro e w2 ⟨u2, rfl, hr2, hb2⟩
    have hw2 : Below w.heap.size w w2 := bel_trans hw1 hb2
    have HR := Lib.hid (hr2.mono hw1.size)
    clear hr2
    have hcl2 : w2.cell? ⟨w.heap.size, 0, none⟩ = some (.slice A2 n.length c2) := (hb2.cell (p := ⟨w.heap.size, 0, none⟩) z1).trans ((hb1.cell (p := ⟨w.heap.size, 0, none⟩) z0).trans hcl0)
    have HL0 := Lib.hid (appendVarint_len b n.length)
    go_wp2
    go_loopw [5, 6] (fun l i wr => ∃ k : Nat, k ≤ n.length ∧ i = .int .i64 k ∧ Row flatB wr w.heap.size 5 l ((n.take k).foldl f_AppendBytes (f_AppendVarint b n.length)) ∧ Below w.heap.size w wr ∧ wr.cell? ⟨w.heap.size, 0, none⟩ = some (.slice A2 n.length c2)) (fun _ i _ => n.length - (intOf i).toNat)
    case atStart => exact ⟨0, by omega, rfl, HR.out, hw2, hcl2⟩
    case round =>
      obtain ⟨k, hk, rfl, hr, hbr, hcr⟩ := hrel
      have zr : w.heap.size < wr.heap.size := World.block_lt_of_cell? wr _ hcr
      have HRr := Lib.hid hr
      clear hr
      have hclr := hcr
      by_cases hlt : k < n.length
      · obtain ⟨ab, ao, rfl, e0, m0⟩ := Ty.rd_str_at (Ty.rd_below hbr h2) hlt
        have HP := Lib.hid (foldBytes_take n (f_AppendVarint b n.length) hlt)
        have HL := Lib.hid (foldBytes_len (n.take k) (f_AppendVarint b n.length) (fun s hs => HV.out.2 s (List.mem_of_mem_take hs)))
        have hp8 : n[k].length ≤ 8 := HV.out.2 _ (List.getElem_mem hlt)
        go_wp2_with fail
        refine (C_spec_AppendBytes _ _ _ ((n.take k).foldl f_AppendBytes (f_AppendVarint b n.length)) n[k] ((HRr.out.below (convW_bel wr _ _)).rd (Nat.le_trans hbr.size (convW_bel wr _ _).size)) (convW_rd wr 5 n[k] (by omega)) (by have h3 := HL.out; have h4 := HL0.out; rw [List.length_take] at h3; omega) (by omega)).mono ?_
        rintro e w3 ⟨u3, rfl, hr3, hb3⟩
        have hb3' := bel_trans (convW_bel wr _ _) hb3
        have hw3 : Below w.heap.size w w3 := bel_trans hbr hb3'
        have HR3 := Lib.hid (hr3.mono (Nat.le_trans hbr.size (convW_bel wr _ _).size))
        clear hr3
        go_wp2
        go_roundw
        case rel => exact ⟨k + 1, by omega, by go_num, by rw [HP.out]; exact HR3.out, hw3, (hb3'.cell (p := ⟨w.heap.size, 0, none⟩) zr).trans hclr⟩
        case measure => simp [intOf]; omega
      · have HE : Hid ((n.take k).foldl f_AppendBytes (f_AppendVarint b n.length) = nameBytes b n) := by rw [List.take_of_length_le (by omega)]; exact rfl
        go_wp2
        go_ret
        exact ⟨_, rfl, by rw [HF.out, ← HE.out]; exact HRr.out, hbr⟩
end Go.Proofs.YtpjnidfdkggpfaaGreat
