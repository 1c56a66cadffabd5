/- Pending interests expire. Printed by gen42.py. -/
import Derived.Test.YtpjnidfdkggpfaaCpp
import Derived.Test.YtpjnidfdkggpfaaDlf
import Derived.Test.YtpjnidfdkggpfaaNb
import Derived.Test.YtpjnidfdkggpfaaMrk
import Derived.Test.YtpjnidfdkggpfaaPnd
namespace Go.Proofs.Ytpjnidfdkggpfaa
open Go.RowKit
set_option linter.unusedVariables false
set_option linter.unusedSimpArgs false

def expired (now : Int) (r : Ty.D tRequester) : Bool := decide (r.2.2 < now)
def expE (now : Int) (q : Ty.D tPendingInterest) : Ty.D tPendingInterest := (q.1, keepR (expired now) q.2.1, q.2.2)
def hasAsk (q : Ty.D tPendingInterest) : Bool := decide (0 < List.length q.2.1)
def expK (now : Int) (l : List (Ty.D tPendingInterest)) : List (Ty.D tPendingInterest) := (l.map (expE now)).filter hasAsk
def f_ExpirePending (l : List (Ty.D tPendingInterest)) (now : Int) : List (Ty.D tPendingInterest) := expK now l
theorem expK_yes {now : Int} {l : List (Ty.D tPendingInterest)} {k : Nat} (h : k < l.length) (hp : 0 < (keepR (expired now) l[k].2.1).length) : expK now (l.take (k + 1)) = expK now (l.take k) ++ [expE now l[k]] := by
  unfold expK
  rw [List.take_succ_eq_append_getElem h, List.map_append, List.filter_append]
  have : hasAsk (expE now l[k]) = true := by unfold hasAsk expE; simpa using hp
  simp [List.filter_cons, this]
theorem expK_no {now : Int} {l : List (Ty.D tPendingInterest)} {k : Nat} (h : k < l.length) (hp : (keepR (expired now) l[k].2.1).length = 0) : expK now (l.take (k + 1)) = expK now (l.take k) := by
  unfold expK
  rw [List.take_succ_eq_append_getElem h, List.map_append, List.filter_append]
  have : hasAsk (expE now l[k]) = false := by unfold hasAsk expE; simp; exact List.eq_nil_of_length_eq_zero hp
  simp [List.filter_cons, this]
theorem expK_len (now : Int) (l : List (Ty.D tPendingInterest)) {k : Nat} (h : k ≤ l.length) : (expK now (l.take k)).length ≤ k := by
  unfold expK
  have h1 := List.length_filter_le hasAsk ((l.take k).map (expE now))
  rw [List.length_map, List.length_take] at h1
  omega
theorem bulk_reqs (l : List (Ty.D tRequester)) : Ty.bulk (.sl tRequester) l = l.length := Ty.bulk_flat (fun _ => rfl) l
theorem expK_bulk (now : Int) : ∀ (l : List (Ty.D tPendingInterest)), Ty.bulk (.sl tPendingInterest) (expK now l) ≤ Ty.bulk (.sl tPendingInterest) l
  | [] => Nat.le_refl _
  | a :: l => by
    have h2 : Ty.bulk (.sl tPendingInterest) (a :: l) = Ty.bulk (.sl tPendingInterest) [a] + Ty.bulk (.sl tPendingInterest) l := bulk_app (e := tPendingInterest) [a] l
    have h3 := expK_bulk now l
    have e : expK now (a :: l) = (if hasAsk (expE now a) then [expE now a] else []) ++ expK now l := by
      unfold expK
      rw [List.map_cons, List.filter_cons]
      split <;> simp
    rw [e]
    have h4 := bulk_one (e := tPendingInterest) a
    have h5 := bulk_one (e := tPendingInterest) (expE now a)
    have h6 : Ty.bulk tPendingInterest a = Ty.bulk (.sl .str) a.1 + (Ty.bulk (.sl tRequester) a.2.1 + 0) := rfl
    have h7 : Ty.bulk tPendingInterest (expE now a) = Ty.bulk (.sl .str) a.1 + (Ty.bulk (.sl tRequester) (keepR (expired now) a.2.1) + 0) := rfl
    have h8 := keepR_len (expired now) a.2.1
    rw [bulk_reqs] at h6 h7
    split
    · have h9 : Ty.bulk (.sl tPendingInterest) ([expE now a] ++ expK now l) = Ty.bulk (.sl tPendingInterest) [expE now a] + Ty.bulk (.sl tPendingInterest) (expK now l) := bulk_app (e := tPendingInterest) _ _
      omega
    · rw [List.nil_append]; omega
theorem N_ExpirePending {l : List (Ty.D tPendingInterest)} {now : Int} (s0 : Ty.bulk (.sl tPendingInterest) l ≤ 1048576) : Ty.cnt (.sl tPendingInterest) (f_ExpirePending l now) ≤ 100000000000 :=
  cnt_bd (t := .sl tPendingInterest) (B := 1048576) (Nat.le_trans (expK_bulk now l) s0) (by decide)
theorem ob_of {v : Value} {g n c : Nat} (h : v = .slice (some ⟨g, 0, none⟩) n c) : v.ownBlock = some g := by rw [h]; rfl
theorem GrB.keepOw {w w1 : World} {fp f : List Nat} {t : Ty} {cs : List Value} {x : t.D} (h : GrB w w1 fp) (how : t.ow w cs x f) (hd : ∀ b ∈ f, b ∉ fp) : t.ow w1 cs x f :=
  Ty.ow_keep (fun b hb => h.block b (Ty.ow_lt how b hb) (hd b hb)) how
theorem GrB.more {w w1 w2 : World} {fp fq : List Nat} (h : GrB w w1 fp) (k : GrB w1 w2 fq) : GrB w w2 (fp ++ fq) :=
  ⟨k.os.trans h.os, k.tape.trans h.tape, k.output.trans h.output, Nat.le_trans h.size k.size, fun g hg hn => (k.block g (Nat.lt_of_lt_of_le hg h.size) (fun hm => hn (List.mem_append_right _ hm))).trans (h.block g hg (fun hm => hn (List.mem_append_left _ hm)))⟩
theorem GrB.wide {w w1 : World} {fp fq : List Nat} (h : GrB w w1 fp) (hs : ∀ b ∈ fp, b < w.heap.size → b ∈ fq) : GrB w w1 fq :=
  ⟨h.os, h.tape, h.output, h.size, fun g hg hn => h.block g hg (fun hm => hn (hs g hm hg))⟩
def rowL : Option Nat → List Nat | some g => [g] | none => []
theorem GrB.ofGrown_ {w w' : World} {row : Option Nat} (h : w.grownBy w' row) : GrB w w' (rowL row) :=
  ⟨h.os, h.tape, h.output, h.size, fun g hg hn => h.block g hg (fun e => hn (by rw [← e]; exact List.mem_cons_self))⟩
theorem rowL_no {row : Option Nat} {g : Nat} (hn : g ∉ rowL row) : row ≠ some g := fun e => hn (by rw [e]; exact List.mem_cons_self)
theorem fmr_succ {α : Type} (f : Nat → List α) (k : Nat) : (List.range (k + 1)).flatMap f = (List.range k).flatMap f ++ f k := by rw [List.range_succ, List.flatMap_append]; simp
theorem fmr_apart {f : Nat → List Nat} {n i : Nat} (hn : ((List.range n).flatMap f).Nodup) {k : Nat} (hk : k ≤ i) (hi : i < n) : ∀ b ∈ f i, b ∉ (List.range k).flatMap f := by
  intro b hb hm
  obtain ⟨j, hj, hbj⟩ := List.mem_flatMap.1 hm
  have hj' := List.mem_range.1 hj
  rw [fmr_three f hi, List.nodup_append] at hn
  exact hn.2.2 b (List.mem_flatMap.2 ⟨j, List.mem_range.2 (by omega), hbj⟩) b (List.mem_append_left _ hb) rfl
theorem fmr_mem {f : Nat → List Nat} {n i : Nat} (hi : i < n) {b : Nat} (hb : b ∈ f i) : b ∈ (List.range n).flatMap f := List.mem_flatMap.2 ⟨i, List.mem_range.2 hi, hb⟩
set_option maxHeartbeats 1000000 in
theorem C_impl_ExpirePending1 (W : World) (ds : List Value) (d : Ty.D tRequester) (now : Int) (bo : Nat) (hx : Ty.rd W tRequester ds d) (ko : W.cell? ⟨bo, 0, none⟩ = some (.int .i64 now)) :
    Calls Try.prog 28 #[.agg ds.toArray, .pointer (some ⟨bo, 0, none⟩)] W (RetB W (expired now d)) := by
  obtain ⟨rfl, _, _, _⟩ := rd_Requester hx
  have lo : bo < W.heap.size := World.block_lt_of_cell? W _ ko
  have HQ : Hid (expired now d = decide (d.2.2 < now)) := rfl
  cases q0 : decide (d.2.2 < now)
  all_goals
    rw [q0] at HQ
    go_enter Try.func28, Try.ntmps28
    go_wp2
    go_ret
    exact ⟨ret_bool (by rw [HQ.out]), (by repeat' (first | (with_reducible exact Below.refl _ _) | (with_reducible assumption) | (with_reducible refine bel_set ?_ (by (try dsimp only); omega) _) | (with_reducible refine bel_alloc ?_ _) | (with_reducible refine bel_drewN ?_ _) | (with_reducible refine bel_drew ?_)))⟩
set_option maxRecDepth 100000 in
set_option maxHeartbeats 2000000 in
theorem C_impl_ExpirePending (w : World) (v : Value) (x : List (Ty.D tPendingInterest)) (now : Int) (h : (Ty.sl tPendingInterest).rd w [v] x) (s0 : Ty.bulk (.sl tPendingInterest) x ≤ 1048576) (i1 : -9223372036854775808 ≤ now ∧ now ≤ 9223372036854775807) :
    Calls Try.prog 13 #[v, .int .i64 now] w (RetSl w tPendingInterest (f_ExpirePending x now)) := by
  obtain ⟨A, c, rfl, hc, hm, hn⟩ := Ty.rd_sl h
  have hxl := Ty.bulk_len s0
  have kb0_0 : (w.alloc (.cells #[.int .i64 now] 3)).cell? ⟨w.heap.size, 0, none⟩ = some (.int .i64 now) := (cell_new w _ _ 0 (by first | rfl | simp only [World.size_alloc]))
  have hvb : Below w.heap.size w (w.alloc (.cells #[.int .i64 now] 3)) := (by repeat' (first | (with_reducible exact Below.refl _ _) | (with_reducible assumption) | (with_reducible refine bel_set ?_ (by (try dsimp only); omega) _) | (with_reducible refine bel_alloc ?_ _) | (with_reducible refine bel_drewN ?_ _) | (with_reducible refine bel_drew ?_)))
  have zb0 := Lib.hid (show (w.alloc (.cells #[.int .i64 now] 3)).heap.size = w.heap.size + 1 from by simp only [World.size_alloc])
  have zb : w.heap.size < (w.alloc (.cells #[.int .i64 now] 3)).heap.size := by simp only [World.size_alloc]; omega
  have hmf := hmf_ (P := Try.prog)
  go_enter Try.func13, Try.ntmps13
  go_wp2_with fail
  generalize (w.alloc (.cells #[.int .i64 now] 3)) = WX at kb0_0 hvb zb zb0 ⊢
  have HC : Hid (∀ V, Below WX.heap.size WX V → V.cell? ⟨w.heap.size, 0, none⟩ = some (.int .i64 now)) := fun V hW => (hW.cell (p := ⟨w.heap.size, 0, none⟩) (by dsimp only; omega)).trans kb0_0
  clear kb0_0
  have hr00 : DRowF tPendingInterest (WX.alloc (.cells #[] 56)) (w.heap.size + 1) 56 (.slice (some ⟨w.heap.size + 1, 0, none⟩) 0 0) [] [] := by have := DRowF.lit0 tPendingInterest WX 56 (base := w.heap.size + 1) (by rw [zb0.out]; exact Nat.le_refl _); rwa [zb0.out] at this
  have hvl : Below WX.heap.size WX (WX.alloc (.cells #[] 56)) := (by repeat' (first | (with_reducible exact Below.refl _ _) | (with_reducible assumption) | (with_reducible refine bel_set ?_ (by (try dsimp only); omega) _) | (with_reducible refine bel_alloc ?_ _) | (with_reducible refine bel_drewN ?_ _) | (with_reducible refine bel_drew ?_)))
  have hsl : (WX.alloc (.cells #[] 56)).heap.size = w.heap.size + 1 + 1 := by rw [World.size_alloc, zb0.out]
  generalize (WX.alloc (.cells #[] 56)) = WL at hr00 hvl hsl ⊢
  refine (C_impl_copyPending _ _ x (Ty.rd_below (bel_trans hvb hvl) h) (Nat.le_trans s0 (by decide))).mono ?_
  rintro e w1 ⟨v1, rfl, hr1, hb1⟩
  obtain ⟨A1, c1, hv1⟩ := hr1.form
  have hr1' := hr1
  obtain ⟨css, fs, hown, hel, hfri, hnown⟩ := hr1'
  have hz1 := hb1.size
  rw [hsl] at hfri
  have hw1 : Below w.heap.size w w1 := bel_trans hvb (bel_trans hvl hb1)
  have kn1 : w1.cell? ⟨w.heap.size, 0, none⟩ = some (.int .i64 now) := HC.out w1 (bel_trans hvl hb1)
  have HR00 := Lib.hid (hr00.below hb1)
  have HEL := Lib.hid hel
  have HFR := Lib.hid hfri
  have HOWN := Lib.hid hown
  have HNO := Lib.hid hnown
  have HSL := Lib.hid hsl
  have hz0 : w.heap.size + 2 ≤ w1.heap.size := by omega
  clear hr00 hel hfri hown hnown hr1 hsl
  subst hv1
  go_wp2
  go_loopw [5, 12] (fun l i wr => ∃ (k : Nat) (fpo : List Nat), k ≤ x.length ∧ i = .int .i64 k ∧ DRowF tPendingInterest wr (w.heap.size + 1) 56 l (expK now (x.take k)) fpo ∧ List.Sublist fpo ((List.range k).flatMap fs) ∧ (∀ g, l.ownBlock = some g → g = w.heap.size + 1 ∨ w1.heap.size ≤ g) ∧ GrB w1 wr ((w.heap.size + 1) :: (List.range k).flatMap fs)) (fun _ i _ => x.length - (intOf i).toNat)
  case atStart => exact ⟨0, [], by omega, rfl, HR00.out, List.nil_sublist _, fun g hg => Or.inl (ob_lit hg).symm, GrB.of (Below.refl _ _) _⟩
  case round =>
    obtain ⟨k, fpo, hk, rfl, hr, hsub, hob, hG⟩ := hrel
    have HR := Lib.hid hr
    have HSUB := Lib.hid hsub
    have HG := Lib.hid hG
    have hsz := hG.size
    have hw : Below w.heap.size w wr := HG.out.below hw1 hw1.size (fun g hg => by
      rcases List.mem_cons.1 hg with rfl | hg
      · omega
      · obtain ⟨j, hj, hb⟩ := List.mem_flatMap.1 hg
        have := HFR.out.2 g (fmr_mem (by have := List.mem_range.1 hj; omega) hb); omega)
    clear hr hsub hG
    by_cases hlt : k < x.length
    · obtain ⟨g, cap, cur, hvg, hbg, hgg, hnc2, hcm2, hcs2, htk2⟩ : ∃ g cap cur, Value.slice A1 x.length c1 = .slice (some ⟨g, 0, none⟩) x.length cap ∧ WL.heap.size ≤ g ∧ w1.heap[g]? = some (.cells cur 56 (0, 0)) ∧ x.length ≤ cap ∧ cap ≤ maxLen ∧ cur.size = cap * Ty.sz tPendingInterest ∧ cur.toList.take (x.length * Ty.sz tPendingInterest) = (List.range x.length).flatMap css := by
        rcases HOWN.out.2 with ⟨_, h0⟩ | ⟨g, cap, cur, hvg, rest⟩
        · omega
        · exact ⟨g, cap, cur, hvg, rest⟩
      injection hvg with hvg1 _ hvg2
      subst hvg1; subst hvg2
      have hgno := HNO.out g rfl
      have hgl : g < w1.heap.size := Blk.lt (t := 56) (cs := cur) hgg
      have hgr : wr.heap[g]? = w1.heap[g]? := HG.out.block g hgl (fun hm => by
        rcases List.mem_cons.1 hm with e | hm
        · rw [HSL.out] at hbg; omega
        · obtain ⟨j, hj, hb⟩ := List.mem_flatMap.1 hm
          exact hgno (fmr_mem (by have := List.mem_range.1 hj; omega) hb))
      obtain ⟨hlk, howk⟩ := HEL.out k hlt
      have hcellk : ∀ j, j < 3 → wr.cell? ⟨g, k * 3 + j, none⟩ = (css k)[j]? := fun j hj => (cell_of_heap hgr _).trans (row_cell (e := tPendingInterest) (te := 56) hgg htk2 (fun i hi => (HEL.out i hi).1) hlt hj)
      obtain ⟨d1, d2, f1, f2, hdk, hfk, hown1, d3, d4, f3, f4, hd2, hf2, hown2, ⟨hd4, hb4⟩, hf4⟩ := howk
      obtain ⟨Ae0, ce0, rfl⟩ := Ty.ow_slv hown1
      obtain ⟨Ae1, ce1, rfl⟩ := Ty.ow_slv hown2
      subst hd4; subst hd2; subst hf4; subst hf2
      have hfk' : fs k = f1 ++ f3 := by rw [hfk, List.append_nil]
      have e0 : wr.cell? ⟨g, k * 3, none⟩ = some (.slice Ae0 (List.length x[k].1) ce0) := by have := hcellk 0 (by decide); rw [hdk] at this; simpa using this
      have e1 : wr.cell? ⟨g, k * 3 + 1, none⟩ = some (.slice Ae1 (List.length x[k].2.1) ce1) := by have := hcellk 1 (by decide); rw [hdk] at this; simpa using this
      have e2 : wr.cell? ⟨g, k * 3 + 2, none⟩ = some (.int .i64 x[k].2.2) := by have := hcellk 2 (by decide); rw [hdk] at this; simpa using this
      clear hcellk
      have happ : ∀ b ∈ fs k, b ∉ (w.heap.size + 1) :: (List.range k).flatMap fs := fun b hb hm => by
        rcases List.mem_cons.1 hm with e | hm
        · have := (HFR.out.2 b (fmr_mem hlt hb)).1; omega
        · exact fmr_apart HFR.out.1 (Nat.le_refl k) hlt b hb hm
      have hm1 : ∀ b ∈ f1, b ∈ fs k := fun b hb => by rw [hfk']; exact List.mem_append_left _ hb
      have hm3 : ∀ b ∈ f3, b ∈ fs k := fun b hb => by rw [hfk']; exact List.mem_append_right _ hb
      have h13 : ∀ b ∈ f1, b ∉ f3 := fun b hb hb3 => by
        have hnd := HFR.out.1
        rw [fmr_three fs hlt, List.nodup_append] at hnd
        have hnd2 := (List.nodup_append.1 hnd.2.1).1
        rw [hfk', List.nodup_append] at hnd2
        exact hnd2.2.2 b hb b hb3 rfl
      have hlt1 : ∀ b ∈ fs k, b < w1.heap.size := fun b hb => (HFR.out.2 b (fmr_mem hlt hb)).2
      have HN1 := Lib.hid (HG.out.keepOw hown1 (fun b hb => happ b (hm1 b hb)))
      have HQ1 := Lib.hid (HG.out.keepOw hown2 (fun b hb => happ b (hm3 b hb)))
      have HAPP := Lib.hid happ
      have HM1 := Lib.hid hm1
      have HM3 := Lib.hid hm3
      have H13 := Lib.hid h13
      have HLT1 := Lib.hid hlt1
      have HFK := Lib.hid hfk'
      have hrl : (keepR (expired now) x[k].2.1).length ≤ List.length x[k].2.1 := keepR_len _ _
      obtain ⟨hb1_, hb2_⟩ := pi_bulk (Ty.bulk_at s0 hlt)
      have hql := Ty.bulk_len hb2_
      clear happ hm1 hm3 h13 hlt1 hfk' hfk hown1 hown2 htk2 hgg
      have kb0_0 : (wr.alloc (.cells #[.slice Ae0 (List.length x[k].1) ce0, .slice Ae1 (List.length x[k].2.1) ce1, .int .i64 x[k].2.2] 56)).cell? ⟨wr.heap.size, 0, none⟩ = some (.slice Ae0 (List.length x[k].1) ce0) := (cell_new wr _ _ 0 (by first | rfl | simp only [World.size_alloc]))
      have kb0_1 : (wr.alloc (.cells #[.slice Ae0 (List.length x[k].1) ce0, .slice Ae1 (List.length x[k].2.1) ce1, .int .i64 x[k].2.2] 56)).cell? ⟨wr.heap.size, 1, none⟩ = some (.slice Ae1 (List.length x[k].2.1) ce1) := (cell_new wr _ _ 1 (by first | rfl | simp only [World.size_alloc]))
      have kb0_2 : (wr.alloc (.cells #[.slice Ae0 (List.length x[k].1) ce0, .slice Ae1 (List.length x[k].2.1) ce1, .int .i64 x[k].2.2] 56)).cell? ⟨wr.heap.size, 2, none⟩ = some (.int .i64 x[k].2.2) := (cell_new wr _ _ 2 (by first | rfl | simp only [World.size_alloc]))
      have hve : Below wr.heap.size wr (wr.alloc (.cells #[.slice Ae0 (List.length x[k].1) ce0, .slice Ae1 (List.length x[k].2.1) ce1, .int .i64 x[k].2.2] 56)) := (by repeat' (first | (with_reducible exact Below.refl _ _) | (with_reducible assumption) | (with_reducible refine bel_set ?_ (by (try dsimp only); omega) _) | (with_reducible refine bel_alloc ?_ _) | (with_reducible refine bel_drewN ?_ _) | (with_reducible refine bel_drew ?_)))
      have ze0 := Lib.hid (show (wr.alloc (.cells #[.slice Ae0 (List.length x[k].1) ce0, .slice Ae1 (List.length x[k].2.1) ce1, .int .i64 x[k].2.2] 56)).heap.size = wr.heap.size + 1 from by simp only [World.size_alloc])
      have ze : wr.heap.size < (wr.alloc (.cells #[.slice Ae0 (List.length x[k].1) ce0, .slice Ae1 (List.length x[k].2.1) ce1, .int .i64 x[k].2.2] 56)).heap.size := by simp only [World.size_alloc]; omega
      have hE0 : Blk (wr.alloc (.cells #[.slice Ae0 (List.length x[k].1) ce0, .slice Ae1 (List.length x[k].2.1) ce1, .int .i64 x[k].2.2] 56)) wr.heap.size 56 #[.slice Ae0 (List.length x[k].1) ce0, .slice Ae1 (List.length x[k].2.1) ce1, .int .i64 x[k].2.2] := Blk.new _ _ _
      go_wp2_with fail
      generalize (wr.alloc (.cells #[.slice Ae0 (List.length x[k].1) ce0, .slice Ae1 (List.length x[k].2.1) ce1, .int .i64 x[k].2.2] 56)) = WE at kb0_0 kb0_1 kb0_2 hve ze ze0 hE0 ⊢
      have hE := hE0
      clear hE0 kb0_0 kb0_1 kb0_2 e0 e1 e2
      have howE : (Ty.sl tRequester).ow WE [.slice Ae1 (List.length x[k].2.1) ce1] x[k].2.1 f3 := Ty.ow_bel hve HQ1.out
      have knE : WE.cell? ⟨w.heap.size, 0, none⟩ = some (.int .i64 now) := (hve.cell (p := ⟨w.heap.size, 0, none⟩) (by dsimp only; omega)).trans ((cell_of_heap (HG.out.block w.heap.size (by omega) (fun hm => by
        rcases List.mem_cons.1 hm with e | hm
        · omega
        · obtain ⟨j, hj, hb⟩ := List.mem_flatMap.1 hm
          have := HFR.out.2 _ (fmr_mem (by have := List.mem_range.1 hj; omega) hb); omega)) 0).trans kn1)
      refine (C_DeleteFunc_Req _ _ _ x[k].2.1 f3 (expired now) 28 #[.pointer (some ⟨w.heap.size, 0, none⟩)] (enters_of Try.func28 (by kernel_rfl) rfl) howE (by omega) (fun W ds d hd hrd hW => ?_)).mono ?_
      · exact C_impl_ExpirePending1 W ds d now _ hrd ((cell_of_heap (hW.block w.heap.size (by have := hve.size; omega) (fun hm => by have := (HFR.out.2 _ (fmr_mem hlt (HM3.out _ hm))).1; omega)) 0).trans knE)
      rintro e w2 ⟨A', c', fp', rfl, how2, hsub2, hG2⟩
      have hwrE : wr.heap.size ∉ f3 := fun hm => by have := HLT1.out _ (HM3.out _ hm); omega
      have hE2 := hG2.blk hE hwrE
      have hz2 := hG2.size
      have hzE := hve.size
      have kE0 : w2.cell? ⟨wr.heap.size, 0, none⟩ = some (.slice Ae0 (List.length x[k].1) ce0) := hE2.cell 0
      have kE1 : w2.cell? ⟨wr.heap.size, 1, none⟩ = some (.slice Ae1 (List.length x[k].2.1) ce1) := hE2.cell 1
      have kE2 : w2.cell? ⟨wr.heap.size, 2, none⟩ = some (.int .i64 x[k].2.2) := hE2.cell 2
      have fE1 : w2.frozen? ⟨wr.heap.size, 1, none⟩ = false := hE2.frozen 1
      have zE2 : wr.heap.size < w2.heap.size := hE2.lt
      have hGr2 : GrB wr w2 f3 := ((GrB.of hve f3).more hG2).wide (fun b hb _ => by rcases List.mem_append.1 hb with hb | hb <;> exact hb)
      have hnoo : ∀ g, u5.ownBlock = some g → g ∉ f3 := fun g hg hm => by
        have h1 := HLT1.out _ (HM3.out _ hm)
        have h2 := (HFR.out.2 _ (fmr_mem hlt (HM3.out _ hm))).1
        rcases hob g hg with e | e <;> omega
      have hfpo : ∀ b ∈ fpo, b ∉ f3 := fun b hb hm => HAPP.out b (HM3.out b hm) (List.mem_cons_of_mem _ (HSUB.out.subset hb))
      have HRo2 := Lib.hid (HR.out.keep hGr2.size (fun b hb => hGr2.block b (HR.out.mem_lt b hb) (hfpo b hb)) (fun g hg => hGr2.block g (HR.out.block g hg).2 (hnoo g hg)))
      have HG2 := Lib.hid (HG.out.more hGr2)
      have HN2 := Lib.hid (hGr2.keepOw HN1.out (fun b hb => H13.out b hb))
      have HQ2 := Lib.hid how2
      have HSB2 := Lib.hid hsub2
      clear hnoo hfpo hG2 hGr2 howE hE2 how2 hsub2
      have hsetr : ∀ u : Value, GrB w1 (w2.setCell ⟨wr.heap.size, 1, none⟩ u) ((w.heap.size + 1) :: (List.range (k + 1)).flatMap fs) := fun u =>
        ((HG2.out.more ((GrB.of (Below.refl _ _) [wr.heap.size]).set (p := ⟨wr.heap.size, 1, none⟩) (List.mem_singleton.2 rfl) u))).wide (fun b hb hbl => by
          rw [fmr_succ, ← List.cons_append]
          rcases List.mem_append.1 hb with hb | hb
          · rcases List.mem_append.1 hb with hb | hb
            · exact List.mem_append_left _ hb
            · exact List.mem_append_right _ (HM3.out b hb)
          · have : b = wr.heap.size := by simpa using hb
            omega)
      have HSET := Lib.hid hsetr
      clear hsetr
      obtain ⟨F, hF⟩ : ∃ F, F = keepR (expired now) x[k].2.1 := ⟨_, rfl⟩
      rw [← hF] at HQ2 hrl ⊢
      have HFF := Lib.hid hF
      clear hF
      have hoR : ∀ u : Value, DRowF tPendingInterest (w2.setCell ⟨wr.heap.size, 1, none⟩ u) (w.heap.size + 1) 56 u5 (expK now (x.take k)) fpo := fun u =>
        HRo2.out.keep (by rw [World.size_setCell]; exact Nat.le_refl _) (fun b hb => Below.heap_setCell _ _ _ b (fun e => by have := HR.out.mem_lt b hb; dsimp only at e; omega)) (fun g hg => Below.heap_setCell _ _ _ g (fun e => by have := (HR.out.block g hg).2; dsimp only at e; omega))
      have HOR := Lib.hid hoR
      clear hoR
      by_cases hF0 : F.length = 0
      · have HY := Lib.hid (expK_no (now := now) hlt (by rw [← HFF.out]; exact hF0))
        have q3 : decide ((0 : Int) < (F.length : Int)) = false := by rw [hF0]; rfl
        have hF0' : ¬ 0 < F.length := by omega
        go_wp2
        go_roundw
        case rel => exact ⟨k + 1, fpo, by omega, by go_num, by rw [HY.out]; exact HOR.out _, by rw [fmr_succ]; exact HSUB.out.trans (List.sublist_append_left _ _), hob, HSET.out _⟩
        case measure => simp [intOf]; omega
      · have HY := Lib.hid (expK_yes (now := now) hlt (by rw [← HFF.out]; omega))
        have hFp : 0 < F.length := by omega
        have q3 : decide ((0 : Int) < (F.length : Int)) = true := by simp; omega
        have HL := Lib.hid (expK_len now x hk)
        have hN3 : ∀ u : Value, (Ty.sl .str).ow (w2.setCell ⟨wr.heap.size, 1, none⟩ u) [.slice Ae0 (List.length x[k].1) ce0] x[k].1 f1 := fun u => Ty.ow_keep (fun b hb => Below.heap_setCell _ _ _ b (fun e => by have := HLT1.out b (HM1.out b hb); dsimp only at e; omega)) HN2.out
        have hQ3 : ∀ u : Value, (Ty.sl tRequester).ow (w2.setCell ⟨wr.heap.size, 1, none⟩ u) [.slice A' F.length c'] F fp' := fun u => Ty.ow_keep (fun b hb => Below.heap_setCell _ _ _ b (fun e => by have := HLT1.out b (HM3.out b (HSB2.out.subset hb)); dsimp only at e; omega)) HQ2.out
        have HN3 := Lib.hid hN3
        have HQ3 := Lib.hid hQ3
        have hex : expE now x[k] = (x[k].1, F, x[k].2.2) := by unfold expE; rw [HFF.out]
        have HEX := Lib.hid hex
        clear hN3 hQ3 hF0 hex
        go_wp2_with (at_builtin; go_loud (refine wpList_append_drowF (e := tPendingInterest) rfl _ _ 31 rfl (w.heap.size + 1) 56 info_PendingInterest rfl Try.underlying31 _ _ (expK now (x.take k)) [(x[k].1, F, x[k].2.2)] fpo (f1 ++ (fp' ++ [])) (by rfl) (by rfl) ((HOR.out _).below (by repeat' (first | (with_reducible exact Below.refl _ _) | (with_reducible assumption) | (with_reducible refine bel_set ?_ (by (try dsimp only); omega) _) | (with_reducible refine bel_alloc ?_ _) | (with_reducible refine bel_drewN ?_ _) | (with_reducible refine bel_drew ?_)))) (SrcF.lit 56 (ow_PImk (x := (x[k].1, F, x[k].2.2)) (HN3.out _) (HQ3.out _) hb4) (by first | rfl | simp only [World.size_setCell])) (fun g hg hm => by
            have hmm : g ∈ fs k := by
              rcases List.mem_append.1 hm with hm | hm
              · exact HM1.out g hm
              · rw [List.append_nil] at hm; exact HM3.out g (HSB2.out.subset hm)
            have h1 := HLT1.out g hmm
            have h2 := (HFR.out.2 g (fmr_mem hlt hmm)).1
            rcases hob g hg with e | e <;> omega) (by have := HL.out; rw [List.length_singleton]; omega) (by have := HL.out; rw [List.length_singleton]; unfold maxLen; omega) (by (try simp only [World.size_alloc, World.size_setCell]); omega) ?_))
        intro v' w' hr' hg' ho'
        have hG5 := (((HSET.out (.slice A' F.length c')).then_ ((Below.refl _ _).alloc (Nat.le_refl _) _)).more (GrB.ofGrown_ hg')).wide (fq := (w.heap.size + 1) :: (List.range (k + 1)).flatMap fs) (fun b hb hbl => by
          rcases List.mem_append.1 hb with hb | hb
          · exact hb
          · cases hob5 : u5.ownBlock with
            | none => rw [hob5] at hb; exact absurd hb (by unfold rowL; simp)
            | some g5 =>
              rw [hob5] at hb
              have e : b = g5 := List.mem_singleton.1 hb
              rcases hob g5 hob5 with e5 | e5
              · rw [e, e5]; exact List.mem_cons_self
              · omega)
        have hob' : ∀ g, v'.ownBlock = some g → g = w.heap.size + 1 ∨ w1.heap.size ≤ g := fun g hg => by
          rcases ho' with ho' | ho'
          · exact hob g (by rw [← ho']; exact hg)
          · rw [ho'] at hg
            simp only [Option.some.injEq] at hg
            (try simp only [World.size_alloc, World.size_setCell] at hg)
            right; omega
        have HR' := Lib.hid hr'
        have HG5 := Lib.hid hG5
        clear hr' hg' ho' hG5
        go_wp2
        go_roundw
        case rel =>
          refine ⟨k + 1, fpo ++ (f1 ++ fp'), by omega, by go_num, by rw [HY.out, HEX.out]; exact HR'.out, ?_, hob', HG5.out⟩
          rw [fmr_succ, HFK.out]
          exact HSUB.out.append ((List.Sublist.refl _).append HSB2.out)
        case measure => simp [intOf]; omega
    · have HE : Hid (expK now (x.take k) = f_ExpirePending x now) := by unfold Hid f_ExpirePending; rw [List.take_of_length_le (by omega)]
      have hkx : k = x.length := by omega
      have hfr : FrI (w.heap.size + 1) wr.heap.size fpo := by
        refine ⟨HSUB.out.nodup (by rw [hkx]; exact HFR.out.1), fun b hb => ?_⟩
        have hm := HSUB.out.subset hb
        rw [hkx] at hm
        have := HFR.out.2 b hm
        omega
      obtain ⟨A9, c9, fp9, hv9, how9, hfr9⟩ := (HR.out.drow hfr).own
      subst hv9
      go_wp2
      go_ret
      rw [← HE.out]
      exact ⟨A9, c9, fp9, rfl, how9, hfr9.mono (by omega) (Nat.le_refl _), hw⟩
end Go.Proofs.Ytpjnidfdkggpfaa
