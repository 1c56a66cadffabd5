/- Texts of this claim, merged by a program: Tru. -/
import Derived.Test.YtldgbnlcnlfmeaaGreatMf2
import Derived.Test.YtldgbnlcnlfmeaaGreatMf8
import Derived.Test.YtldgbnlcnlfmeaaGreatMf9
import Derived.Test.YtldgbnlcnlfmeaaGreatMf14
import Derived.Deep.RegionHeld3
import Derived.Deep.DeepCutAuto
/- A trust policy drawn. Printed by gen56.py. -/
namespace Go.Proofs.YtldgbnlcnlfmeaaGreat
open Go.RowKit
set_option linter.unusedVariables false
set_option linter.unusedSimpArgs false

theorem FrI.consH {lo g hi : Nat} {f : List Nat} (h : FrI lo g f) (h1 : lo ≤ g) (h2 : g < hi) : FrI lo hi (g :: f) :=
  ⟨List.nodup_cons.2 ⟨fun hm => Nat.lt_irrefl _ (h.2 g hm).2, h.1⟩, fun b hb => by
    rcases List.mem_cons.1 hb with rfl | hb
    · exact ⟨h1, h2⟩
    · have := h.2 b hb; omega⟩
theorem ow_Key_mk {w : World} {k : Ty.D tKey} {v : Value} {f : List Nat} (h : (Ty.sl .str).ow w [v] k.1 f) (b : -9223372036854775808 ≤ k.2 ∧ k.2 ≤ 9223372036854775807) : tKey.ow w [v, .int .i64 k.2] k f :=
  ⟨[_], [_], f, [], rfl, (List.append_nil _).symm, h, ⟨rfl, b⟩, rfl⟩
theorem two_cells {a b : Value} {cur : Array Value} {m : Nat} (h0 : cur[m]? = some a) (h1 : cur[m + 1]? = some b) : ∀ j, j < 2 → cur[m + j]? = [a, b][j]? := by
  intro j hj
  rcases j with _ | _ | j
  · exact h0
  · exact h1
  · omega
theorem ow_keys4 {w : World} {g : Nat} {te : TypeId} {a1 b1 a2 b2 a3 b3 a4 b4 : Value} {x1 x2 x3 x4 : Ty.D tKey} {f1 f2 f3 f4 : List Nat} (hb : Blk w g te #[a1, b1, a2, b2, a3, b3, a4, b4]) (h1 : tKey.ow w [a1, b1] x1 f1) (h2 : tKey.ow w [a2, b2] x2 f2) (h3 : tKey.ow w [a3, b3] x3 f3) (h4 : tKey.ow w [a4, b4] x4 f4) :
    (Ty.sl tKey).ow w [.slice (some ⟨g, 0, none⟩) 4 4] [x1, x2, x3, x4] (g :: (f1 ++ (f2 ++ (f3 ++ f4)))) := by
  have := Ty.ow_mk (w := w) (e := tKey) (g := g) (o := 0) (c := 4) (t := te) (xs := [x1, x2, x3, x4]) (fun i => match i with | 0 => f1 | 1 => f2 | 2 => f3 | _ => f4) hb (by simp) (by unfold maxLen; omega) (by simp) (fun i hi => by
    rcases i with _ | _ | _ | _ | i
    · exact ⟨[a1, b1], rfl, two_cells (a := a1) (b := b1) rfl rfl, h1⟩
    · exact ⟨[a2, b2], rfl, two_cells (a := a2) (b := b2) rfl rfl, h2⟩
    · exact ⟨[a3, b3], rfl, two_cells (a := a3) (b := b3) rfl rfl, h3⟩
    · exact ⟨[a4, b4], rfl, two_cells (a := a4) (b := b4) rfl rfl, h4⟩
    · exact absurd hi (by simp))
  simpa [List.range_succ] using this
theorem ow_lit1 {w : World} {e : Ty} {g : Nat} {te : TypeId} {ds : List Value} {x : e.D} {f : List Nat} (hb : Blk w g te ds.toArray) (h : e.ow w ds x f) : (Ty.sl e).ow w [.slice (some ⟨g, 0, none⟩) 1 1] [x] (g :: f) := by
  have := Ty.ow_mk (w := w) (e := e) (g := g) (o := 0) (c := 1) (t := te) (xs := [x]) (fun _ => f) hb (by simp) (by unfold maxLen; omega) (by simp) (fun i hi => by
    obtain rfl : i = 0 := by simpa using hi
    exact ⟨ds, Ty.ow_len h, fun j hj => by simp, h⟩)
  simpa using this
def nm_kA : List (List UInt8) := [[107, 101, 121], [97]]
def nm_aK : List (List UInt8) := [[97], [107, 101, 121]]
def nm_bK : List (List UInt8) := [[98], [107, 101, 121]]
def nm_badK : List (List UInt8) := [[98, 97, 100], [107, 101, 121]]
def K4 : List (Ty.D tKey) := [(nm_kA, 100), (nm_aK, 101), (nm_bK, 102), (nm_badK, 103)]
def ru1 : List UInt8 := [47, 63, 120, 47, 107, 101, 121, 32, 60, 32, 47, 107, 101, 121, 47, 97]
def ru2 : List UInt8 := [47, 63, 120, 47, 42, 42, 32, 60, 32, 47, 63, 120, 47, 107, 101, 121]
def R2 : List (Ty.D tRule) := [(prS ru1).1, (prS ru2).1]
theorem pn_kA : (pnS [47, 107, 101, 121, 47, 97]).1 = nm_kA := by decide
theorem pn_aK : (pnS [47, 97, 47, 107, 101, 121]).1 = nm_aK := by decide
theorem pn_bK : (pnS [47, 98, 47, 107, 101, 121]).1 = nm_bK := by decide
theorem pn_badK : (pnS [47, 98, 97, 100, 47, 107, 101, 121]).1 = nm_badK := by decide
def okCert (x : Ty.D tData) : Prop := ∃ n, (n = nm_aK ∨ n = nm_bK) ∧ f1_IssueCertificate K4 n nm_kA 5000 = true ∧ x = f0_IssueCertificate K4 n nm_kA 5000
def okTrust (t : Ty.D tTrustPolicy) : Prop := t.1 = K4 ∧ t.2.1 = R2 ∧ t.2.2.1 = [nm_kA] ∧ t.2.2.2.length ≤ 2 ∧ ∀ x ∈ t.2.2.2, okCert x
theorem data_bulk {x : Ty.D tData} (h : f_ValidData x = true) : Ty.bulk tData x ≤ 168 := by
  unfold f_ValidData at h
  simp only [Bool.and_eq_true, decide_eq_true_eq] at h
  have h1 := name_bulk h.1
  have h2 := h.2.2.1
  have h3 := name_bulk h.2.2.2.1
  have h4 : Ty.bulk (.sl .byte) x.2.1 = List.length x.2.1 := Ty.bulk_flat (fun _ => rfl) _
  show Ty.bulk (.sl .str) x.1 + (Ty.bulk (.sl .byte) x.2.1 + (Ty.bulk (.sl .str) x.2.2.1 + (0 + 0))) ≤ 168
  omega
theorem okCert_valid {x : Ty.D tData} (h : okCert x) : f_ValidData x = true ∧ x.2.2.2.1 = 5000 := by
  obtain ⟨n, _, h1, rfl⟩ := h
  unfold f0_IssueCertificate f1_IssueCertificate at *
  rw [swk_yes h1]
  unfold f1_SignWithKey at h1
  simp only [Bool.and_eq_true] at h1
  exact ⟨h1.2, rfl⟩
theorem ib100 : -9223372036854775808 ≤ (100 : Int) ∧ (100 : Int) ≤ 9223372036854775807 := by decide
theorem ib101 : -9223372036854775808 ≤ (101 : Int) ∧ (101 : Int) ≤ 9223372036854775807 := by decide
theorem ib102 : -9223372036854775808 ≤ (102 : Int) ∧ (102 : Int) ≤ 9223372036854775807 := by decide
theorem ib103 : -9223372036854775808 ≤ (103 : Int) ∧ (103 : Int) ≤ 9223372036854775807 := by decide
set_option maxRecDepth 100000 in
set_option maxHeartbeats 4000000 in
theorem C_spec_l11Trust (w : World) (B : Nat) (hc : CurT w B) :
    Calls Tryz.prog 90 #[pB B] w (RetDT B w (fun e w' => ∃ v1 v2 v3 v4 t f1 f2 f3 f4 m1 m2, e = .returned (.agg #[v1, v2, v3, v4]) ∧ (Ty.sl tKey).ow w' [v1] t.1 f1 ∧ (Ty.sl tRule).ow w' [v2] t.2.1 f2 ∧ (Ty.sl (.sl .str)).ow w' [v3] t.2.2.1 f3 ∧ (Ty.sl tData).ow w' [v4] t.2.2.2 f4 ∧ FrI w.heap.size m1 f1 ∧ FrI w.heap.size m1 f3 ∧ FrI m1 m2 f2 ∧ FrI m2 w'.heap.size f4 ∧ w.heap.size ≤ m1 ∧ m1 ≤ m2 ∧ okTrust t)) := by
  have hB := hc.lt
  go_enter Tryz.func90, Tryz.ntmps90
  go_wp2_with fail
  refine (C_spec_l4Of _ [47, 107, 101, 121, 47, 97] (by decide)).mono ?_
  rintro e w1 ⟨cs1, fp1, rfl, how1, hfr1, hb1⟩
  rw [pn_kA] at how1
  obtain ⟨A1, c1, rfl⟩ := Ty.ow_slv how1
  have z1 := hb1.size
  (try simp only [World.size_alloc] at z1)
  go_wp2_with fail
  refine (C_spec_l4Of _ [47, 97, 47, 107, 101, 121] (by decide)).mono ?_
  rintro e w2 ⟨cs2, fp2, rfl, how2, hfr2, hb2⟩
  rw [pn_aK] at how2
  obtain ⟨A2, c2, rfl⟩ := Ty.ow_slv how2
  have z2 := hb2.size
  (try simp only [World.size_alloc] at z2)
  go_wp2_with fail
  refine (C_spec_l4Of _ [47, 98, 47, 107, 101, 121] (by decide)).mono ?_
  rintro e w3 ⟨cs3, fp3, rfl, how3, hfr3, hb3⟩
  rw [pn_bK] at how3
  obtain ⟨A3, c3, rfl⟩ := Ty.ow_slv how3
  have z3 := hb3.size
  (try simp only [World.size_alloc] at z3)
  go_wp2_with fail
  refine (C_spec_l4Of _ [47, 98, 97, 100, 47, 107, 101, 121] (by decide)).mono ?_
  rintro e w4 ⟨cs4, fp4, rfl, how4, hfr4, hb4⟩
  rw [pn_badK] at how4
  obtain ⟨A4, c4, rfl⟩ := Ty.ow_slv how4
  have z4 := hb4.size
  (try simp only [World.size_alloc] at z4)
  go_wp2_with fail
  refine (C_spec_l4Of _ [47, 107, 101, 121, 47, 97] (by decide)).mono ?_
  rintro e w5 ⟨cs5, fp5, rfl, how5, hfr5, hb5⟩
  rw [pn_kA] at how5
  obtain ⟨A5, c5, rfl⟩ := Ty.ow_slv how5
  have z5 := hb5.size
  (try simp only [World.size_alloc] at z5)
  go_wp2_with fail
  obtain ⟨WA, hWA⟩ : ∃ WA, WA = (((w5.alloc (Obj.cells #[Value.slice A5 nm_kA.length c5] 32)).alloc (Obj.cells #[Value.slice (some { block := w4.heap.size, off := 0 }) 4 4, Value.slice none 0 0, Value.slice (some { block := w5.heap.size, off := 0 }) 1 1, Value.slice none 0 0] 29)).alloc (Obj.cells #[vS [47, 63, 120, 47, 107, 101, 121, 32, 60, 32, 47, 107, 101, 121, 47, 97], vS [47, 63, 120, 47, 42, 42, 32, 60, 32, 47, 63, 120, 47, 107, 101, 121]] 9)) := ⟨_, rfl⟩
  have zA : WA.heap.size = w5.heap.size + 1 + 1 + 1 := by rw [hWA]; simp only [World.size_alloc]
  have hwA : Below w.heap.size w WA := by rw [hWA]; exact (by (repeat' (first | (with_reducible exact Below.refl _ _) | (with_reducible assumption) | (with_reducible refine bel_set ?_ (by (try dsimp only); omega) _) | (with_reducible refine bel_alloc ?_ _) | (with_reducible refine bel_drewN ?_ _) | (with_reducible refine bel_drew ?_) | (with_reducible refine bel_trans ?_ (by assumption)))); done)
  have hb1A : Below w1.heap.size w1 WA := by rw [hWA]; exact (by (repeat' (first | (with_reducible exact Below.refl _ _) | (with_reducible assumption) | (with_reducible refine bel_set ?_ (by (try dsimp only); omega) _) | (with_reducible refine bel_alloc ?_ _) | (with_reducible refine bel_drewN ?_ _) | (with_reducible refine bel_drew ?_) | (with_reducible refine bel_trans ?_ (by assumption)))); done)
  have hb2A : Below w2.heap.size w2 WA := by rw [hWA]; exact (by (repeat' (first | (with_reducible exact Below.refl _ _) | (with_reducible assumption) | (with_reducible refine bel_set ?_ (by (try dsimp only); omega) _) | (with_reducible refine bel_alloc ?_ _) | (with_reducible refine bel_drewN ?_ _) | (with_reducible refine bel_drew ?_) | (with_reducible refine bel_trans ?_ (by assumption)))); done)
  have hb3A : Below w3.heap.size w3 WA := by rw [hWA]; exact (by (repeat' (first | (with_reducible exact Below.refl _ _) | (with_reducible assumption) | (with_reducible refine bel_set ?_ (by (try dsimp only); omega) _) | (with_reducible refine bel_alloc ?_ _) | (with_reducible refine bel_drewN ?_ _) | (with_reducible refine bel_drew ?_) | (with_reducible refine bel_trans ?_ (by assumption)))); done)
  have hb4A : Below w4.heap.size w4 WA := by rw [hWA]; exact (by (repeat' (first | (with_reducible exact Below.refl _ _) | (with_reducible assumption) | (with_reducible refine bel_set ?_ (by (try dsimp only); omega) _) | (with_reducible refine bel_alloc ?_ _) | (with_reducible refine bel_drewN ?_ _) | (with_reducible refine bel_drew ?_) | (with_reducible refine bel_trans ?_ (by assumption)))); done)
  have hb5A : Below w5.heap.size w5 WA := by rw [hWA]; exact (by (repeat' (first | (with_reducible exact Below.refl _ _) | (with_reducible assumption) | (with_reducible refine bel_set ?_ (by (try dsimp only); omega) _) | (with_reducible refine bel_alloc ?_ _) | (with_reducible refine bel_drewN ?_ _) | (with_reducible refine bel_drew ?_) | (with_reducible refine bel_trans ?_ (by assumption)))); done)
  have hKA : Below (w4.alloc (.cells #[Value.slice A1 nm_kA.length c1, Value.int IntKind.i64 100, Value.slice A2 nm_aK.length c2, Value.int IntKind.i64 101, Value.slice A3 nm_bK.length c3, Value.int IntKind.i64 102, Value.slice A4 nm_badK.length c4, Value.int IntKind.i64 103] 68)).heap.size (w4.alloc (.cells #[Value.slice A1 nm_kA.length c1, Value.int IntKind.i64 100, Value.slice A2 nm_aK.length c2, Value.int IntKind.i64 101, Value.slice A3 nm_bK.length c3, Value.int IntKind.i64 102, Value.slice A4 nm_badK.length c4, Value.int IntKind.i64 103] 68)) WA := by rw [hWA]; exact (by (repeat' (first | (with_reducible exact Below.refl _ _) | (with_reducible assumption) | (with_reducible refine bel_set ?_ (by (try dsimp only); omega) _) | (with_reducible refine bel_alloc ?_ _) | (with_reducible refine bel_drewN ?_ _) | (with_reducible refine bel_drew ?_) | (with_reducible refine bel_trans ?_ (by assumption)))); done)
  have hRA : Below (w.alloc (.cells #[.slice none 0 0, .slice none 0 0, .slice none 0 0, .slice none 0 0] 29)).heap.size (w.alloc (.cells #[.slice none 0 0, .slice none 0 0, .slice none 0 0, .slice none 0 0] 29)) WA := by rw [hWA]; exact (by (repeat' (first | (with_reducible exact Below.refl _ _) | (with_reducible assumption) | (with_reducible refine bel_set ?_ (by (try dsimp only); omega) _) | (with_reducible refine bel_alloc ?_ _) | (with_reducible refine bel_drewN ?_ _) | (with_reducible refine bel_drew ?_) | (with_reducible refine bel_trans ?_ (by assumption)))); done)
  have hR := (Blk.new w 29 #[.slice none 0 0, .slice none 0 0, .slice none 0 0, .slice none 0 0]).below hRA (by rw [World.size_alloc]; omega)
  have hK := (Blk.new w4 _ _).below hKA (by rw [World.size_alloc]; omega)
  have hN : Blk WA w5.heap.size 32 #[.slice A5 nm_kA.length c5] := by rw [hWA]; exact ((Blk.new w5 _ _).alloc _).alloc _
  have hT : Blk WA (w5.heap.size + 1) 29 #[Value.slice (some { block := w4.heap.size, off := 0 }) 4 4, Value.slice none 0 0, Value.slice (some { block := w5.heap.size, off := 0 }) 1 1, Value.slice none 0 0] := by
    rw [hWA]; have := (Blk.new (w5.alloc (Obj.cells #[Value.slice A5 nm_kA.length c5] 32)) 29 #[Value.slice (some { block := w4.heap.size, off := 0 }) 4 4, Value.slice none 0 0, Value.slice (some { block := w5.heap.size, off := 0 }) 1 1, Value.slice none 0 0]).alloc (.cells #[vS ru1, vS ru2] 9)
    rwa [World.size_alloc] at this
  have hL : Blk WA (w5.heap.size + 1 + 1) 9 #[vS ru1, vS ru2] := by
    rw [hWA]; have := Blk.new ((w5.alloc (Obj.cells #[Value.slice A5 nm_kA.length c5] 32)).alloc (Obj.cells #[Value.slice (some { block := w4.heap.size, off := 0 }) 4 4, Value.slice none 0 0, Value.slice (some { block := w5.heap.size, off := 0 }) 1 1, Value.slice none 0 0] 29)) 9 #[vS [47, 63, 120, 47, 107, 101, 121, 32, 60, 32, 47, 107, 101, 121, 47, 97], vS [47, 63, 120, 47, 42, 42, 32, 60, 32, 47, 63, 120, 47, 107, 101, 121]]
    simp only [World.size_alloc] at this
    exact this
  have hok := ow_keys4 (x1 := (nm_kA, 100)) (x2 := (nm_aK, 101)) (x3 := (nm_bK, 102)) (x4 := (nm_badK, 103)) hK (ow_Key_mk (k := (nm_kA, 100)) (owBel how1 hb1A) ib100) (ow_Key_mk (k := (nm_aK, 101)) (owBel how2 hb2A) ib101) (ow_Key_mk (k := (nm_bK, 102)) (owBel how3 hb3A) ib102) (ow_Key_mk (k := (nm_badK, 103)) (owBel how4 hb4A) ib103)
  have hoa := ow_lit1 (ds := [.slice A5 nm_kA.length c5]) hN (owBel how5 hb5A)
  have z4' : w4.heap.size < w5.heap.size := by omega
  have hfk : FrI (w.heap.size + 1) (w5.heap.size + 1) (w4.heap.size :: (fp1 ++ (fp2 ++ (fp3 ++ fp4)))) := by
    refine FrI.consH ?_ (by omega) (by omega)
    exact FrI.app (hfr1.mono (lo' := w.heap.size + 1) (by rw [World.size_alloc]; omega) (Nat.le_refl _)) (FrI.app hfr2 (FrI.app hfr3 hfr4 (by omega) (by omega) (by omega)) (by omega) (by omega) (by omega)) (by omega) (by omega) (by omega)
  have hfa : FrI (w.heap.size + 1) (w5.heap.size + 1) (w5.heap.size :: fp5) := by
    exact FrI.consH (hfr5.mono (by rw [World.size_alloc]; omega) (Nat.le_refl _)) (by omega) (by omega)
  have DA : Dr B w WA := Dr.of hwA B
  have CA := hc.below hwA
  rw [← hWA]
  have hB1 : B < w5.heap.size := by omega
  clear hWA hwA hb1 hb2 hb3 hb4 hb5 hb1A hb2A hb3A hb4A hb5A hKA hRA hK hN how1 how2 how3 how4 how5 hfr1 hfr2 hfr3 hfr4 hfr5
  obtain ⟨fk, hfk'⟩ : ∃ f, f = (w4.heap.size :: (fp1 ++ (fp2 ++ (fp3 ++ fp4)))) := ⟨_, rfl⟩
  obtain ⟨fa, hfa'⟩ : ∃ f, f = (w5.heap.size :: fp5) := ⟨_, rfl⟩
  rw [← hfk'] at hok hfk
  rw [← hfa'] at hoa hfa
  clear hfk' hfa'
  rw [show [((nm_kA, 100) : Ty.D tKey), (nm_aK, 101), (nm_bK, 102), (nm_badK, 103)] = K4 from rfl] at hok
  obtain ⟨kA, hkA⟩ : ∃ k : Addr, k = ⟨w4.heap.size, 0, none⟩ := ⟨_, rfl⟩
  obtain ⟨nA, hnA⟩ : ∃ k : Addr, k = ⟨w5.heap.size, 0, none⟩ := ⟨_, rfl⟩
  rw [← hkA] at hT hok ⊢
  rw [← hnA] at hT hoa ⊢
  clear hkA hnA
  obtain ⟨T, hTT⟩ : ∃ T, T = w5.heap.size + 1 := ⟨_, rfl⟩
  rw [← hTT] at hT hfk hfa zA hL ⊢
  have zT : w.heap.size + 1 < T := by omega
  have zBT : B < T := by omega
  have zA2 : T + 2 ≤ WA.heap.size := by omega
  clear hTT zA z1 z2 z3 z4 z5 z4' hB1
  go_loopw [26] (fun i wr => ∃ (k : Nat) (v2 : Value) (rk : List (Ty.D tRule)), i = .int .i64 k ∧ k ≤ 2 ∧ rk = R2.take k ∧ CurT wr B ∧ Dr B w wr ∧ Blk wr w.heap.size 29 #[.slice none 0 0, .slice none 0 0, .slice none 0 0, .slice none 0 0] ∧ Blk wr T 29 #[.slice (some kA) 4 4, v2, .slice (some nA) 1 1, .slice none 0 0] ∧ Blk wr (T + 1) 9 #[vS ru1, vS ru2] ∧ (Ty.sl tKey).ow wr [.slice (some kA) 4 4] K4 fk ∧ (Ty.sl (.sl .str)).ow wr [.slice (some nA) 1 1] [nm_kA] fa ∧ T + 2 ≤ wr.heap.size ∧ DRow tRule wr (T + 2) 128 v2 rk) (fun i _ => 2 - (intOf i).toNat)
  case atStart => exact ⟨0, _, [], rfl, by omega, rfl, CA, DA, hR, hT, hL, hok, hoa, zA2, DRow.nil _ _ _ _⟩
  case round =>
    obtain ⟨k, v2, rk, rfl, hk2, hrk, hcr, hdr, hR', hT', hL', hok', hoa', zr, hR2⟩ := hrel
    clear hR hT hL hok hoa CA DA
    have HRK := Lib.hid hrk
    have hl1 : rk.length ≤ 2 := by rw [hrk]; simp only [List.length_take]; omega
    clear hrk
    have kT0 : wr.cell? ⟨T, 0, none⟩ = some (.slice (some kA) 4 4) := hT'.cell 0
    have kT1 : wr.cell? ⟨T, 1, none⟩ = some v2 := hT'.cell 1
    obtain ⟨A7, c7, rfl⟩ := hR2.form
    have HR := Lib.hid hR2
    clear hR2
    by_cases hlt : k < 2
    · obtain ⟨sk, ek, htk, hsk⟩ : ∃ s : List UInt8, wr.cell? ⟨T + 1, k, none⟩ = some (vS s) ∧ R2.take (k + 1) = R2.take k ++ [(prS s).1] ∧ s.length ≤ 1000 := by
        rcases (show k = 0 ∨ k = 1 by omega) with rfl | rfl
        · exact ⟨ru1, hL'.cell 0, rfl, by decide⟩
        · exact ⟨ru2, hL'.cell 1, rfl, by decide⟩
      have i3 : (0 : Int) ≤ (k : Int) := by omega
      have i4 : (k : Int) < 2 := by omega
      go_wp2_with fail
      refine (C_spec_ParseRule _ sk (by omega)).mono ?_
      rintro e w6 ⟨cs6, fp6, rfl, how6, hfr6, hb6⟩
      generalize (prS sk).1 = ry at how6 htk ⊢
      obtain ⟨A6, c6, A8, c8, rfl⟩ := ow_Rule how6
      have z6 := hb6.size
      have hT6 := hT'.below hb6 (by omega)
      have zT6 : T < w6.heap.size := hT6.lt
      have kT6 : w6.cell? ⟨T, 1, none⟩ = some (.slice A7 (List.length rk) c7) := hT6.cell 1
      have HTK := Lib.hid htk
      clear htk
      set_option maxRecDepth 100000 in go_wp2_with (at_builtin; go_loud (refine wpList_append_drow (e := tRule) rfl _ _ 25 rfl wr (T + 2) 128 info_Rule rfl Tryz.underlying25 _ _ rk [ry] (by rfl) (by rfl) HR.out (bel_alloc (bel_alloc hb6 _) _) (Src.litE 128 (owAlloc how6 _) (hfr6.mono (Nat.le_refl _) (by simp only [World.size_alloc]; omega)) (by simp only [World.size_alloc])) ?_ ?_ ?_ ?_))
      case refine_1 => simp only [List.length_singleton]; omega
      case refine_2 => simp only [List.length_singleton]; unfold maxLen; omega
      case refine_3 => omega
      intro v' w' hr' hg'
      have hr2 : DRow tRule w' (T + 2) 128 v' (rk ++ [ry]) := hr'
      have hbl := HR.out.block
      have hg0 : ∀ g, (Value.slice A7 (List.length rk) c7).ownBlock = some g → T + 2 ≤ g := fun g hg => (hbl g hg).1
      have hne : ∀ g, g < T + 2 → some g ≠ (Value.slice A7 (List.length rk) c7).ownBlock := fun g hg e => by have := hg0 _ e.symm; omega
      have zg := hg'.size
      simp only [World.size_alloc] at zg
      have D4 : Dr B w w' := Dr.grown (Dr.alloc (Dr.alloc (Dr.then_ hdr hb6) _) _) hg' (fun g hg => by have := hg0 g hg; omega)
      have C4 : CurT w' B := Cur.grown (Cur.alloc (Cur.alloc (Cur.below hcr hb6) _) _) hg' (fun g hg => by have := hg0 g hg; omega)
      have hT9 := ((hT6.alloc (.cells #[.slice A6 (List.length ry.1) c6, .slice A8 (List.length ry.2) c8] 128)).alloc (.cells #[.slice A6 (List.length ry.1) c6, .slice A8 (List.length ry.2) c8] 128)).grown hg' (hne T (by omega))
      have hR9 := (((hR'.below hb6 (by omega)).alloc (.cells #[.slice A6 (List.length ry.1) c6, .slice A8 (List.length ry.2) c8] 128)).alloc (.cells #[.slice A6 (List.length ry.1) c6, .slice A8 (List.length ry.2) c8] 128)).grown hg' (hne w.heap.size (by omega))
      have hL9 := (((hL'.below hb6 (by omega)).alloc (.cells #[.slice A6 (List.length ry.1) c6, .slice A8 (List.length ry.2) c8] 128)).alloc (.cells #[.slice A6 (List.length ry.1) c6, .slice A8 (List.length ry.2) c8] 128)).grown hg' (hne (T + 1) (by omega))
      have hok9 := owGrown (owAlloc (owAlloc (owBel hok' hb6) _) _) hfk hg' (fun g hg => by have := hg0 g hg; omega)
      have hoa9 := owGrown (owAlloc (owAlloc (owBel hoa' hb6) _) _) hfa hg' (fun g hg => by have := hg0 g hg; omega)
      have kT9 : w'.cell? ⟨T, 1, none⟩ = some (.slice A7 (List.length rk) c7) := hT9.cell 1
      have fT9 : w'.frozen? ⟨T, 1, none⟩ = false := hT9.f1
      have HL9 := Lib.hid (show (rk ++ [ry]).length = rk.length + 1 by simp)
      obtain ⟨A9, c9, rfl⟩ := hr2.form
      rw [HL9.out] at hr2
      have HR9 := Lib.hid hr2
      clear hr' hr2 hg' hg0 hbl
      go_wp2
      go_roundw
      case rel => exact ⟨k + 1, _, rk ++ [ry], by go_num, by omega, by rw [HTK.out, HRK.out], Cur.far C4 zBT _, Dr.set D4 (.inr (by dsimp only; omega)) _, hR9.far (by dsimp only; omega) _, hT9.set_ 1 _, hL9.far (by dsimp only; omega) _, owSetH hok9 hfk (by dsimp only; omega) _, owSetH hoa9 hfa (by dsimp only; omega) _, by rw [World.size_setCell]; omega, DRow.setN (p := ⟨T, 1, none⟩) HR9.out (by dsimp only; omega) _⟩
      case measure => simp [intOf]; omega
    · obtain ⟨f2, ho2, hf2⟩ := HR.out.ow_
      have hR2 : rk = R2 := by rw [HRK.out, show k = 2 by omega]; rfl
      subst hR2
      go_wp2_with fail
      obtain ⟨WB, hWB⟩ : ∃ WB, WB = (wr.alloc (Obj.cells #[vS [47, 97, 47, 107, 101, 121], vS [47, 98, 47, 107, 101, 121]] 9)) := ⟨_, rfl⟩
      obtain ⟨L2, hL2⟩ : ∃ L, L = wr.heap.size := ⟨_, rfl⟩
      have zW : WB.heap.size = L2 + 1 := by rw [hWB, hL2, World.size_alloc]
      have hL : Blk WB L2 9 #[vS [47, 97, 47, 107, 101, 121], vS [47, 98, 47, 107, 101, 121]] := by rw [hWB, hL2]; exact Blk.new _ _ _
      have CB : CurT WB B := by rw [hWB]; exact Cur.alloc hcr _
      have DB : Dr B w WB := by rw [hWB]; exact Dr.alloc hdr _
      have hRB : Blk WB w.heap.size 29 #[.slice none 0 0, .slice none 0 0, .slice none 0 0, .slice none 0 0] := by rw [hWB]; exact hR'.alloc _
      have hTB : Blk WB T 29 #[.slice (some kA) 4 4, .slice A7 (List.length R2) c7, .slice (some nA) 1 1, .slice none 0 0] := by rw [hWB]; exact hT'.alloc _
      have hokB : (Ty.sl tKey).ow WB [.slice (some kA) 4 4] K4 fk := by rw [hWB]; exact owAlloc hok' _
      have hoaB : (Ty.sl (.sl .str)).ow WB [.slice (some nA) 1 1] [nm_kA] fa := by rw [hWB]; exact owAlloc hoa' _
      have horB : (Ty.sl tRule).ow WB [.slice A7 (List.length R2) c7] R2 f2 := by rw [hWB]; exact owAlloc ho2 _
      rw [← hWB, ← hL2]
      rw [← hL2] at hf2 zr
      clear hWB hL2 hcr hdr hR' hT' hL' hok' hoa' ho2 kT0 kT1 HR HRK hl1
      generalize List.length R2 = nR at *
      go_loopw [44] (fun i wr => ∃ (k : Nat) (v4 : Value) (x4 : List (Ty.D tData)), i = .int .i64 k ∧ k ≤ 2 ∧ x4.length ≤ k ∧ (∀ x ∈ x4, okCert x) ∧ CurT wr B ∧ Dr B w wr ∧ Blk wr w.heap.size 29 #[.slice none 0 0, .slice none 0 0, .slice none 0 0, .slice none 0 0] ∧ Blk wr T 29 #[.slice (some kA) 4 4, .slice A7 nR c7, .slice (some nA) 1 1, v4] ∧ Blk wr L2 9 #[vS [47, 97, 47, 107, 101, 121], vS [47, 98, 47, 107, 101, 121]] ∧ (Ty.sl tKey).ow wr [.slice (some kA) 4 4] K4 fk ∧ (Ty.sl (.sl .str)).ow wr [.slice (some nA) 1 1] [nm_kA] fa ∧ (Ty.sl tRule).ow wr [.slice A7 nR c7] R2 f2 ∧ L2 + 1 ≤ wr.heap.size ∧ DRow tData wr (L2 + 1) 34 v4 x4) (fun i _ => 2 - (intOf i).toNat)
      case atStart => exact ⟨0, _, [], rfl, by omega, by simp, by simp, CB, DB, hRB, hTB, hL, hokB, hoaB, horB, by omega, DRow.nil _ _ _ _⟩
      case round =>
        obtain ⟨k, v4, x4, rfl, hk2, hx4, hcs, hcq, hdq, hRq, hTq, hLq, hokq, hoaq, horq, zq, hR4⟩ := hrel
        clear CB DB hRB hTB hL hokB hoaB horB zW hlt
        obtain ⟨A9, c9, rfl⟩ := hR4.form
        have HR4 := Lib.hid hR4
        have HCS := Lib.hid hcs
        clear hR4 hcs
        have kT0 : wr.cell? ⟨T, 0, none⟩ = some (.slice (some kA) 4 4) := hTq.cell 0
        have kT1 : wr.cell? ⟨T, 1, none⟩ = some (.slice A7 nR c7) := hTq.cell 1
        have kT2 : wr.cell? ⟨T, 2, none⟩ = some (.slice (some nA) 1 1) := hTq.cell 2
        have kT3 : wr.cell? ⟨T, 3, none⟩ = some (.slice A9 (List.length x4) c9) := hTq.cell 3
        have zTq : T < wr.heap.size := hTq.lt
        by_cases hlt : k < 2
        · obtain ⟨sk, n, ek, hn, hnn, hsk⟩ : ∃ (s : List UInt8) (n : List (List UInt8)), wr.cell? ⟨L2, k, none⟩ = some (vS s) ∧ (pnS s).1 = n ∧ (n = nm_aK ∨ n = nm_bK) ∧ s.length ≤ 1000 := by
            rcases (show k = 0 ∨ k = 1 by omega) with rfl | rfl
            · exact ⟨[47, 97, 47, 107, 101, 121], nm_aK, hLq.cell 0, pn_aK, .inl rfl, by decide⟩
            · exact ⟨[47, 98, 47, 107, 101, 121], nm_bK, hLq.cell 1, pn_bK, .inr rfl, by decide⟩
          have HNN := Lib.hid hnn
          have hnb : Ty.bulk (.sl .str) n ≤ 1048576 := by rcases hnn with rfl | rfl <;> decide
          clear hnn
          have i3 : (0 : Int) ≤ (k : Int) := by omega
          have i4 : (k : Int) < 2 := by omega
          have HC : Hid (∀ V, Below wr.heap.size wr V → V.cell? ⟨T, 0, none⟩ = some (.slice (some kA) 4 4)) := fun V hV => (hV.cell (p := ⟨T, 0, none⟩) zTq).trans kT0
          go_upto_region 11 with fail
          go_cut [10, 11] (fun sp sq wx => ∃ (g : Nat) (B0 : Option Addr) (d0 : Nat) (B1 : Option Addr) (d1 : Nat) (B2 : Option Addr) (d2 : Nat) (fp : List Nat), sp = .pointer (some ⟨g, 0, none⟩) ∧ sq = .bool (f1_IssueCertificate K4 n nm_kA 5000) ∧ Blk wx g 34 #[.slice B0 (List.length (f0_IssueCertificate K4 n nm_kA 5000).1) d0, .slice B1 (List.length (f0_IssueCertificate K4 n nm_kA 5000).2.1) d1, .slice B2 (List.length (f0_IssueCertificate K4 n nm_kA 5000).2.2.1) d2, .int .i64 (f0_IssueCertificate K4 n nm_kA 5000).2.2.2.1, .int .i64 (f0_IssueCertificate K4 n nm_kA 5000).2.2.2.2] ∧ Ty.ow wx tData [.slice B0 (List.length (f0_IssueCertificate K4 n nm_kA 5000).1) d0, .slice B1 (List.length (f0_IssueCertificate K4 n nm_kA 5000).2.1) d1, .slice B2 (List.length (f0_IssueCertificate K4 n nm_kA 5000).2.2.1) d2, .int .i64 (f0_IssueCertificate K4 n nm_kA 5000).2.2.2.1, .int .i64 (f0_IssueCertificate K4 n nm_kA 5000).2.2.2.2] (f0_IssueCertificate K4 n nm_kA 5000) fp ∧ FrI wr.heap.size wx.heap.size fp ∧ Below wr.heap.size wr wx)
          case first =>
            go_wp2_with fail
            refine wp_region_noPanic ?_
            refine wp_region_held_drew (S := (fun W => W.cell? ⟨T, 0, none⟩ = some (.slice (some kA) 4 4))) (by kernel_rfl) ?_ (fun hHeld => ?_)
            · exact HC.out _ (by (repeat' (first | (with_reducible exact Below.refl _ _) | (with_reducible assumption) | (with_reducible refine bel_set ?_ (by (try dsimp only); omega) _) | (with_reducible refine bel_alloc ?_ _) | (with_reducible refine bel_drewN ?_ _) | (with_reducible refine bel_drew ?_) | (with_reducible refine bel_trans ?_ (by assumption)))); done)
            refine tk 0 (opN rfl) (by kernel_rfl) (by rfl) (by (intro w hSw; (try dsimp only at hSw); go_simp; first | done | with_reducible rfl)) (by assumption) ?_
            try simp only [Act.put, List.setIfInBounds_toArray, List.set_cons_zero, List.set_cons_succ]
            refine tk 2 (opN rfl) (by kernel_rfl) (by rfl) (by (intro w hSw; (try dsimp only at hSw); go_simp; first | done | with_reducible rfl)) (by assumption) ?_
            try simp only [Act.put, List.setIfInBounds_toArray, List.set_cons_zero, List.set_cons_succ]
            refine tk 1 (opN rfl) (by kernel_rfl) (by rfl) (by (intro w hSw; (try dsimp only at hSw); go_simp; first | done | with_reducible rfl)) (by assumption) ?_
            try simp only [Act.put, List.setIfInBounds_toArray, List.set_cons_zero, List.set_cons_succ]
            refine wpAnyH_ready (rs := [3, 9]) (by kernel_rfl) (by simp) ?_
            refine (AllReadyH.cons (opN rfl) (fun K hK => ?_) (AllReadyH.cons (opN rfl) (fun K hK => ?_) AllReadyH.nil))
            · go_simp
              go_at_call 62
              refine (C_spec_l4Of _ sk (by omega)).mono ?_
              rintro e wa ⟨csa, fpa, rfl, howa, hfra, hba⟩
              have hza := hba.size
              try simp only [World.size_alloc, World.size_drew, size_drewN] at hza
              rw [hn] at howa
              obtain ⟨Aa, ca, rfl⟩ := Ty.ow_slv howa
              refine hK.out _ _ ?_ (fun hHeld => ?_)
              · (try dsimp only)
                exact HC.out _ (by (repeat' (first | (with_reducible exact Below.refl _ _) | (with_reducible assumption) | (with_reducible refine bel_set ?_ (by (try dsimp only); omega) _) | (with_reducible refine bel_alloc ?_ _) | (with_reducible refine bel_drewN ?_ _) | (with_reducible refine bel_drew ?_) | (with_reducible refine bel_trans ?_ (by assumption)))); done)
              clear hK K
              try simp only [Act.put, List.setIfInBounds_toArray, List.set_cons_zero, List.set_cons_succ]
              refine wpAnyH_ready (rs := [4, 9]) (by kernel_rfl) (by simp) ?_
              refine (AllReadyH.cons (opN rfl) (fun K hK => ?_) (AllReadyH.cons (opN rfl) (fun K hK => ?_) AllReadyH.nil))
              · go_simp
                go_at_call 62
                refine (C_spec_l4Of _ [47, 107, 101, 121, 47, 97] (by decide)).mono ?_
                rintro e wb ⟨csb, fpb, rfl, howb, hfrb, hbb⟩
                have hzb := hbb.size
                try simp only [World.size_alloc, World.size_drew, size_drewN] at hzb
                rw [pn_kA] at howb
                obtain ⟨Ab, cb, rfl⟩ := Ty.ow_slv howb
                refine hK.out _ _ ?_ (fun hHeld => ?_)
                · (try dsimp only)
                  exact HC.out _ (by (repeat' (first | (with_reducible exact Below.refl _ _) | (with_reducible assumption) | (with_reducible refine bel_set ?_ (by (try dsimp only); omega) _) | (with_reducible refine bel_alloc ?_ _) | (with_reducible refine bel_drewN ?_ _) | (with_reducible refine bel_drew ?_) | (with_reducible refine bel_trans ?_ (by assumption)))); done)
                clear hK K
                try simp only [Act.put, List.setIfInBounds_toArray, List.set_cons_zero, List.set_cons_succ]
                refine wpAnyH_ready (rs := [5, 9]) (by kernel_rfl) (by simp) ?_
                refine (AllReadyH.cons (opN rfl) (fun K hK => ?_) (AllReadyH.cons (opN rfl) (fun K hK => ?_) AllReadyH.nil))
                · go_simp
                  go_at_call 15
                  refine (C_spec_IssueCertificate _ _ K4 [_] n [_] nm_kA 5000 (Ty.rd_below (by (repeat' (first | (with_reducible exact Below.refl _ _) | (with_reducible assumption) | (with_reducible refine bel_set ?_ (by (try dsimp only); omega) _) | (with_reducible refine bel_alloc ?_ _) | (with_reducible refine bel_drewN ?_ _) | (with_reducible refine bel_drew ?_) | (with_reducible refine bel_trans ?_ (by assumption)))); done) (Ty.ow_rd hokq)) (Ty.rd_below (by (repeat' (first | (with_reducible exact Below.refl _ _) | (with_reducible assumption) | (with_reducible refine bel_set ?_ (by (try dsimp only); omega) _) | (with_reducible refine bel_alloc ?_ _) | (with_reducible refine bel_drewN ?_ _) | (with_reducible refine bel_drew ?_) | (with_reducible refine bel_trans ?_ (by assumption)))); done) (Ty.ow_rd howa)) (Ty.rd_below (by (repeat' (first | (with_reducible exact Below.refl _ _) | (with_reducible assumption) | (with_reducible refine bel_set ?_ (by (try dsimp only); omega) _) | (with_reducible refine bel_alloc ?_ _) | (with_reducible refine bel_drewN ?_ _) | (with_reducible refine bel_drew ?_) | (with_reducible refine bel_trans ?_ (by assumption)))); done) (Ty.ow_rd howb)) (by decide) hnb (by decide) (by decide)).mono ?_
                  rintro e wd ⟨csd, fpd, rfl, howd, hfrd, hbd⟩
                  have hzd := hbd.size
                  try simp only [World.size_alloc, World.size_drew, size_drewN] at hzd
                  obtain ⟨B0, d0, B1, d1, B2, d2, rfl⟩ := ow_Data howd
                  refine hK.out _ _ ?_ (fun hHeld => ?_)
                  · (try dsimp only)
                    exact HC.out _ (by (repeat' (first | (with_reducible exact Below.refl _ _) | (with_reducible assumption) | (with_reducible refine bel_set ?_ (by (try dsimp only); omega) _) | (with_reducible refine bel_alloc ?_ _) | (with_reducible refine bel_drewN ?_ _) | (with_reducible refine bel_drew ?_) | (with_reducible refine bel_trans ?_ (by assumption)))); done)
                  clear hK K
                  try simp only [Act.put, List.setIfInBounds_toArray, List.set_cons_zero, List.set_cons_succ]
                  refine tk 6 (opN rfl) (by kernel_rfl) (by rfl) (by (intro w hSw; (try dsimp only at hSw); go_simp; first | done | with_reducible rfl)) (by assumption) ?_
                  try simp only [Act.put, List.setIfInBounds_toArray, List.set_cons_zero, List.set_cons_succ]
                  refine tk 7 (opN rfl) (by kernel_rfl) (by rfl) (by (intro w hSw; (try dsimp only at hSw); go_simp; first | done | with_reducible rfl)) (by assumption) ?_
                  try simp only [Act.put, List.setIfInBounds_toArray, List.set_cons_zero, List.set_cons_succ]
                  refine tk 8 (opN rfl) (by kernel_rfl) (by rfl) (by (intro w hSw; (try dsimp only at hSw); go_simp; first | done | with_reducible rfl)) (by assumption) ?_
                  try simp only [Act.put, List.setIfInBounds_toArray, List.set_cons_zero, List.set_cons_succ]
                  refine wpAnyH_ready (rs := [9]) (by kernel_rfl) (by simp) ?_
                  refine (AllReadyH.cons (opN rfl) (fun K hK => ?_) AllReadyH.nil)
                  go_simp
                  refine hK.out _ _ ?_ (fun hHeld => ?_)
                  · (try dsimp only)
                    exact HC.out _ (by (repeat' (first | (with_reducible exact Below.refl _ _) | (with_reducible assumption) | (with_reducible refine bel_set ?_ (by (try dsimp only); omega) _) | (with_reducible refine bel_alloc ?_ _) | (with_reducible refine bel_drewN ?_ _) | (with_reducible refine bel_drew ?_) | (with_reducible refine bel_trans ?_ (by assumption)))); done)
                  clear hK K
                  try simp only [Act.put, List.setIfInBounds_toArray, List.set_cons_zero, List.set_cons_succ]
                  refine wpAnyH_ready (rs := [10]) (by kernel_rfl) (by simp) ?_
                  refine (AllReadyH.cons (opN rfl) (fun K hK => ?_) AllReadyH.nil)
                  go_simp
                  refine hK.out _ _ ?_ (fun hHeld => ?_)
                  · (try dsimp only)
                    exact HC.out _ (by (repeat' (first | (with_reducible exact Below.refl _ _) | (with_reducible assumption) | (with_reducible refine bel_set ?_ (by (try dsimp only); omega) _) | (with_reducible refine bel_alloc ?_ _) | (with_reducible refine bel_drewN ?_ _) | (with_reducible refine bel_drew ?_) | (with_reducible refine bel_trans ?_ (by assumption)))); done)
                  clear hK K
                  try simp only [Act.put, List.setIfInBounds_toArray, List.set_cons_zero, List.set_cons_succ]
                  refine tk 11 (opN rfl) (by kernel_rfl) (by rfl) (by (intro w hSw; (try dsimp only at hSw); go_simp; first | done | with_reducible rfl)) (by assumption) ?_
                  try simp only [Act.put, List.setIfInBounds_toArray, List.set_cons_zero, List.set_cons_succ]
                  refine wpAnyH_done (by kernel_rfl) ?_ _
                  refine NoPanic.normal ?_
                  go_wp2_with fail
                  go_meet
                  refine ⟨_, B0, d0, B1, d1, B2, d2, fpd, rfl, rfl, ?_, ?_, ?_, ?_⟩
                  · exact Blk.new _ _ _
                  · exact Ty.ow_bel (bel_alloc (Below.refl _ _) _) howd
                  · exact hfrd.mono (by (try simp only [World.size_alloc, World.size_setCell, World.size_drew, size_drewN]); omega) (by (try simp only [World.size_alloc, World.size_setCell, World.size_drew, size_drewN]); omega)
                  · exact (by (repeat' (first | (with_reducible exact Below.refl _ _) | (with_reducible assumption) | (with_reducible refine bel_set ?_ (by (try dsimp only); omega) _) | (with_reducible refine bel_alloc ?_ _) | (with_reducible refine bel_drewN ?_ _) | (with_reducible refine bel_drew ?_) | (with_reducible refine bel_trans ?_ (by assumption)))); done)
                · go_simp
                  refine hK.out _ _ ?_ (fun hHeld => ?_)
                  · (try dsimp only)
                    exact HC.out _ (by (repeat' (first | (with_reducible exact Below.refl _ _) | (with_reducible assumption) | (with_reducible refine bel_set ?_ (by (try dsimp only); omega) _) | (with_reducible refine bel_alloc ?_ _) | (with_reducible refine bel_drewN ?_ _) | (with_reducible refine bel_drew ?_) | (with_reducible refine bel_trans ?_ (by assumption)))); done)
                  clear hK K
                  try simp only [Act.put, List.setIfInBounds_toArray, List.set_cons_zero, List.set_cons_succ]
                  refine wpAnyH_ready (rs := [5]) (by kernel_rfl) (by simp) ?_
                  refine (AllReadyH.cons (opN rfl) (fun K hK => ?_) AllReadyH.nil)
                  go_simp
                  go_at_call 15
                  refine (C_spec_IssueCertificate _ _ K4 [_] n [_] nm_kA 5000 (Ty.rd_below (by (repeat' (first | (with_reducible exact Below.refl _ _) | (with_reducible assumption) | (with_reducible refine bel_set ?_ (by (try dsimp only); omega) _) | (with_reducible refine bel_alloc ?_ _) | (with_reducible refine bel_drewN ?_ _) | (with_reducible refine bel_drew ?_) | (with_reducible refine bel_trans ?_ (by assumption)))); done) (Ty.ow_rd hokq)) (Ty.rd_below (by (repeat' (first | (with_reducible exact Below.refl _ _) | (with_reducible assumption) | (with_reducible refine bel_set ?_ (by (try dsimp only); omega) _) | (with_reducible refine bel_alloc ?_ _) | (with_reducible refine bel_drewN ?_ _) | (with_reducible refine bel_drew ?_) | (with_reducible refine bel_trans ?_ (by assumption)))); done) (Ty.ow_rd howa)) (Ty.rd_below (by (repeat' (first | (with_reducible exact Below.refl _ _) | (with_reducible assumption) | (with_reducible refine bel_set ?_ (by (try dsimp only); omega) _) | (with_reducible refine bel_alloc ?_ _) | (with_reducible refine bel_drewN ?_ _) | (with_reducible refine bel_drew ?_) | (with_reducible refine bel_trans ?_ (by assumption)))); done) (Ty.ow_rd howb)) (by decide) hnb (by decide) (by decide)).mono ?_
                  rintro e wd ⟨csd, fpd, rfl, howd, hfrd, hbd⟩
                  have hzd := hbd.size
                  try simp only [World.size_alloc, World.size_drew, size_drewN] at hzd
                  obtain ⟨B0, d0, B1, d1, B2, d2, rfl⟩ := ow_Data howd
                  refine hK.out _ _ ?_ (fun hHeld => ?_)
                  · (try dsimp only)
                    exact HC.out _ (by (repeat' (first | (with_reducible exact Below.refl _ _) | (with_reducible assumption) | (with_reducible refine bel_set ?_ (by (try dsimp only); omega) _) | (with_reducible refine bel_alloc ?_ _) | (with_reducible refine bel_drewN ?_ _) | (with_reducible refine bel_drew ?_) | (with_reducible refine bel_trans ?_ (by assumption)))); done)
                  clear hK K
                  try simp only [Act.put, List.setIfInBounds_toArray, List.set_cons_zero, List.set_cons_succ]
                  refine tk 6 (opN rfl) (by kernel_rfl) (by rfl) (by (intro w hSw; (try dsimp only at hSw); go_simp; first | done | with_reducible rfl)) (by assumption) ?_
                  try simp only [Act.put, List.setIfInBounds_toArray, List.set_cons_zero, List.set_cons_succ]
                  refine tk 7 (opN rfl) (by kernel_rfl) (by rfl) (by (intro w hSw; (try dsimp only at hSw); go_simp; first | done | with_reducible rfl)) (by assumption) ?_
                  try simp only [Act.put, List.setIfInBounds_toArray, List.set_cons_zero, List.set_cons_succ]
                  refine tk 8 (opN rfl) (by kernel_rfl) (by rfl) (by (intro w hSw; (try dsimp only at hSw); go_simp; first | done | with_reducible rfl)) (by assumption) ?_
                  try simp only [Act.put, List.setIfInBounds_toArray, List.set_cons_zero, List.set_cons_succ]
                  refine wpAnyH_ready (rs := [10]) (by kernel_rfl) (by simp) ?_
                  refine (AllReadyH.cons (opN rfl) (fun K hK => ?_) AllReadyH.nil)
                  have hG : Blk wd (wb.heap.size) 34 #[.slice none 0 0, .slice none 0 0, .slice none 0 0, .int .i64 0, .int .i64 0] := by
                    refine Blk.below (B := _) ?_ hbd (by (try simp only [World.size_alloc, World.size_setCell, World.size_drew, size_drewN]); omega)
                    first | exact Blk.new _ _ _ | exact Blk.drew (Blk.new _ _ _) | exact Blk.drewN (Blk.new _ _ _) _
                  have kG0 : wd.cell? ⟨wb.heap.size, 0, none⟩ = some (.slice none 0 0) := hG.cell 0
                  have fG0 := hG.frozen 0
                  have kG1 : wd.cell? ⟨wb.heap.size, 1, none⟩ = some (.slice none 0 0) := hG.cell 1
                  have fG1 := hG.frozen 1
                  have kG2 : wd.cell? ⟨wb.heap.size, 2, none⟩ = some (.slice none 0 0) := hG.cell 2
                  have fG2 := hG.frozen 2
                  have kG3 : wd.cell? ⟨wb.heap.size, 3, none⟩ = some (.int .i64 0) := hG.cell 3
                  have fG3 := hG.frozen 3
                  have kG4 : wd.cell? ⟨wb.heap.size, 4, none⟩ = some (.int .i64 0) := hG.cell 4
                  have fG4 := hG.frozen 4
                  have zG := hG.lt
                  go_simp
                  refine hK.out _ _ ?_ (fun hHeld => ?_)
                  · (try dsimp only)
                    exact HC.out _ (by (repeat' (first | (with_reducible exact Below.refl _ _) | (with_reducible assumption) | (with_reducible refine bel_set ?_ (by (try dsimp only); omega) _) | (with_reducible refine bel_alloc ?_ _) | (with_reducible refine bel_drewN ?_ _) | (with_reducible refine bel_drew ?_) | (with_reducible refine bel_trans ?_ (by assumption)))); done)
                  clear hK K
                  try simp only [Act.put, List.setIfInBounds_toArray, List.set_cons_zero, List.set_cons_succ]
                  refine tk 11 (opN rfl) (by kernel_rfl) (by rfl) (by (intro w hSw; (try dsimp only at hSw); go_simp; first | done | with_reducible rfl)) (by assumption) ?_
                  try simp only [Act.put, List.setIfInBounds_toArray, List.set_cons_zero, List.set_cons_succ]
                  refine wpAnyH_done (by kernel_rfl) ?_ _
                  refine NoPanic.normal ?_
                  go_wp2_with fail
                  go_meet
                  refine ⟨_, B0, d0, B1, d1, B2, d2, fpd, rfl, rfl, ?_, ?_, ?_, ?_⟩
                  · exact Blk.set_ (Blk.set_ (Blk.set_ (Blk.set_ (Blk.set_ hG 0 _) 1 _) 2 _) 3 _) 4 _
                  · exact Ty.ow_keep (by intro b hb'; have hb'' := (hfrd).2 b hb'; (try simp only [World.size_alloc, World.size_setCell, size_drewN, World.size_drew] at hb''); repeat (first | (with_reducible rfl) | (rw [Below.heap_setCell _ _ _ _ (by (try dsimp only); omega)]) | (rw [Below.heap_alloc _ _ _ (by (try simp only [World.size_alloc, World.size_setCell]); omega)]))) howd
                  · exact hfrd.mono (by (try simp only [World.size_alloc, World.size_setCell, World.size_drew, size_drewN]); omega) (by (try simp only [World.size_alloc, World.size_setCell, World.size_drew, size_drewN]); omega)
                  · exact (by (repeat' (first | (with_reducible exact Below.refl _ _) | (with_reducible assumption) | (with_reducible refine bel_set ?_ (by (try dsimp only); omega) _) | (with_reducible refine bel_alloc ?_ _) | (with_reducible refine bel_drewN ?_ _) | (with_reducible refine bel_drew ?_) | (with_reducible refine bel_trans ?_ (by assumption)))); done)
              · go_simp
                refine hK.out _ _ ?_ (fun hHeld => ?_)
                · (try dsimp only)
                  exact HC.out _ (by (repeat' (first | (with_reducible exact Below.refl _ _) | (with_reducible assumption) | (with_reducible refine bel_set ?_ (by (try dsimp only); omega) _) | (with_reducible refine bel_alloc ?_ _) | (with_reducible refine bel_drewN ?_ _) | (with_reducible refine bel_drew ?_) | (with_reducible refine bel_trans ?_ (by assumption)))); done)
                clear hK K
                try simp only [Act.put, List.setIfInBounds_toArray, List.set_cons_zero, List.set_cons_succ]
                refine wpAnyH_ready (rs := [4]) (by kernel_rfl) (by simp) ?_
                refine (AllReadyH.cons (opN rfl) (fun K hK => ?_) AllReadyH.nil)
                go_simp
                go_at_call 62
                refine (C_spec_l4Of _ [47, 107, 101, 121, 47, 97] (by decide)).mono ?_
                rintro e wb ⟨csb, fpb, rfl, howb, hfrb, hbb⟩
                have hzb := hbb.size
                try simp only [World.size_alloc, World.size_drew, size_drewN] at hzb
                rw [pn_kA] at howb
                obtain ⟨Ab, cb, rfl⟩ := Ty.ow_slv howb
                refine hK.out _ _ ?_ (fun hHeld => ?_)
                · (try dsimp only)
                  exact HC.out _ (by (repeat' (first | (with_reducible exact Below.refl _ _) | (with_reducible assumption) | (with_reducible refine bel_set ?_ (by (try dsimp only); omega) _) | (with_reducible refine bel_alloc ?_ _) | (with_reducible refine bel_drewN ?_ _) | (with_reducible refine bel_drew ?_) | (with_reducible refine bel_trans ?_ (by assumption)))); done)
                clear hK K
                try simp only [Act.put, List.setIfInBounds_toArray, List.set_cons_zero, List.set_cons_succ]
                refine wpAnyH_ready (rs := [5]) (by kernel_rfl) (by simp) ?_
                refine (AllReadyH.cons (opN rfl) (fun K hK => ?_) AllReadyH.nil)
                go_simp
                go_at_call 15
                refine (C_spec_IssueCertificate _ _ K4 [_] n [_] nm_kA 5000 (Ty.rd_below (by (repeat' (first | (with_reducible exact Below.refl _ _) | (with_reducible assumption) | (with_reducible refine bel_set ?_ (by (try dsimp only); omega) _) | (with_reducible refine bel_alloc ?_ _) | (with_reducible refine bel_drewN ?_ _) | (with_reducible refine bel_drew ?_) | (with_reducible refine bel_trans ?_ (by assumption)))); done) (Ty.ow_rd hokq)) (Ty.rd_below (by (repeat' (first | (with_reducible exact Below.refl _ _) | (with_reducible assumption) | (with_reducible refine bel_set ?_ (by (try dsimp only); omega) _) | (with_reducible refine bel_alloc ?_ _) | (with_reducible refine bel_drewN ?_ _) | (with_reducible refine bel_drew ?_) | (with_reducible refine bel_trans ?_ (by assumption)))); done) (Ty.ow_rd howa)) (Ty.rd_below (by (repeat' (first | (with_reducible exact Below.refl _ _) | (with_reducible assumption) | (with_reducible refine bel_set ?_ (by (try dsimp only); omega) _) | (with_reducible refine bel_alloc ?_ _) | (with_reducible refine bel_drewN ?_ _) | (with_reducible refine bel_drew ?_) | (with_reducible refine bel_trans ?_ (by assumption)))); done) (Ty.ow_rd howb)) (by decide) hnb (by decide) (by decide)).mono ?_
                rintro e wd ⟨csd, fpd, rfl, howd, hfrd, hbd⟩
                have hzd := hbd.size
                try simp only [World.size_alloc, World.size_drew, size_drewN] at hzd
                obtain ⟨B0, d0, B1, d1, B2, d2, rfl⟩ := ow_Data howd
                refine hK.out _ _ ?_ (fun hHeld => ?_)
                · (try dsimp only)
                  exact HC.out _ (by (repeat' (first | (with_reducible exact Below.refl _ _) | (with_reducible assumption) | (with_reducible refine bel_set ?_ (by (try dsimp only); omega) _) | (with_reducible refine bel_alloc ?_ _) | (with_reducible refine bel_drewN ?_ _) | (with_reducible refine bel_drew ?_) | (with_reducible refine bel_trans ?_ (by assumption)))); done)
                clear hK K
                try simp only [Act.put, List.setIfInBounds_toArray, List.set_cons_zero, List.set_cons_succ]
                refine tk 6 (opN rfl) (by kernel_rfl) (by rfl) (by (intro w hSw; (try dsimp only at hSw); go_simp; first | done | with_reducible rfl)) (by assumption) ?_
                try simp only [Act.put, List.setIfInBounds_toArray, List.set_cons_zero, List.set_cons_succ]
                refine tk 7 (opN rfl) (by kernel_rfl) (by rfl) (by (intro w hSw; (try dsimp only at hSw); go_simp; first | done | with_reducible rfl)) (by assumption) ?_
                try simp only [Act.put, List.setIfInBounds_toArray, List.set_cons_zero, List.set_cons_succ]
                refine tk 8 (opN rfl) (by kernel_rfl) (by rfl) (by (intro w hSw; (try dsimp only at hSw); go_simp; first | done | with_reducible rfl)) (by assumption) ?_
                try simp only [Act.put, List.setIfInBounds_toArray, List.set_cons_zero, List.set_cons_succ]
                refine wpAnyH_ready (rs := [10]) (by kernel_rfl) (by simp) ?_
                refine (AllReadyH.cons (opN rfl) (fun K hK => ?_) AllReadyH.nil)
                have hG : Blk wd (wa.heap.size) 34 #[.slice none 0 0, .slice none 0 0, .slice none 0 0, .int .i64 0, .int .i64 0] := by
                  refine Blk.below (B := _) ?_ hbd (by (try simp only [World.size_alloc, World.size_setCell, World.size_drew, size_drewN]); omega)
                  refine Blk.below (B := _) ?_ hbb (by (try simp only [World.size_alloc, World.size_setCell, World.size_drew, size_drewN]); omega)
                  first | exact Blk.new _ _ _ | exact Blk.drew (Blk.new _ _ _) | exact Blk.drewN (Blk.new _ _ _) _
                have kG0 : wd.cell? ⟨wa.heap.size, 0, none⟩ = some (.slice none 0 0) := hG.cell 0
                have fG0 := hG.frozen 0
                have kG1 : wd.cell? ⟨wa.heap.size, 1, none⟩ = some (.slice none 0 0) := hG.cell 1
                have fG1 := hG.frozen 1
                have kG2 : wd.cell? ⟨wa.heap.size, 2, none⟩ = some (.slice none 0 0) := hG.cell 2
                have fG2 := hG.frozen 2
                have kG3 : wd.cell? ⟨wa.heap.size, 3, none⟩ = some (.int .i64 0) := hG.cell 3
                have fG3 := hG.frozen 3
                have kG4 : wd.cell? ⟨wa.heap.size, 4, none⟩ = some (.int .i64 0) := hG.cell 4
                have fG4 := hG.frozen 4
                have zG := hG.lt
                go_simp
                refine hK.out _ _ ?_ (fun hHeld => ?_)
                · (try dsimp only)
                  exact HC.out _ (by (repeat' (first | (with_reducible exact Below.refl _ _) | (with_reducible assumption) | (with_reducible refine bel_set ?_ (by (try dsimp only); omega) _) | (with_reducible refine bel_alloc ?_ _) | (with_reducible refine bel_drewN ?_ _) | (with_reducible refine bel_drew ?_) | (with_reducible refine bel_trans ?_ (by assumption)))); done)
                clear hK K
                try simp only [Act.put, List.setIfInBounds_toArray, List.set_cons_zero, List.set_cons_succ]
                refine tk 11 (opN rfl) (by kernel_rfl) (by rfl) (by (intro w hSw; (try dsimp only at hSw); go_simp; first | done | with_reducible rfl)) (by assumption) ?_
                try simp only [Act.put, List.setIfInBounds_toArray, List.set_cons_zero, List.set_cons_succ]
                refine wpAnyH_done (by kernel_rfl) ?_ _
                refine NoPanic.normal ?_
                go_wp2_with fail
                go_meet
                refine ⟨_, B0, d0, B1, d1, B2, d2, fpd, rfl, rfl, ?_, ?_, ?_, ?_⟩
                · exact Blk.set_ (Blk.set_ (Blk.set_ (Blk.set_ (Blk.set_ hG 0 _) 1 _) 2 _) 3 _) 4 _
                · exact Ty.ow_keep (by intro b hb'; have hb'' := (hfrd).2 b hb'; (try simp only [World.size_alloc, World.size_setCell, size_drewN, World.size_drew] at hb''); repeat (first | (with_reducible rfl) | (rw [Below.heap_setCell _ _ _ _ (by (try dsimp only); omega)]) | (rw [Below.heap_alloc _ _ _ (by (try simp only [World.size_alloc, World.size_setCell]); omega)]))) howd
                · exact hfrd.mono (by (try simp only [World.size_alloc, World.size_setCell, World.size_drew, size_drewN]); omega) (by (try simp only [World.size_alloc, World.size_setCell, World.size_drew, size_drewN]); omega)
                · exact (by (repeat' (first | (with_reducible exact Below.refl _ _) | (with_reducible assumption) | (with_reducible refine bel_set ?_ (by (try dsimp only); omega) _) | (with_reducible refine bel_alloc ?_ _) | (with_reducible refine bel_drewN ?_ _) | (with_reducible refine bel_drew ?_) | (with_reducible refine bel_trans ?_ (by assumption)))); done)
            · go_simp
              refine hK.out _ _ ?_ (fun hHeld => ?_)
              · (try dsimp only)
                exact HC.out _ (by (repeat' (first | (with_reducible exact Below.refl _ _) | (with_reducible assumption) | (with_reducible refine bel_set ?_ (by (try dsimp only); omega) _) | (with_reducible refine bel_alloc ?_ _) | (with_reducible refine bel_drewN ?_ _) | (with_reducible refine bel_drew ?_) | (with_reducible refine bel_trans ?_ (by assumption)))); done)
              clear hK K
              try simp only [Act.put, List.setIfInBounds_toArray, List.set_cons_zero, List.set_cons_succ]
              refine wpAnyH_ready (rs := [3]) (by kernel_rfl) (by simp) ?_
              refine (AllReadyH.cons (opN rfl) (fun K hK => ?_) AllReadyH.nil)
              go_simp
              go_at_call 62
              refine (C_spec_l4Of _ sk (by omega)).mono ?_
              rintro e wa ⟨csa, fpa, rfl, howa, hfra, hba⟩
              have hza := hba.size
              try simp only [World.size_alloc, World.size_drew, size_drewN] at hza
              rw [hn] at howa
              obtain ⟨Aa, ca, rfl⟩ := Ty.ow_slv howa
              refine hK.out _ _ ?_ (fun hHeld => ?_)
              · (try dsimp only)
                exact HC.out _ (by (repeat' (first | (with_reducible exact Below.refl _ _) | (with_reducible assumption) | (with_reducible refine bel_set ?_ (by (try dsimp only); omega) _) | (with_reducible refine bel_alloc ?_ _) | (with_reducible refine bel_drewN ?_ _) | (with_reducible refine bel_drew ?_) | (with_reducible refine bel_trans ?_ (by assumption)))); done)
              clear hK K
              try simp only [Act.put, List.setIfInBounds_toArray, List.set_cons_zero, List.set_cons_succ]
              refine wpAnyH_ready (rs := [4]) (by kernel_rfl) (by simp) ?_
              refine (AllReadyH.cons (opN rfl) (fun K hK => ?_) AllReadyH.nil)
              go_simp
              go_at_call 62
              refine (C_spec_l4Of _ [47, 107, 101, 121, 47, 97] (by decide)).mono ?_
              rintro e wb ⟨csb, fpb, rfl, howb, hfrb, hbb⟩
              have hzb := hbb.size
              try simp only [World.size_alloc, World.size_drew, size_drewN] at hzb
              rw [pn_kA] at howb
              obtain ⟨Ab, cb, rfl⟩ := Ty.ow_slv howb
              refine hK.out _ _ ?_ (fun hHeld => ?_)
              · (try dsimp only)
                exact HC.out _ (by (repeat' (first | (with_reducible exact Below.refl _ _) | (with_reducible assumption) | (with_reducible refine bel_set ?_ (by (try dsimp only); omega) _) | (with_reducible refine bel_alloc ?_ _) | (with_reducible refine bel_drewN ?_ _) | (with_reducible refine bel_drew ?_) | (with_reducible refine bel_trans ?_ (by assumption)))); done)
              clear hK K
              try simp only [Act.put, List.setIfInBounds_toArray, List.set_cons_zero, List.set_cons_succ]
              refine wpAnyH_ready (rs := [5]) (by kernel_rfl) (by simp) ?_
              refine (AllReadyH.cons (opN rfl) (fun K hK => ?_) AllReadyH.nil)
              go_simp
              go_at_call 15
              refine (C_spec_IssueCertificate _ _ K4 [_] n [_] nm_kA 5000 (Ty.rd_below (by (repeat' (first | (with_reducible exact Below.refl _ _) | (with_reducible assumption) | (with_reducible refine bel_set ?_ (by (try dsimp only); omega) _) | (with_reducible refine bel_alloc ?_ _) | (with_reducible refine bel_drewN ?_ _) | (with_reducible refine bel_drew ?_) | (with_reducible refine bel_trans ?_ (by assumption)))); done) (Ty.ow_rd hokq)) (Ty.rd_below (by (repeat' (first | (with_reducible exact Below.refl _ _) | (with_reducible assumption) | (with_reducible refine bel_set ?_ (by (try dsimp only); omega) _) | (with_reducible refine bel_alloc ?_ _) | (with_reducible refine bel_drewN ?_ _) | (with_reducible refine bel_drew ?_) | (with_reducible refine bel_trans ?_ (by assumption)))); done) (Ty.ow_rd howa)) (Ty.rd_below (by (repeat' (first | (with_reducible exact Below.refl _ _) | (with_reducible assumption) | (with_reducible refine bel_set ?_ (by (try dsimp only); omega) _) | (with_reducible refine bel_alloc ?_ _) | (with_reducible refine bel_drewN ?_ _) | (with_reducible refine bel_drew ?_) | (with_reducible refine bel_trans ?_ (by assumption)))); done) (Ty.ow_rd howb)) (by decide) hnb (by decide) (by decide)).mono ?_
              rintro e wd ⟨csd, fpd, rfl, howd, hfrd, hbd⟩
              have hzd := hbd.size
              try simp only [World.size_alloc, World.size_drew, size_drewN] at hzd
              obtain ⟨B0, d0, B1, d1, B2, d2, rfl⟩ := ow_Data howd
              refine hK.out _ _ ?_ (fun hHeld => ?_)
              · (try dsimp only)
                exact HC.out _ (by (repeat' (first | (with_reducible exact Below.refl _ _) | (with_reducible assumption) | (with_reducible refine bel_set ?_ (by (try dsimp only); omega) _) | (with_reducible refine bel_alloc ?_ _) | (with_reducible refine bel_drewN ?_ _) | (with_reducible refine bel_drew ?_) | (with_reducible refine bel_trans ?_ (by assumption)))); done)
              clear hK K
              try simp only [Act.put, List.setIfInBounds_toArray, List.set_cons_zero, List.set_cons_succ]
              refine tk 6 (opN rfl) (by kernel_rfl) (by rfl) (by (intro w hSw; (try dsimp only at hSw); go_simp; first | done | with_reducible rfl)) (by assumption) ?_
              try simp only [Act.put, List.setIfInBounds_toArray, List.set_cons_zero, List.set_cons_succ]
              refine tk 7 (opN rfl) (by kernel_rfl) (by rfl) (by (intro w hSw; (try dsimp only at hSw); go_simp; first | done | with_reducible rfl)) (by assumption) ?_
              try simp only [Act.put, List.setIfInBounds_toArray, List.set_cons_zero, List.set_cons_succ]
              refine tk 8 (opN rfl) (by kernel_rfl) (by rfl) (by (intro w hSw; (try dsimp only at hSw); go_simp; first | done | with_reducible rfl)) (by assumption) ?_
              try simp only [Act.put, List.setIfInBounds_toArray, List.set_cons_zero, List.set_cons_succ]
              refine wpAnyH_ready (rs := [10]) (by kernel_rfl) (by simp) ?_
              refine (AllReadyH.cons (opN rfl) (fun K hK => ?_) AllReadyH.nil)
              have hG : Blk wd (wr.heap.size) 34 #[.slice none 0 0, .slice none 0 0, .slice none 0 0, .int .i64 0, .int .i64 0] := by
                refine Blk.below (B := _) ?_ hbd (by (try simp only [World.size_alloc, World.size_setCell, World.size_drew, size_drewN]); omega)
                refine Blk.below (B := _) ?_ hbb (by (try simp only [World.size_alloc, World.size_setCell, World.size_drew, size_drewN]); omega)
                refine Blk.below (B := _) ?_ hba (by (try simp only [World.size_alloc, World.size_setCell, World.size_drew, size_drewN]); omega)
                first | exact Blk.new _ _ _ | exact Blk.drew (Blk.new _ _ _) | exact Blk.drewN (Blk.new _ _ _) _
              have kG0 : wd.cell? ⟨wr.heap.size, 0, none⟩ = some (.slice none 0 0) := hG.cell 0
              have fG0 := hG.frozen 0
              have kG1 : wd.cell? ⟨wr.heap.size, 1, none⟩ = some (.slice none 0 0) := hG.cell 1
              have fG1 := hG.frozen 1
              have kG2 : wd.cell? ⟨wr.heap.size, 2, none⟩ = some (.slice none 0 0) := hG.cell 2
              have fG2 := hG.frozen 2
              have kG3 : wd.cell? ⟨wr.heap.size, 3, none⟩ = some (.int .i64 0) := hG.cell 3
              have fG3 := hG.frozen 3
              have kG4 : wd.cell? ⟨wr.heap.size, 4, none⟩ = some (.int .i64 0) := hG.cell 4
              have fG4 := hG.frozen 4
              have zG := hG.lt
              go_simp
              refine hK.out _ _ ?_ (fun hHeld => ?_)
              · (try dsimp only)
                exact HC.out _ (by (repeat' (first | (with_reducible exact Below.refl _ _) | (with_reducible assumption) | (with_reducible refine bel_set ?_ (by (try dsimp only); omega) _) | (with_reducible refine bel_alloc ?_ _) | (with_reducible refine bel_drewN ?_ _) | (with_reducible refine bel_drew ?_) | (with_reducible refine bel_trans ?_ (by assumption)))); done)
              clear hK K
              try simp only [Act.put, List.setIfInBounds_toArray, List.set_cons_zero, List.set_cons_succ]
              refine tk 11 (opN rfl) (by kernel_rfl) (by rfl) (by (intro w hSw; (try dsimp only at hSw); go_simp; first | done | with_reducible rfl)) (by assumption) ?_
              try simp only [Act.put, List.setIfInBounds_toArray, List.set_cons_zero, List.set_cons_succ]
              refine wpAnyH_done (by kernel_rfl) ?_ _
              refine NoPanic.normal ?_
              go_wp2_with fail
              go_meet
              refine ⟨_, B0, d0, B1, d1, B2, d2, fpd, rfl, rfl, ?_, ?_, ?_, ?_⟩
              · exact Blk.set_ (Blk.set_ (Blk.set_ (Blk.set_ (Blk.set_ hG 0 _) 1 _) 2 _) 3 _) 4 _
              · exact Ty.ow_keep (by intro b hb'; have hb'' := (hfrd).2 b hb'; (try simp only [World.size_alloc, World.size_setCell, size_drewN, World.size_drew] at hb''); repeat (first | (with_reducible rfl) | (rw [Below.heap_setCell _ _ _ _ (by (try dsimp only); omega)]) | (rw [Below.heap_alloc _ _ _ (by (try simp only [World.size_alloc, World.size_setCell]); omega)]))) howd
              · exact hfrd.mono (by (try simp only [World.size_alloc, World.size_setCell, World.size_drew, size_drewN]); omega) (by (try simp only [World.size_alloc, World.size_setCell, World.size_drew, size_drewN]); omega)
              · exact (by (repeat' (first | (with_reducible exact Below.refl _ _) | (with_reducible assumption) | (with_reducible refine bel_set ?_ (by (try dsimp only); omega) _) | (with_reducible refine bel_alloc ?_ _) | (with_reducible refine bel_drewN ?_ _) | (with_reducible refine bel_drew ?_) | (with_reducible refine bel_trans ?_ (by assumption)))); done)
          obtain ⟨w7, hwc⟩ : ∃ w7, w7 = wc := ⟨_, rfl⟩
          subst hwc
          obtain ⟨g, B0, d0, B1, d1, B2, d2, fp, rfl, rfl, hG, hx, hfx, hb7⟩ := hcut
          have HB7 := Lib.hid (fun h => data_bulk (okCert_valid (x := f0_IssueCertificate K4 n nm_kA 5000) ⟨n, HNN.out, h, rfl⟩).1)
          have HOK := Lib.hid (fun h => (⟨n, HNN.out, h, rfl⟩ : okCert (f0_IssueCertificate K4 n nm_kA 5000)))
          generalize f0_IssueCertificate K4 n nm_kA 5000 = y at hG hx HB7 HOK
          generalize f1_IssueCertificate K4 n nm_kA 5000 = yes at HB7 HOK ⊢
          have E7 : Dr B wr w7 := Dr.of hb7 B
          have D7 : Dr B w w7 := Dr.then_ hdq hb7
          have hgB : g ≠ B := Cur.neq (Cur.below hcq hb7) hG (by simp)
          have C7 : CurT w7 B := Cur.below hcq hb7
          have z7 := hb7.size
          have hR7 := hRq.below hb7 (by omega)
          have hT7 := hTq.below hb7 zTq
          have hL7 := hLq.below hb7 (by omega)
          have hok7 := owBel hokq hb7
          have hoa7 := owBel hoaq hb7
          have hor7 := owBel horq hb7
          have HR7 := Lib.hid (HR4.out.below hb7)
          clear hRq hTq hLq hokq hoaq horq hb7 hcq hdq HC kT0 kT1 kT2 kT3
          cases yes with
          | false =>
            go_wp2
            go_roundw
            case rel => exact ⟨k + 1, _, x4, by go_num, by omega, by omega, HCS.out, C7, D7, hR7, hT7, hL7, hok7, hoa7, hor7, by omega, HR7.out⟩
            case measure => simp [intOf]; omega
          | true =>
            have kG0 : w7.cell? ⟨g, 0, none⟩ = some (.slice B0 (List.length y.1) d0) := hG.cell 0
            go_wp2_with fail
            refine (C_spec_l1Once _ B 8 (by repeat' (first | (with_reducible assumption) | (with_reducible refine Cur.far ?_ (by (try dsimp only); omega) _) | (with_reducible refine Cur.alloc ?_ _) | (with_reducible refine Cur.drewN ?_ _) | (with_reducible refine Cur.drew ?_))) (by decide) (by decide)).mono ?_
            rintro e w8 ⟨hd8, hc8, once, rfl⟩
            have E8 : Dr B w7 w8 := (by repeat' (first | (with_reducible exact Dr.refl _ _) | (with_reducible assumption) | (with_reducible refine Dr.set ?_ (by (try dsimp only); omega) _) | (with_reducible refine Dr.alloc ?_ _) | (with_reducible refine Dr.drewN ?_ _) | (with_reducible refine Dr.drew ?_) | (with_reducible refine Dr.trans ?_ (by assumption))))
            have E48 : Dr B wr w8 := E7.trans E8
            have hzG := hG.lt
            have D8 : Dr B w w8 := D7.trans E8
            have z8 := E8.size
            have hR8 := Dr.blk E8 hR7 (by omega)
            have hT8 := Dr.blk E8 hT7 (by omega)
            have hL8 := Dr.blk E8 hL7 (by omega)
            have hok8 := owDr hok7 hfk (by omega) E8
            have hoa8 := owDr hoa7 hfa (by omega) E8
            have hor8 := owDr hor7 hf2 (by omega) E8
            have HR8 := Lib.hid (DRow.dr HR7.out E8 (by omega))
            have hx8 := owDr hx hfx (by omega) E8
            have hG8 : Blk w8 g 34 _ := Dr.blk E8 hG hgB
            clear hd8 hR7 hT7 hL7 hok7 hoa7 hor7 HR7 hx hG C7 D7
            cases once with
            | true =>
              go_wp2
              go_roundw
              case rel => exact ⟨k + 1, _, x4, by go_num, by omega, by omega, HCS.out, hc8, D8, hR8, hT8, hL8, hok8, hoa8, hor8, by omega, HR8.out⟩
              case measure => simp [intOf]; omega
            | false =>
              have j0 : w8.cell? ⟨g, 0, none⟩ = some (.slice B0 (List.length y.1) d0) := hG8.cell 0
              have j1 : w8.cell? ⟨g, 1, none⟩ = some (.slice B1 (List.length y.2.1) d1) := hG8.cell 1
              have j2 : w8.cell? ⟨g, 2, none⟩ = some (.slice B2 (List.length y.2.2.1) d2) := hG8.cell 2
              have j3 : w8.cell? ⟨g, 3, none⟩ = some (.int .i64 y.2.2.2.1) := hG8.cell 3
              have j4 : w8.cell? ⟨g, 4, none⟩ = some (.int .i64 y.2.2.2.2) := hG8.cell 4
              have jT3 : w8.cell? ⟨T, 3, none⟩ = some (.slice A9 (List.length x4) c9) := hT8.cell 3
              have zT8 : T < w8.heap.size := hT8.lt
              set_option maxRecDepth 100000 in go_wp2_with (at_builtin; go_loud (refine wpList_append_drowD (e := tData) rfl _ _ 27 rfl wr (L2 + 1) 34 info_Data rfl Tryz.underlying27 _ _ x4 [y] (by rfl) (by rfl) HR4.out (by simp only [World.size_alloc]; omega) (fun b h1 h2 => Dr.block (Dr.alloc E48 _) h2 (by omega)) (Src.litE 34 hx8 (hfx.mono (Nat.le_refl _) z8) (by first | rfl | simp only [World.size_alloc])) ?_ ?_ ?_ ?_))
              case refine_1 => simp only [List.length_singleton]; omega
              case refine_2 => simp only [List.length_singleton]; unfold maxLen; omega
              case refine_3 => omega
              intro v' w' hr' hg'
              have hr2 : DRow tData w' (L2 + 1) 34 v' (x4 ++ [y]) := hr'
              have hbl := HR4.out.block
              have hg0 : ∀ g, (Value.slice A9 (List.length x4) c9).ownBlock = some g → L2 + 1 ≤ g := fun g hg => (hbl g hg).1
              have hne : ∀ g, g < L2 + 1 → some g ≠ (Value.slice A9 (List.length x4) c9).ownBlock := fun g hg e => by have := hg0 _ e.symm; omega
              have zg := hg'.size
              simp only [World.size_alloc] at zg
              have D9 : Dr B w w' := Dr.grown (Dr.alloc D8 _) hg' (fun g hg => by have := hg0 g hg; omega)
              have C9 : CurT w' B := Cur.grown (Cur.alloc hc8 _) hg' (fun g hg => by have := hg0 g hg; omega)
              have hT9 := (hT8.alloc (.cells #[.slice B0 (List.length y.1) d0, .slice B1 (List.length y.2.1) d1, .slice B2 (List.length y.2.2.1) d2, .int .i64 y.2.2.2.1, .int .i64 y.2.2.2.2] 34)).grown hg' (hne T (by omega))
              have hR9 := (hR8.alloc (.cells #[.slice B0 (List.length y.1) d0, .slice B1 (List.length y.2.1) d1, .slice B2 (List.length y.2.2.1) d2, .int .i64 y.2.2.2.1, .int .i64 y.2.2.2.2] 34)).grown hg' (hne w.heap.size (by omega))
              have hL9 := (hL8.alloc (.cells #[.slice B0 (List.length y.1) d0, .slice B1 (List.length y.2.1) d1, .slice B2 (List.length y.2.2.1) d2, .int .i64 y.2.2.2.1, .int .i64 y.2.2.2.2] 34)).grown hg' (hne L2 (by omega))
              have hok9 := owGrown (owAlloc hok8 _) hfk hg' (fun g hg => by have := hg0 g hg; omega)
              have hoa9 := owGrown (owAlloc hoa8 _) hfa hg' (fun g hg => by have := hg0 g hg; omega)
              have hor9 := owGrown (owAlloc hor8 _) hf2 hg' (fun g hg => by have := hg0 g hg; omega)
              have kT9 : w'.cell? ⟨T, 3, none⟩ = some (.slice A9 (List.length x4) c9) := hT9.cell 3
              have fT9 : w'.frozen? ⟨T, 3, none⟩ = false := hT9.f1
              have HL9 := Lib.hid (show (x4 ++ [y]).length = x4.length + 1 by simp)
              have HCS9 := Lib.hid (show ∀ x ∈ x4 ++ [y], okCert x from fun x hx => by
                rcases List.mem_append.1 hx with hx | hx
                · exact HCS.out x hx
                · rw [List.mem_singleton] at hx; subst hx; exact HOK.out (by trivial))
              obtain ⟨A5, c5', rfl⟩ := hr2.form
              rw [HL9.out] at hr2
              have HR9 := Lib.hid hr2
              clear hr' hr2 hg' hg0 hbl
              go_wp2
              go_roundw
              case rel => exact ⟨k + 1, _, x4 ++ [y], by go_num, by omega, by rw [HL9.out]; omega, HCS9.out, Cur.far C9 zBT _, Dr.set D9 (.inr (by dsimp only; omega)) _, hR9.far (by dsimp only; omega) _, hT9.set_ 3 _, hL9.far (by dsimp only; omega) _, owSetH hok9 hfk (by dsimp only; omega) _, owSetH hoa9 hfa (by dsimp only; omega) _, owSet hor9 hf2 (by dsimp only; omega) _, by rw [World.size_setCell]; omega, DRow.setN (p := ⟨T, 3, none⟩) HR9.out (by dsimp only; omega) _⟩
              case measure => simp [intOf]; omega
        · have j0 : wr.cell? ⟨w.heap.size, 0, none⟩ = some (.slice none 0 0) := hRq.cell 0
          have j1 : wr.cell? ⟨w.heap.size, 1, none⟩ = some (.slice none 0 0) := hRq.cell 1
          have j2 : wr.cell? ⟨w.heap.size, 2, none⟩ = some (.slice none 0 0) := hRq.cell 2
          have j3 : wr.cell? ⟨w.heap.size, 3, none⟩ = some (.slice none 0 0) := hRq.cell 3
          have fr0 : wr.frozen? ⟨w.heap.size, 0, none⟩ = false := hRq.f1
          have fr1 : wr.frozen? ⟨w.heap.size, 1, none⟩ = false := hRq.f1
          have fr2 : wr.frozen? ⟨w.heap.size, 2, none⟩ = false := hRq.f1
          have fr3 : wr.frozen? ⟨w.heap.size, 3, none⟩ = false := hRq.f1
          obtain ⟨f4, ho4, hf4⟩ := HR4.out.ow_
          have hO9 := ((((hRq.set_ 0 (.slice (some kA) 4 4)).set_ 1 (.slice A7 nR c7)).set_ 2 (.slice (some nA) 1 1)).set_ 3 (.slice A9 (List.length x4) c9))
          have D9 := (Dr.set (Dr.set (Dr.set (Dr.set hdq (p := ⟨w.heap.size, 0, none⟩) (.inr (Nat.le_refl _)) (.slice (some kA) 4 4)) (p := ⟨w.heap.size, 1, none⟩) (.inr (Nat.le_refl _)) (.slice A7 nR c7)) (p := ⟨w.heap.size, 2, none⟩) (.inr (Nat.le_refl _)) (.slice (some nA) 1 1)) (p := ⟨w.heap.size, 3, none⟩) (.inr (Nat.le_refl _)) (.slice A9 (List.length x4) c9))
          have C9 := (Cur.far (Cur.far (Cur.far (Cur.far hcq (p := ⟨w.heap.size, 0, none⟩) hB (.slice (some kA) 4 4)) (p := ⟨w.heap.size, 1, none⟩) hB (.slice A7 nR c7)) (p := ⟨w.heap.size, 2, none⟩) hB (.slice (some nA) 1 1)) (p := ⟨w.heap.size, 3, none⟩) hB (.slice A9 (List.length x4) c9))
          have p1 := (owSet (owSet (owSet (owSet hokq hfk (p := ⟨w.heap.size, 0, none⟩) (by dsimp only; omega) (.slice (some kA) 4 4)) hfk (p := ⟨w.heap.size, 1, none⟩) (by dsimp only; omega) (.slice A7 nR c7)) hfk (p := ⟨w.heap.size, 2, none⟩) (by dsimp only; omega) (.slice (some nA) 1 1)) hfk (p := ⟨w.heap.size, 3, none⟩) (by dsimp only; omega) (.slice A9 (List.length x4) c9))
          have p2 := (owSet (owSet (owSet (owSet hoaq hfa (p := ⟨w.heap.size, 0, none⟩) (by dsimp only; omega) (.slice (some kA) 4 4)) hfa (p := ⟨w.heap.size, 1, none⟩) (by dsimp only; omega) (.slice A7 nR c7)) hfa (p := ⟨w.heap.size, 2, none⟩) (by dsimp only; omega) (.slice (some nA) 1 1)) hfa (p := ⟨w.heap.size, 3, none⟩) (by dsimp only; omega) (.slice A9 (List.length x4) c9))
          have p3 := (owSet (owSet (owSet (owSet horq hf2 (p := ⟨w.heap.size, 0, none⟩) (by dsimp only; omega) (.slice (some kA) 4 4)) hf2 (p := ⟨w.heap.size, 1, none⟩) (by dsimp only; omega) (.slice A7 nR c7)) hf2 (p := ⟨w.heap.size, 2, none⟩) (by dsimp only; omega) (.slice (some nA) 1 1)) hf2 (p := ⟨w.heap.size, 3, none⟩) (by dsimp only; omega) (.slice A9 (List.length x4) c9))
          have p4 := (owSet (owSet (owSet (owSet ho4 hf4 (p := ⟨w.heap.size, 0, none⟩) (by dsimp only; omega) (.slice (some kA) 4 4)) hf4 (p := ⟨w.heap.size, 1, none⟩) (by dsimp only; omega) (.slice A7 nR c7)) hf4 (p := ⟨w.heap.size, 2, none⟩) (by dsimp only; omega) (.slice (some nA) 1 1)) hf4 (p := ⟨w.heap.size, 3, none⟩) (by dsimp only; omega) (.slice A9 (List.length x4) c9))
          have z9 : wr.heap.size ≤ ((((wr.setCell ⟨w.heap.size, 0, none⟩ (.slice (some kA) 4 4)).setCell ⟨w.heap.size, 1, none⟩ (.slice A7 nR c7)).setCell ⟨w.heap.size, 2, none⟩ (.slice (some nA) 1 1)).setCell ⟨w.heap.size, 3, none⟩ (.slice A9 (List.length x4) c9)).heap.size := by simp only [World.size_setCell]; exact Nat.le_refl _
          clear HR4
          go_wp2_with fail
          generalize ((((wr.setCell ⟨w.heap.size, 0, none⟩ (.slice (some kA) 4 4)).setCell ⟨w.heap.size, 1, none⟩ (.slice A7 nR c7)).setCell ⟨w.heap.size, 2, none⟩ (.slice (some nA) 1 1)).setCell ⟨w.heap.size, 3, none⟩ (.slice A9 (List.length x4) c9)) = w9 at hO9 D9 C9 p1 p2 p3 p4 z9 ⊢
          have j0' : w9.cell? ⟨w.heap.size, 0, none⟩ = some (.slice (some kA) 4 4) := hO9.cell 0
          have j1' : w9.cell? ⟨w.heap.size, 1, none⟩ = some (.slice A7 nR c7) := hO9.cell 1
          have j2' : w9.cell? ⟨w.heap.size, 2, none⟩ = some (.slice (some nA) 1 1) := hO9.cell 2
          have j3' : w9.cell? ⟨w.heap.size, 3, none⟩ = some (.slice A9 (List.length x4) c9) := hO9.cell 3
          refine bodyPost_ret (v := .agg #[.slice (some kA) 4 4, .slice A7 nR c7, .slice (some nA) 1 1, .slice A9 (List.length x4) c9]) (by simp [results, Tryz.results90, go_sem, j0', j1', j2', j3']) rfl ?_
          exact ⟨D9, C9, _, _, _, _, (K4, R2, [nm_kA], x4), fk, f2, fa, f4, T + 2, L2 + 1, rfl, p1, p3, p2, p4, hfk.mono (by omega) (by omega), hfa.mono (by omega) (by omega), hf2.mono (Nat.le_refl _) (by omega), hf4.mono (Nat.le_refl _) z9, by omega, by omega, rfl, rfl, rfl, (show List.length x4 ≤ 2 by omega), HCS.out⟩
end Go.Proofs.YtldgbnlcnlfmeaaGreat
