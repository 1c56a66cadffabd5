/- The helper functions that write marks and ask for them, for each type. Printed by a program. -/
import Derived.Test.YtldgbnlcnlfmeaaHlp
import Derived.Test.YtldgbnlcnlfmeaaMkl
namespace Go.Proofs.Ytldgbnlcnlfmeaa
open Go.RowKit
set_option linter.unusedVariables false
set_option linter.unusedSimpArgs false

theorem rdInt_of {V D : Int} (h : V = D) (h1 : -9223372036854775808 ≤ V) (h2 : V ≤ 9223372036854775807) : rdInt [.int .i64 V] D := by subst h; exact ⟨rfl, h1, h2⟩

theorem owl_Name {w : World} {cs : List Value} {x : Ty.D (.sl .str)} {fp : List Nat} (h : Ty.ow w (.sl .str) cs x fp) : ∃ (A0 : Option Addr) (c0 : Nat) (f0 : List Nat), cs = [.slice A0 (List.length x) c0] ∧ fp = f0 ∧ (Ty.ow w (.sl .str) [.slice A0 (List.length x) c0] x f0) := by
  obtain ⟨A0, c0, rfl⟩ := Ty.ow_slv h
  exact ⟨A0, c0, fp, rfl, rfl, h⟩

theorem owl_Pattern {w : World} {cs : List Value} {x : Ty.D (.sl .str)} {fp : List Nat} (h : Ty.ow w (.sl .str) cs x fp) : ∃ (A0 : Option Addr) (c0 : Nat) (f0 : List Nat), cs = [.slice A0 (List.length x) c0] ∧ fp = f0 ∧ (Ty.ow w (.sl .str) [.slice A0 (List.length x) c0] x f0) := by
  obtain ⟨A0, c0, rfl⟩ := Ty.ow_slv h
  exact ⟨A0, c0, fp, rfl, rfl, h⟩

theorem owl_Interest {w : World} {cs : List Value} {x : Ty.D tInterest} {fp : List Nat} (h : Ty.ow w tInterest cs x fp) : ∃ (A0 : Option Addr) (c0 : Nat) (f0 : List Nat), cs = [.slice A0 (List.length x.1) c0, .int .i64 x.2.1, .int .i64 x.2.2.1, .int .i64 x.2.2.2] ∧ fp = (f0 ++ ([] ++ ([] ++ []))) ∧ (Ty.ow w (.sl .str) [.slice A0 (List.length x.1) c0] x.1 f0) ∧ (-9223372036854775808 ≤ x.2.1 ∧ x.2.1 ≤ 9223372036854775807) ∧ (-9223372036854775808 ≤ x.2.2.1 ∧ x.2.2.1 ≤ 9223372036854775807) ∧ (-9223372036854775808 ≤ x.2.2.2 ∧ x.2.2.2 ≤ 9223372036854775807) := by
  obtain ⟨k0, r0, f0, t0, rfl, rfl, g0, q0⟩ := h
  obtain ⟨k1, r1, f1, t1, rfl, rfl, g1, q1⟩ := q0
  obtain ⟨k2, r2, f2, t2, rfl, rfl, g2, q2⟩ := q1
  have g3 := q2
  obtain ⟨A0, c0, rfl⟩ := Ty.ow_slv g0
  obtain ⟨⟨rfl, b1⟩, rfl⟩ := g1
  obtain ⟨⟨rfl, b2⟩, rfl⟩ := g2
  obtain ⟨⟨rfl, b3⟩, rfl⟩ := g3
  exact ⟨A0, c0, f0, rfl, rfl, g0, b1, b2, b3⟩

theorem owl_Data {w : World} {cs : List Value} {x : Ty.D tData} {fp : List Nat} (h : Ty.ow w tData cs x fp) : ∃ (A0 : Option Addr) (c0 : Nat) (A1 : Option Addr) (c1 : Nat) (A2 : Option Addr) (c2 : Nat) (f0 : List Nat) (f1 : List Nat) (f2 : List Nat), cs = [.slice A0 (List.length x.1) c0, .slice A1 (List.length x.2.1) c1, .slice A2 (List.length x.2.2.1) c2, .int .i64 x.2.2.2.1, .int .i64 x.2.2.2.2] ∧ fp = (f0 ++ (f1 ++ (f2 ++ ([] ++ [])))) ∧ (Ty.ow w (.sl .str) [.slice A0 (List.length x.1) c0] x.1 f0) ∧ (Ty.ow w (.sl .byte) [.slice A1 (List.length x.2.1) c1] x.2.1 f1) ∧ (Ty.ow w (.sl .str) [.slice A2 (List.length x.2.2.1) c2] x.2.2.1 f2) ∧ (-9223372036854775808 ≤ x.2.2.2.1 ∧ x.2.2.2.1 ≤ 9223372036854775807) ∧ (-9223372036854775808 ≤ x.2.2.2.2 ∧ x.2.2.2.2 ≤ 9223372036854775807) := by
  obtain ⟨k0, r0, f0, t0, rfl, rfl, g0, q0⟩ := h
  obtain ⟨k1, r1, f1, t1, rfl, rfl, g1, q1⟩ := q0
  obtain ⟨k2, r2, f2, t2, rfl, rfl, g2, q2⟩ := q1
  obtain ⟨k3, r3, f3, t3, rfl, rfl, g3, q3⟩ := q2
  have g4 := q3
  obtain ⟨A0, c0, rfl⟩ := Ty.ow_slv g0
  obtain ⟨A1, c1, rfl⟩ := Ty.ow_slv g1
  obtain ⟨A2, c2, rfl⟩ := Ty.ow_slv g2
  obtain ⟨⟨rfl, b3⟩, rfl⟩ := g3
  obtain ⟨⟨rfl, b4⟩, rfl⟩ := g4
  exact ⟨A0, c0, A1, c1, A2, c2, f0, f1, f2, rfl, rfl, g0, g1, g2, b3, b4⟩

theorem owl_Key {w : World} {cs : List Value} {x : Ty.D tKey} {fp : List Nat} (h : Ty.ow w tKey cs x fp) : ∃ (A0 : Option Addr) (c0 : Nat) (f0 : List Nat), cs = [.slice A0 (List.length x.1) c0, .int .i64 x.2] ∧ fp = (f0 ++ []) ∧ (Ty.ow w (.sl .str) [.slice A0 (List.length x.1) c0] x.1 f0) ∧ (-9223372036854775808 ≤ x.2 ∧ x.2 ≤ 9223372036854775807) := by
  obtain ⟨k0, r0, f0, t0, rfl, rfl, g0, q0⟩ := h
  have g1 := q0
  obtain ⟨A0, c0, rfl⟩ := Ty.ow_slv g0
  obtain ⟨⟨rfl, b1⟩, rfl⟩ := g1
  exact ⟨A0, c0, f0, rfl, rfl, g0, b1⟩

theorem owl_Rule {w : World} {cs : List Value} {x : Ty.D tRule} {fp : List Nat} (h : Ty.ow w tRule cs x fp) : ∃ (A0 : Option Addr) (c0 : Nat) (A1 : Option Addr) (c1 : Nat) (f0 : List Nat) (f1 : List Nat), cs = [.slice A0 (List.length x.1) c0, .slice A1 (List.length x.2) c1] ∧ fp = (f0 ++ f1) ∧ (Ty.ow w (.sl .str) [.slice A0 (List.length x.1) c0] x.1 f0) ∧ (Ty.ow w (.sl .str) [.slice A1 (List.length x.2) c1] x.2 f1) := by
  obtain ⟨k0, r0, f0, t0, rfl, rfl, g0, q0⟩ := h
  have g1 := q0
  obtain ⟨A0, c0, rfl⟩ := Ty.ow_slv g0
  obtain ⟨A1, c1, rfl⟩ := Ty.ow_slv g1
  exact ⟨A0, c0, A1, c1, f0, t0, rfl, rfl, g0, g1⟩

theorem owl_Requester {w : World} {cs : List Value} {x : Ty.D tRequester} {fp : List Nat} (h : Ty.ow w tRequester cs x fp) : cs = [.int .i64 x.1, .int .i64 x.2.1, .int .i64 x.2.2] ∧ fp = ([] ++ ([] ++ [])) ∧ (-9223372036854775808 ≤ x.1 ∧ x.1 ≤ 9223372036854775807) ∧ (-9223372036854775808 ≤ x.2.1 ∧ x.2.1 ≤ 9223372036854775807) ∧ (-9223372036854775808 ≤ x.2.2 ∧ x.2.2 ≤ 9223372036854775807) := by
  obtain ⟨k0, r0, f0, t0, rfl, rfl, g0, q0⟩ := h
  obtain ⟨k1, r1, f1, t1, rfl, rfl, g1, q1⟩ := q0
  have g2 := q1
  obtain ⟨⟨rfl, b0⟩, rfl⟩ := g0
  obtain ⟨⟨rfl, b1⟩, rfl⟩ := g1
  obtain ⟨⟨rfl, b2⟩, rfl⟩ := g2
  exact ⟨rfl, rfl, b0, b1, b2⟩

theorem owl_SeenNonce {w : World} {cs : List Value} {x : Ty.D tSeenNonce} {fp : List Nat} (h : Ty.ow w tSeenNonce cs x fp) : ∃ (A0 : Option Addr) (c0 : Nat) (f0 : List Nat), cs = [.slice A0 (List.length x.1) c0, .int .i64 x.2] ∧ fp = (f0 ++ []) ∧ (Ty.ow w (.sl .str) [.slice A0 (List.length x.1) c0] x.1 f0) ∧ (-9223372036854775808 ≤ x.2 ∧ x.2 ≤ 9223372036854775807) := by
  obtain ⟨k0, r0, f0, t0, rfl, rfl, g0, q0⟩ := h
  have g1 := q0
  obtain ⟨A0, c0, rfl⟩ := Ty.ow_slv g0
  obtain ⟨⟨rfl, b1⟩, rfl⟩ := g1
  exact ⟨A0, c0, f0, rfl, rfl, g0, b1⟩

theorem owl_CacheEntry {w : World} {cs : List Value} {x : Ty.D tCacheEntry} {fp : List Nat} (h : Ty.ow w tCacheEntry cs x fp) : ∃ (A00 : Option Addr) (c00 : Nat) (A01 : Option Addr) (c01 : Nat) (A02 : Option Addr) (c02 : Nat) (f00 : List Nat) (f01 : List Nat) (f02 : List Nat), cs = [.slice A00 (List.length x.1.1) c00, .slice A01 (List.length x.1.2.1) c01, .slice A02 (List.length x.1.2.2.1) c02, .int .i64 x.1.2.2.2.1, .int .i64 x.1.2.2.2.2, .int .i64 x.2] ∧ fp = ((f00 ++ (f01 ++ (f02 ++ ([] ++ [])))) ++ []) ∧ (Ty.ow w (.sl .str) [.slice A00 (List.length x.1.1) c00] x.1.1 f00) ∧ (Ty.ow w (.sl .byte) [.slice A01 (List.length x.1.2.1) c01] x.1.2.1 f01) ∧ (Ty.ow w (.sl .str) [.slice A02 (List.length x.1.2.2.1) c02] x.1.2.2.1 f02) ∧ (-9223372036854775808 ≤ x.1.2.2.2.1 ∧ x.1.2.2.2.1 ≤ 9223372036854775807) ∧ (-9223372036854775808 ≤ x.1.2.2.2.2 ∧ x.1.2.2.2.2 ≤ 9223372036854775807) ∧ (-9223372036854775808 ≤ x.2 ∧ x.2 ≤ 9223372036854775807) := by
  obtain ⟨k0, r0, f0, t0, rfl, rfl, g0, q0⟩ := h
  have g1 := q0
  obtain ⟨k00, r00, f00, t00, rfl, rfl, g00, q00⟩ := g0
  obtain ⟨k01, r01, f01, t01, rfl, rfl, g01, q01⟩ := q00
  obtain ⟨k02, r02, f02, t02, rfl, rfl, g02, q02⟩ := q01
  obtain ⟨k03, r03, f03, t03, rfl, rfl, g03, q03⟩ := q02
  have g04 := q03
  obtain ⟨A00, c00, rfl⟩ := Ty.ow_slv g00
  obtain ⟨A01, c01, rfl⟩ := Ty.ow_slv g01
  obtain ⟨A02, c02, rfl⟩ := Ty.ow_slv g02
  obtain ⟨⟨rfl, b03⟩, rfl⟩ := g03
  obtain ⟨⟨rfl, b04⟩, rfl⟩ := g04
  obtain ⟨⟨rfl, b1⟩, rfl⟩ := g1
  exact ⟨A00, c00, A01, c01, A02, c02, f00, f01, f02, rfl, rfl, g00, g01, g02, b03, b04, b1⟩

theorem owl_ContentStore {w : World} {cs : List Value} {x : Ty.D tContentStore} {fp : List Nat} (h : Ty.ow w tContentStore cs x fp) : ∃ (A1 : Option Addr) (c1 : Nat) (f1 : List Nat), cs = [.int .i64 x.1, .slice A1 (List.length x.2) c1] ∧ fp = ([] ++ f1) ∧ (-9223372036854775808 ≤ x.1 ∧ x.1 ≤ 9223372036854775807) ∧ (Ty.ow w (.sl tCacheEntry) [.slice A1 (List.length x.2) c1] x.2 f1) := by
  obtain ⟨k0, r0, f0, t0, rfl, rfl, g0, q0⟩ := h
  have g1 := q0
  obtain ⟨⟨rfl, b0⟩, rfl⟩ := g0
  obtain ⟨A1, c1, rfl⟩ := Ty.ow_slv g1
  exact ⟨A1, c1, t0, rfl, rfl, b0, g1⟩

theorem owl_PendingInterest {w : World} {cs : List Value} {x : Ty.D tPendingInterest} {fp : List Nat} (h : Ty.ow w tPendingInterest cs x fp) : ∃ (A0 : Option Addr) (c0 : Nat) (A1 : Option Addr) (c1 : Nat) (f0 : List Nat) (f1 : List Nat), cs = [.slice A0 (List.length x.1) c0, .slice A1 (List.length x.2.1) c1, .int .i64 x.2.2] ∧ fp = (f0 ++ (f1 ++ [])) ∧ (Ty.ow w (.sl .str) [.slice A0 (List.length x.1) c0] x.1 f0) ∧ (Ty.ow w (.sl tRequester) [.slice A1 (List.length x.2.1) c1] x.2.1 f1) ∧ (-9223372036854775808 ≤ x.2.2 ∧ x.2.2 ≤ 9223372036854775807) := by
  obtain ⟨k0, r0, f0, t0, rfl, rfl, g0, q0⟩ := h
  obtain ⟨k1, r1, f1, t1, rfl, rfl, g1, q1⟩ := q0
  have g2 := q1
  obtain ⟨A0, c0, rfl⟩ := Ty.ow_slv g0
  obtain ⟨A1, c1, rfl⟩ := Ty.ow_slv g1
  obtain ⟨⟨rfl, b2⟩, rfl⟩ := g2
  exact ⟨A0, c0, A1, c1, f0, f1, rfl, rfl, g0, g1, b2⟩

theorem owl_TrustPolicy {w : World} {cs : List Value} {x : Ty.D tTrustPolicy} {fp : List Nat} (h : Ty.ow w tTrustPolicy cs x fp) : ∃ (A0 : Option Addr) (c0 : Nat) (A1 : Option Addr) (c1 : Nat) (A2 : Option Addr) (c2 : Nat) (A3 : Option Addr) (c3 : Nat) (f0 : List Nat) (f1 : List Nat) (f2 : List Nat) (f3 : List Nat), cs = [.slice A0 (List.length x.1) c0, .slice A1 (List.length x.2.1) c1, .slice A2 (List.length x.2.2.1) c2, .slice A3 (List.length x.2.2.2) c3] ∧ fp = (f0 ++ (f1 ++ (f2 ++ f3))) ∧ (Ty.ow w (.sl tKey) [.slice A0 (List.length x.1) c0] x.1 f0) ∧ (Ty.ow w (.sl tRule) [.slice A1 (List.length x.2.1) c1] x.2.1 f1) ∧ (Ty.ow w (.sl (.sl .str)) [.slice A2 (List.length x.2.2.1) c2] x.2.2.1 f2) ∧ (Ty.ow w (.sl tData) [.slice A3 (List.length x.2.2.2) c3] x.2.2.2 f3) := by
  obtain ⟨k0, r0, f0, t0, rfl, rfl, g0, q0⟩ := h
  obtain ⟨k1, r1, f1, t1, rfl, rfl, g1, q1⟩ := q0
  obtain ⟨k2, r2, f2, t2, rfl, rfl, g2, q2⟩ := q1
  have g3 := q2
  obtain ⟨A0, c0, rfl⟩ := Ty.ow_slv g0
  obtain ⟨A1, c1, rfl⟩ := Ty.ow_slv g1
  obtain ⟨A2, c2, rfl⟩ := Ty.ow_slv g2
  obtain ⟨A3, c3, rfl⟩ := Ty.ow_slv g3
  exact ⟨A0, c0, A1, c1, A2, c2, A3, c3, f0, f1, f2, t2, rfl, rfl, g0, g1, g2, g3⟩

end Go.Proofs.Ytldgbnlcnlfmeaa
