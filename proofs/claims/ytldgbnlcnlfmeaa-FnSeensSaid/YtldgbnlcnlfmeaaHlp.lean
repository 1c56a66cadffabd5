/- The helper functions of the statements: sizes, copies, comparisons, marks, for each type. Printed by a program. -/
import Derived.Test.YtldgbnlcnlfmeaaStr
import Derived.StillTailTactics
namespace Go.Proofs.Ytldgbnlcnlfmeaa
open Go.RowKit
set_option linter.unusedVariables false
set_option linter.unusedSimpArgs false

theorem info_Name : (Try.prog.info? 27).map (fun i => (i.zero, i.size, i.bytes)) = some (some (.agg #[.slice none 0 0]), 1, 24) := by kernel_rfl
abbrev tInterest : Ty := (.pr (.sl .str) (.pr .int (.pr .int .int)))
theorem rd_Interest {w : World} {cs : List Value} {x : tInterest.D} (h : tInterest.rd w cs x) : ∃ (A0 : Option Addr) (c0 : Nat), cs = [.slice A0 (List.length x.1) c0, .int .i64 x.2.1, .int .i64 x.2.2.1, .int .i64 x.2.2.2] ∧ (Ty.rd w (.sl .str) [.slice A0 (List.length x.1) c0] x.1) ∧ (-9223372036854775808 ≤ x.2.1 ∧ x.2.1 ≤ 9223372036854775807) ∧ (-9223372036854775808 ≤ x.2.2.1 ∧ x.2.2.1 ≤ 9223372036854775807) ∧ (-9223372036854775808 ≤ x.2.2.2 ∧ x.2.2.2 ≤ 9223372036854775807) := by
  obtain ⟨c0, r0, rfl, g0, q0⟩ := h
  obtain ⟨c1, r1, rfl, g1, q1⟩ := q0
  obtain ⟨c2, r2, rfl, g2, q2⟩ := q1
  have g3 := q2
  obtain ⟨A0, c0, rfl⟩ := Ty.rd_slv g0
  obtain ⟨rfl, b1⟩ := g1
  obtain ⟨rfl, b2⟩ := g2
  obtain ⟨rfl, b3⟩ := g3
  exact ⟨A0, c0, rfl, g0, b1, b2, b3⟩

theorem ow_Interest {w : World} {cs : List Value} {x : tInterest.D} {fp : List Nat} (h : tInterest.ow w cs x fp) : ∃ (A0 : Option Addr) (c0 : Nat), cs = [.slice A0 (List.length x.1) c0, .int .i64 x.2.1, .int .i64 x.2.2.1, .int .i64 x.2.2.2] := by
  obtain ⟨c0, r0, f0, t0, rfl, _, g0, q0⟩ := h
  obtain ⟨c1, r1, f1, t1, rfl, _, g1, q1⟩ := q0
  obtain ⟨c2, r2, f2, t2, rfl, _, g2, q2⟩ := q1
  have g3 := q2
  obtain ⟨A0, c0, rfl⟩ := Ty.ow_slv g0
  obtain ⟨⟨rfl, b1⟩, _⟩ := g1
  obtain ⟨⟨rfl, b2⟩, _⟩ := g2
  obtain ⟨⟨rfl, b3⟩, _⟩ := g3
  exact ⟨A0, c0, rfl⟩

abbrev tData : Ty := (.pr (.sl .str) (.pr (.sl .byte) (.pr (.sl .str) (.pr .int .int))))
theorem rd_Data {w : World} {cs : List Value} {x : tData.D} (h : tData.rd w cs x) : ∃ (A0 : Option Addr) (c0 : Nat) (A1 : Option Addr) (c1 : Nat) (A2 : Option Addr) (c2 : Nat), cs = [.slice A0 (List.length x.1) c0, .slice A1 (List.length x.2.1) c1, .slice A2 (List.length x.2.2.1) c2, .int .i64 x.2.2.2.1, .int .i64 x.2.2.2.2] ∧ (Ty.rd w (.sl .str) [.slice A0 (List.length x.1) c0] x.1) ∧ (Ty.rd w (.sl .byte) [.slice A1 (List.length x.2.1) c1] x.2.1) ∧ (Ty.rd w (.sl .str) [.slice A2 (List.length x.2.2.1) c2] x.2.2.1) ∧ (-9223372036854775808 ≤ x.2.2.2.1 ∧ x.2.2.2.1 ≤ 9223372036854775807) ∧ (-9223372036854775808 ≤ x.2.2.2.2 ∧ x.2.2.2.2 ≤ 9223372036854775807) := by
  obtain ⟨c0, r0, rfl, g0, q0⟩ := h
  obtain ⟨c1, r1, rfl, g1, q1⟩ := q0
  obtain ⟨c2, r2, rfl, g2, q2⟩ := q1
  obtain ⟨c3, r3, rfl, g3, q3⟩ := q2
  have g4 := q3
  obtain ⟨A0, c0, rfl⟩ := Ty.rd_slv g0
  obtain ⟨A1, c1, rfl⟩ := Ty.rd_slv g1
  obtain ⟨A2, c2, rfl⟩ := Ty.rd_slv g2
  obtain ⟨rfl, b3⟩ := g3
  obtain ⟨rfl, b4⟩ := g4
  exact ⟨A0, c0, A1, c1, A2, c2, rfl, g0, g1, g2, b3, b4⟩

theorem ow_Data {w : World} {cs : List Value} {x : tData.D} {fp : List Nat} (h : tData.ow w cs x fp) : ∃ (A0 : Option Addr) (c0 : Nat) (A1 : Option Addr) (c1 : Nat) (A2 : Option Addr) (c2 : Nat), cs = [.slice A0 (List.length x.1) c0, .slice A1 (List.length x.2.1) c1, .slice A2 (List.length x.2.2.1) c2, .int .i64 x.2.2.2.1, .int .i64 x.2.2.2.2] := by
  obtain ⟨c0, r0, f0, t0, rfl, _, g0, q0⟩ := h
  obtain ⟨c1, r1, f1, t1, rfl, _, g1, q1⟩ := q0
  obtain ⟨c2, r2, f2, t2, rfl, _, g2, q2⟩ := q1
  obtain ⟨c3, r3, f3, t3, rfl, _, g3, q3⟩ := q2
  have g4 := q3
  obtain ⟨A0, c0, rfl⟩ := Ty.ow_slv g0
  obtain ⟨A1, c1, rfl⟩ := Ty.ow_slv g1
  obtain ⟨A2, c2, rfl⟩ := Ty.ow_slv g2
  obtain ⟨⟨rfl, b3⟩, _⟩ := g3
  obtain ⟨⟨rfl, b4⟩, _⟩ := g4
  exact ⟨A0, c0, A1, c1, A2, c2, rfl⟩

theorem info_Data : (Try.prog.info? 46).map (fun i => (i.zero, i.size, i.bytes)) = some (some (.agg #[.slice none 0 0, .slice none 0 0, .slice none 0 0, .int .i64 0, .int .i64 0]), 5, 88) := by kernel_rfl
abbrev tKey : Ty := (.pr (.sl .str) .int)
theorem rd_Key {w : World} {cs : List Value} {x : tKey.D} (h : tKey.rd w cs x) : ∃ (A0 : Option Addr) (c0 : Nat), cs = [.slice A0 (List.length x.1) c0, .int .i64 x.2] ∧ (Ty.rd w (.sl .str) [.slice A0 (List.length x.1) c0] x.1) ∧ (-9223372036854775808 ≤ x.2 ∧ x.2 ≤ 9223372036854775807) := by
  obtain ⟨c0, r0, rfl, g0, q0⟩ := h
  have g1 := q0
  obtain ⟨A0, c0, rfl⟩ := Ty.rd_slv g0
  obtain ⟨rfl, b1⟩ := g1
  exact ⟨A0, c0, rfl, g0, b1⟩

theorem ow_Key {w : World} {cs : List Value} {x : tKey.D} {fp : List Nat} (h : tKey.ow w cs x fp) : ∃ (A0 : Option Addr) (c0 : Nat), cs = [.slice A0 (List.length x.1) c0, .int .i64 x.2] := by
  obtain ⟨c0, r0, f0, t0, rfl, _, g0, q0⟩ := h
  have g1 := q0
  obtain ⟨A0, c0, rfl⟩ := Ty.ow_slv g0
  obtain ⟨⟨rfl, b1⟩, _⟩ := g1
  exact ⟨A0, c0, rfl⟩

theorem info_Key : (Try.prog.info? 164).map (fun i => (i.zero, i.size, i.bytes)) = some (some (.agg #[.slice none 0 0, .int .i64 0]), 2, 32) := by kernel_rfl
abbrev tRule : Ty := (.pr (.sl .str) (.sl .str))
theorem rd_Rule {w : World} {cs : List Value} {x : tRule.D} (h : tRule.rd w cs x) : ∃ (A0 : Option Addr) (c0 : Nat) (A1 : Option Addr) (c1 : Nat), cs = [.slice A0 (List.length x.1) c0, .slice A1 (List.length x.2) c1] ∧ (Ty.rd w (.sl .str) [.slice A0 (List.length x.1) c0] x.1) ∧ (Ty.rd w (.sl .str) [.slice A1 (List.length x.2) c1] x.2) := by
  obtain ⟨c0, r0, rfl, g0, q0⟩ := h
  have g1 := q0
  obtain ⟨A0, c0, rfl⟩ := Ty.rd_slv g0
  obtain ⟨A1, c1, rfl⟩ := Ty.rd_slv g1
  exact ⟨A0, c0, A1, c1, rfl, g0, g1⟩

theorem ow_Rule {w : World} {cs : List Value} {x : tRule.D} {fp : List Nat} (h : tRule.ow w cs x fp) : ∃ (A0 : Option Addr) (c0 : Nat) (A1 : Option Addr) (c1 : Nat), cs = [.slice A0 (List.length x.1) c0, .slice A1 (List.length x.2) c1] := by
  obtain ⟨c0, r0, f0, t0, rfl, _, g0, q0⟩ := h
  have g1 := q0
  obtain ⟨A0, c0, rfl⟩ := Ty.ow_slv g0
  obtain ⟨A1, c1, rfl⟩ := Ty.ow_slv g1
  exact ⟨A0, c0, A1, c1, rfl⟩

theorem info_Rule : (Try.prog.info? 167).map (fun i => (i.zero, i.size, i.bytes)) = some (some (.agg #[.slice none 0 0, .slice none 0 0]), 2, 48) := by kernel_rfl
abbrev tRequester : Ty := (.pr .int (.pr .int .int))
theorem rd_Requester {w : World} {cs : List Value} {x : tRequester.D} (h : tRequester.rd w cs x) : cs = [.int .i64 x.1, .int .i64 x.2.1, .int .i64 x.2.2] ∧ (-9223372036854775808 ≤ x.1 ∧ x.1 ≤ 9223372036854775807) ∧ (-9223372036854775808 ≤ x.2.1 ∧ x.2.1 ≤ 9223372036854775807) ∧ (-9223372036854775808 ≤ x.2.2 ∧ x.2.2 ≤ 9223372036854775807) := by
  obtain ⟨c0, r0, rfl, g0, q0⟩ := h
  obtain ⟨c1, r1, rfl, g1, q1⟩ := q0
  have g2 := q1
  obtain ⟨rfl, b0⟩ := g0
  obtain ⟨rfl, b1⟩ := g1
  obtain ⟨rfl, b2⟩ := g2
  exact ⟨rfl, b0, b1, b2⟩

theorem ow_Requester {w : World} {cs : List Value} {x : tRequester.D} {fp : List Nat} (h : tRequester.ow w cs x fp) : cs = [.int .i64 x.1, .int .i64 x.2.1, .int .i64 x.2.2] := by
  obtain ⟨c0, r0, f0, t0, rfl, _, g0, q0⟩ := h
  obtain ⟨c1, r1, f1, t1, rfl, _, g1, q1⟩ := q0
  have g2 := q1
  obtain ⟨⟨rfl, b0⟩, _⟩ := g0
  obtain ⟨⟨rfl, b1⟩, _⟩ := g1
  obtain ⟨⟨rfl, b2⟩, _⟩ := g2
  rfl

theorem info_Requester : (Try.prog.info? 107).map (fun i => (i.zero, i.size, i.bytes)) = some (some (.agg #[.int .i64 0, .int .i64 0, .int .i64 0]), 3, 24) := by kernel_rfl
abbrev tSeenNonce : Ty := (.pr (.sl .str) .int)
theorem rd_SeenNonce {w : World} {cs : List Value} {x : tSeenNonce.D} (h : tSeenNonce.rd w cs x) : ∃ (A0 : Option Addr) (c0 : Nat), cs = [.slice A0 (List.length x.1) c0, .int .i64 x.2] ∧ (Ty.rd w (.sl .str) [.slice A0 (List.length x.1) c0] x.1) ∧ (-9223372036854775808 ≤ x.2 ∧ x.2 ≤ 9223372036854775807) := by
  obtain ⟨c0, r0, rfl, g0, q0⟩ := h
  have g1 := q0
  obtain ⟨A0, c0, rfl⟩ := Ty.rd_slv g0
  obtain ⟨rfl, b1⟩ := g1
  exact ⟨A0, c0, rfl, g0, b1⟩

theorem ow_SeenNonce {w : World} {cs : List Value} {x : tSeenNonce.D} {fp : List Nat} (h : tSeenNonce.ow w cs x fp) : ∃ (A0 : Option Addr) (c0 : Nat), cs = [.slice A0 (List.length x.1) c0, .int .i64 x.2] := by
  obtain ⟨c0, r0, f0, t0, rfl, _, g0, q0⟩ := h
  have g1 := q0
  obtain ⟨A0, c0, rfl⟩ := Ty.ow_slv g0
  obtain ⟨⟨rfl, b1⟩, _⟩ := g1
  exact ⟨A0, c0, rfl⟩

theorem info_SeenNonce : (Try.prog.info? 38).map (fun i => (i.zero, i.size, i.bytes)) = some (some (.agg #[.slice none 0 0, .int .i64 0]), 2, 32) := by kernel_rfl
abbrev tCacheEntry : Ty := (.pr tData .int)
theorem rd_CacheEntry {w : World} {cs : List Value} {x : tCacheEntry.D} (h : tCacheEntry.rd w cs x) : ∃ (A00 : Option Addr) (c00 : Nat) (A01 : Option Addr) (c01 : Nat) (A02 : Option Addr) (c02 : Nat), cs = [.slice A00 (List.length x.1.1) c00, .slice A01 (List.length x.1.2.1) c01, .slice A02 (List.length x.1.2.2.1) c02, .int .i64 x.1.2.2.2.1, .int .i64 x.1.2.2.2.2, .int .i64 x.2] ∧ (Ty.rd w tData [.slice A00 (List.length x.1.1) c00, .slice A01 (List.length x.1.2.1) c01, .slice A02 (List.length x.1.2.2.1) c02, .int .i64 x.1.2.2.2.1, .int .i64 x.1.2.2.2.2] x.1) ∧ (-9223372036854775808 ≤ x.2 ∧ x.2 ≤ 9223372036854775807) := by
  obtain ⟨c0, r0, rfl, g0, q0⟩ := h
  have g1 := q0
  have g0' := g0
  obtain ⟨A00, c00, A01, c01, A02, c02, rfl, _, _, _, _, _⟩ := rd_Data g0'
  obtain ⟨rfl, b1⟩ := g1
  exact ⟨A00, c00, A01, c01, A02, c02, rfl, g0, b1⟩

theorem ow_CacheEntry {w : World} {cs : List Value} {x : tCacheEntry.D} {fp : List Nat} (h : tCacheEntry.ow w cs x fp) : ∃ (A00 : Option Addr) (c00 : Nat) (A01 : Option Addr) (c01 : Nat) (A02 : Option Addr) (c02 : Nat), cs = [.slice A00 (List.length x.1.1) c00, .slice A01 (List.length x.1.2.1) c01, .slice A02 (List.length x.1.2.2.1) c02, .int .i64 x.1.2.2.2.1, .int .i64 x.1.2.2.2.2, .int .i64 x.2] := by
  obtain ⟨c0, r0, f0, t0, rfl, _, g0, q0⟩ := h
  have g1 := q0
  obtain ⟨A00, c00, A01, c01, A02, c02, rfl⟩ := ow_Data g0
  obtain ⟨⟨rfl, b1⟩, _⟩ := g1
  exact ⟨A00, c00, A01, c01, A02, c02, rfl⟩

theorem info_CacheEntry : (Try.prog.info? 127).map (fun i => (i.zero, i.size, i.bytes)) = some (some (.agg #[.slice none 0 0, .slice none 0 0, .slice none 0 0, .int .i64 0, .int .i64 0, .int .i64 0]), 6, 96) := by kernel_rfl
abbrev tContentStore : Ty := (.pr .int (.sl tCacheEntry))
theorem rd_ContentStore {w : World} {cs : List Value} {x : tContentStore.D} (h : tContentStore.rd w cs x) : ∃ (A1 : Option Addr) (c1 : Nat), cs = [.int .i64 x.1, .slice A1 (List.length x.2) c1] ∧ (-9223372036854775808 ≤ x.1 ∧ x.1 ≤ 9223372036854775807) ∧ (Ty.rd w (.sl tCacheEntry) [.slice A1 (List.length x.2) c1] x.2) := by
  obtain ⟨c0, r0, rfl, g0, q0⟩ := h
  have g1 := q0
  obtain ⟨rfl, b0⟩ := g0
  obtain ⟨A1, c1, rfl⟩ := Ty.rd_slv g1
  exact ⟨A1, c1, rfl, b0, g1⟩

theorem ow_ContentStore {w : World} {cs : List Value} {x : tContentStore.D} {fp : List Nat} (h : tContentStore.ow w cs x fp) : ∃ (A1 : Option Addr) (c1 : Nat), cs = [.int .i64 x.1, .slice A1 (List.length x.2) c1] := by
  obtain ⟨c0, r0, f0, t0, rfl, _, g0, q0⟩ := h
  have g1 := q0
  obtain ⟨⟨rfl, b0⟩, _⟩ := g0
  obtain ⟨A1, c1, rfl⟩ := Ty.ow_slv g1
  exact ⟨A1, c1, rfl⟩

abbrev tPendingInterest : Ty := (.pr (.sl .str) (.pr (.sl tRequester) .int))
theorem rd_PendingInterest {w : World} {cs : List Value} {x : tPendingInterest.D} (h : tPendingInterest.rd w cs x) : ∃ (A0 : Option Addr) (c0 : Nat) (A1 : Option Addr) (c1 : Nat), cs = [.slice A0 (List.length x.1) c0, .slice A1 (List.length x.2.1) c1, .int .i64 x.2.2] ∧ (Ty.rd w (.sl .str) [.slice A0 (List.length x.1) c0] x.1) ∧ (Ty.rd w (.sl tRequester) [.slice A1 (List.length x.2.1) c1] x.2.1) ∧ (-9223372036854775808 ≤ x.2.2 ∧ x.2.2 ≤ 9223372036854775807) := by
  obtain ⟨c0, r0, rfl, g0, q0⟩ := h
  obtain ⟨c1, r1, rfl, g1, q1⟩ := q0
  have g2 := q1
  obtain ⟨A0, c0, rfl⟩ := Ty.rd_slv g0
  obtain ⟨A1, c1, rfl⟩ := Ty.rd_slv g1
  obtain ⟨rfl, b2⟩ := g2
  exact ⟨A0, c0, A1, c1, rfl, g0, g1, b2⟩

theorem ow_PendingInterest {w : World} {cs : List Value} {x : tPendingInterest.D} {fp : List Nat} (h : tPendingInterest.ow w cs x fp) : ∃ (A0 : Option Addr) (c0 : Nat) (A1 : Option Addr) (c1 : Nat), cs = [.slice A0 (List.length x.1) c0, .slice A1 (List.length x.2.1) c1, .int .i64 x.2.2] := by
  obtain ⟨c0, r0, f0, t0, rfl, _, g0, q0⟩ := h
  obtain ⟨c1, r1, f1, t1, rfl, _, g1, q1⟩ := q0
  have g2 := q1
  obtain ⟨A0, c0, rfl⟩ := Ty.ow_slv g0
  obtain ⟨A1, c1, rfl⟩ := Ty.ow_slv g1
  obtain ⟨⟨rfl, b2⟩, _⟩ := g2
  exact ⟨A0, c0, A1, c1, rfl⟩

theorem info_PendingInterest : (Try.prog.info? 104).map (fun i => (i.zero, i.size, i.bytes)) = some (some (.agg #[.slice none 0 0, .slice none 0 0, .int .i64 0]), 3, 56) := by kernel_rfl
abbrev tTrustPolicy : Ty := (.pr (.sl tKey) (.pr (.sl tRule) (.pr (.sl (.sl .str)) (.sl tData))))
theorem rd_TrustPolicy {w : World} {cs : List Value} {x : tTrustPolicy.D} (h : tTrustPolicy.rd w cs x) : ∃ (A0 : Option Addr) (c0 : Nat) (A1 : Option Addr) (c1 : Nat) (A2 : Option Addr) (c2 : Nat) (A3 : Option Addr) (c3 : Nat), cs = [.slice A0 (List.length x.1) c0, .slice A1 (List.length x.2.1) c1, .slice A2 (List.length x.2.2.1) c2, .slice A3 (List.length x.2.2.2) c3] ∧ (Ty.rd w (.sl tKey) [.slice A0 (List.length x.1) c0] x.1) ∧ (Ty.rd w (.sl tRule) [.slice A1 (List.length x.2.1) c1] x.2.1) ∧ (Ty.rd w (.sl (.sl .str)) [.slice A2 (List.length x.2.2.1) c2] x.2.2.1) ∧ (Ty.rd w (.sl tData) [.slice A3 (List.length x.2.2.2) c3] x.2.2.2) := by
  obtain ⟨c0, r0, rfl, g0, q0⟩ := h
  obtain ⟨c1, r1, rfl, g1, q1⟩ := q0
  obtain ⟨c2, r2, rfl, g2, q2⟩ := q1
  have g3 := q2
  obtain ⟨A0, c0, rfl⟩ := Ty.rd_slv g0
  obtain ⟨A1, c1, rfl⟩ := Ty.rd_slv g1
  obtain ⟨A2, c2, rfl⟩ := Ty.rd_slv g2
  obtain ⟨A3, c3, rfl⟩ := Ty.rd_slv g3
  exact ⟨A0, c0, A1, c1, A2, c2, A3, c3, rfl, g0, g1, g2, g3⟩

theorem ow_TrustPolicy {w : World} {cs : List Value} {x : tTrustPolicy.D} {fp : List Nat} (h : tTrustPolicy.ow w cs x fp) : ∃ (A0 : Option Addr) (c0 : Nat) (A1 : Option Addr) (c1 : Nat) (A2 : Option Addr) (c2 : Nat) (A3 : Option Addr) (c3 : Nat), cs = [.slice A0 (List.length x.1) c0, .slice A1 (List.length x.2.1) c1, .slice A2 (List.length x.2.2.1) c2, .slice A3 (List.length x.2.2.2) c3] := by
  obtain ⟨c0, r0, f0, t0, rfl, _, g0, q0⟩ := h
  obtain ⟨c1, r1, f1, t1, rfl, _, g1, q1⟩ := q0
  obtain ⟨c2, r2, f2, t2, rfl, _, g2, q2⟩ := q1
  have g3 := q2
  obtain ⟨A0, c0, rfl⟩ := Ty.ow_slv g0
  obtain ⟨A1, c1, rfl⟩ := Ty.ow_slv g1
  obtain ⟨A2, c2, rfl⟩ := Ty.ow_slv g2
  obtain ⟨A3, c3, rfl⟩ := Ty.ow_slv g3
  exact ⟨A0, c0, A1, c1, A2, c2, A3, c3, rfl⟩

end Go.Proofs.Ytldgbnlcnlfmeaa
