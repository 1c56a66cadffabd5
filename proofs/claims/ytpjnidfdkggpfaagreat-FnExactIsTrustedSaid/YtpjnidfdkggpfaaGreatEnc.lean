/- Bytes behind their length, rows of numbers as bytes. -/
import Derived.Test.YtpjnidfdkggpfaaGreatByt
namespace Go.Proofs.YtpjnidfdkggpfaaGreat
open Go.RowKit
set_option linter.unusedVariables false
set_option linter.unusedSimpArgs false

theorem varint_lt : ∀ (k n : Nat), n < 128 ^ (k + 1) → (varint n).length ≤ k + 1
  | 0, n, h => by rw [varint, dif_pos (by omega)]; simp
  | k + 1, n, h => by
    rw [varint]
    by_cases hn : n < 128
    · rw [dif_pos hn]; simp
    · rw [dif_neg hn, List.length_cons]
      have := varint_lt k (n / 128) (by rw [Nat.div_lt_iff_lt_mul (by decide)]; rw [Nat.pow_succ] at h; exact h)
      omega
theorem appendVarint_len (b : List UInt8) (n : Int) : (f_AppendVarint b n).length ≤ b.length + 6 := by
  unfold f_AppendVarint
  split
  · rename_i h
    have := varint_lt 5 n.toNat (by omega)
    rw [List.length_append]; omega
  · omega
def f_AppendBytes (b s : List UInt8) : List UInt8 := f_AppendVarint b s.length ++ s
def f_EncodeInts (l : List Int) : List UInt8 := l.foldl f_AppendVarint []
theorem encodeInts_take (l : List Int) {k : Nat} (h : k < l.length) : f_EncodeInts (l.take (k + 1)) = f_AppendVarint (f_EncodeInts (l.take k)) l[k] := by
  unfold f_EncodeInts
  rw [List.take_succ_eq_append_getElem h, List.foldl_append]; rfl
theorem encodeInts_len (l : List Int) : (f_EncodeInts l).length ≤ 6 * l.length := by
  have : ∀ (l : List Int) (b : List UInt8), (l.foldl f_AppendVarint b).length ≤ b.length + 6 * l.length := by
    intro l
    induction l with
    | nil => intro b; simp
    | cons a l ih => intro b; have h1 := ih (f_AppendVarint b a); have h2 := appendVarint_len b a; rw [List.foldl_cons, List.length_cons]; omega
  have := this l []
  simpa [f_EncodeInts] using this
set_option maxHeartbeats 1000000 in
theorem C_spec_AppendBytes (w : World) (v1 v2 : Value) (b s : List UInt8) (h1 : (Ty.sl .byte).rd w [v1] b) (h2 : (Ty.sl .byte).rd w [v2] s) (hb : b.length ≤ 1099511627776) (hs : s.length ≤ 1099511627776) :
    Calls Tryz.prog 115 #[v1, v2] w (RetRow flatB w 5 (f_AppendBytes b s)) := by
  obtain ⟨A2, c2, rfl, hc2, hm2, hn2⟩ := Ty.rd_sl h2
  go_enter Tryz.func115, Tryz.ntmps115
  go_wp2_with fail
  refine (C_spec_AppendVarint _ _ b (s.length : Int) h1 hb (by omega)).mono ?_
  rintro e w1 ⟨u1, rfl, hr1, hb1⟩
  have HR := Lib.hid hr1
  clear hr1
  have HL := Lib.hid (appendVarint_len b s.length)
  have hz := hb1.size
  set_option maxRecDepth 100000 in go_wp2_with (at_builtin; go_loud (refine wpList_append_row rfl _ _ 31 rfl flatB w.heap.size 5 infoB rfl Tryz.underlying31 _ _ (f_AppendVarint b s.length) s rfl rfl HR.out (Ty.rd_below (by repeat' (first | (with_reducible exact Below.refl _ _) | (with_reducible assumption) | (with_reducible refine bel_set ?_ (by (try dsimp only); omega) _) | (with_reducible refine bel_alloc ?_ _) | (with_reducible refine bel_drewN ?_ _) | (with_reducible refine bel_drew ?_))) h2) ?_ ?_ ?_ ?_))
  case refine_1 => have := HL.out; omega
  case refine_2 => have := HL.out; unfold maxLen; omega
  case refine_3 => exact hz
  case refine_4 =>
    intro v' w' hr' hg'
    have hb' : Below w.heap.size w w' := bel_grown hb1 hz hg' (fun g hg => (HR.out.block g hg).1)
    have HR' := Lib.hid hr'
    clear hr'
    go_wp2
    go_ret
    exact ⟨_, rfl, HR'.out, hb'⟩
set_option maxHeartbeats 1000000 in
theorem C_impl_AppendBytes (w : World) (v1 v2 : Value) (b s : List UInt8) (h1 : (Ty.sl .byte).rd w [v1] b) (h2 : (Ty.sl .byte).rd w [v2] s) (hb : b.length ≤ 1099511627776) (hs : s.length ≤ 1099511627776) :
    Calls Tryz.prog 121 #[v1, v2] w (RetRow flatB w 5 (f_AppendBytes b s)) := by
  obtain ⟨A2, c2, rfl, hc2, hm2, hn2⟩ := Ty.rd_sl h2
  go_enter Tryz.func121, Tryz.ntmps121
  go_wp2_with fail
  refine (C_impl_AppendVarint _ _ b (s.length : Int) h1 hb (by omega)).mono ?_
  rintro e w1 ⟨u1, rfl, hr1, hb1⟩
  have HR := Lib.hid hr1
  clear hr1
  have HL := Lib.hid (appendVarint_len b s.length)
  have hz := hb1.size
  set_option maxRecDepth 100000 in go_wp2_with (at_builtin; go_loud (refine wpList_append_row rfl _ _ 31 rfl flatB w.heap.size 5 infoB rfl Tryz.underlying31 _ _ (f_AppendVarint b s.length) s rfl rfl HR.out (Ty.rd_below (by repeat' (first | (with_reducible exact Below.refl _ _) | (with_reducible assumption) | (with_reducible refine bel_set ?_ (by (try dsimp only); omega) _) | (with_reducible refine bel_alloc ?_ _) | (with_reducible refine bel_drewN ?_ _) | (with_reducible refine bel_drew ?_))) h2) ?_ ?_ ?_ ?_))
  case refine_1 => have := HL.out; omega
  case refine_2 => have := HL.out; unfold maxLen; omega
  case refine_3 => exact hz
  case refine_4 =>
    intro v' w' hr' hg'
    have hb' : Below w.heap.size w w' := bel_grown hb1 hz hg' (fun g hg => (HR.out.block g hg).1)
    have HR' := Lib.hid hr'
    clear hr'
    go_wp2
    go_ret
    exact ⟨_, rfl, HR'.out, hb'⟩
end Go.Proofs.YtpjnidfdkggpfaaGreat
