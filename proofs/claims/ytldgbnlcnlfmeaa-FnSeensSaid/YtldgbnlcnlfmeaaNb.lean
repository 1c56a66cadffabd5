/- Bounds on how many marks a result takes. No program in sight. -/
import Derived.Test.YtldgbnlcnlfmeaaMkb
namespace Go.Proofs.Ytldgbnlcnlfmeaa
set_option linter.unusedVariables false
set_option linter.unusedSimpArgs false

theorem cnt_bd {t : Ty} {x : t.D} {B : Nat} (h : t.bulk x ≤ B) (hk : t.k0 + t.wt * B ≤ 100000000000) : t.cnt x ≤ 100000000000 :=
  Nat.le_trans (Ty.cnt_le t x) (Nat.le_trans (Nat.add_le_add_left (Nat.mul_le_mul_left _ h) _) hk)
theorem cntv_bd {t : Ty} {x : t.D} {B : Nat} (h : t.bulk x ≤ B) (hk : t.wt * B ≤ 100000000000) : t.cntv x ≤ 100000000000 :=
  Nat.le_trans (Ty.cntv_le t x) (Nat.le_trans (Nat.mul_le_mul_left _ h) hk)
theorem bulk_app {e : Ty} (x y : List e.D) : Ty.bulk (.sl e) (x ++ y) = Ty.bulk (.sl e) x + Ty.bulk (.sl e) y := by
  show (x ++ y).length + ((x ++ y).map (fun d => e.bulk d)).sum = (x.length + (x.map (fun d => e.bulk d)).sum) + (y.length + (y.map (fun d => e.bulk d)).sum)
  rw [List.length_append, List.map_append, List.sum_append]; omega
theorem bulk_one {e : Ty} (d : e.D) : Ty.bulk (.sl e) [d] = e.bulk d + 1 := by
  show 1 + ([d].map (fun d => e.bulk d)).sum = _
  simp; omega
theorem bulk_nil {e : Ty} : Ty.bulk (.sl e) [] = 0 := rfl
theorem bulk_take {e : Ty} (x : List e.D) (k : Nat) : Ty.bulk (.sl e) (x.take k) ≤ Ty.bulk (.sl e) x := by
  have := bulk_app (e := e) (x.take k) (x.drop k)
  rw [List.take_append_drop] at this; omega
theorem bulk_drop {e : Ty} (x : List e.D) (k : Nat) : Ty.bulk (.sl e) (x.drop k) ≤ Ty.bulk (.sl e) x := by
  have := bulk_app (e := e) (x.take k) (x.drop k)
  rw [List.take_append_drop] at this; omega
end Go.Proofs.Ytldgbnlcnlfmeaa
