/- A wider range. -/
import Derived.Test.YtbnckhfkkoncbaaV45
namespace Go.Vg
open Go.RowKit Ieee
theorem cmp_of_ge {x y : Int} (h : y ≤ x) : compare x y = .gt ∨ compare x y = .eq := by
  simp only [compare, compareOfLessAndEq]
  by_cases e : x = y
  · right; rw [if_neg (by omega), if_pos e]
  · left; rw [if_neg (by omega), if_neg e]
theorem cmp_of_le {x y : Int} (h : x ≤ y) : compare x y = .lt ∨ compare x y = .eq := by
  simp only [compare, compareOfLessAndEq]
  by_cases e : x = y
  · right; rw [if_neg (by omega), if_pos e]
  · left; rw [if_pos (by omega)]
theorem inR_mono {lo hi lo' hi' b : Nat} {t1 t2 t3 t4 : Bool} {n1 n2 n3 n4 : Nat} {j : Int} (h1 : double.read lo = .number t1 n1 j) (h2 : double.read hi = .number t2 n2 j) (h3 : double.read lo' = .number t3 n3 j) (h4 : double.read hi' = .number t4 n4 j)
    (e1 : signed t3 n3 0 ≤ signed t1 n1 0) (e2 : signed t2 n2 0 ≤ signed t4 n4 0) (hb : inR lo hi b = true) : inR lo' hi' b = true := by
  unfold inR at hb ⊢
  simp only [Bool.and_eq_true, Bool.or_eq_true, beq_iff_eq] at hb ⊢
  obtain ⟨hb1, hb2⟩ := hb
  have hb1 : (double.read b).order (double.read lo) = some .gt ∨ (double.read b).order (double.read lo) = some .eq := hb1
  have hb2 : (double.read b).order (double.read hi) = some .lt ∨ (double.read b).order (double.read hi) = some .eq := hb2
  show ((double.read b).order (double.read lo') = some .gt ∨ (double.read b).order (double.read lo') = some .eq) ∧ ((double.read b).order (double.read hi') = some .lt ∨ (double.read b).order (double.read hi') = some .eq)
  rw [h1] at hb1
  rw [h2] at hb2
  rw [h3, h4]
  cases hr : double.read b with
  | nan s f => rw [hr] at hb1; simp [Datum.order] at hb1
  | infinity s =>
    rw [hr] at hb1 hb2
    cases s <;> simp [Datum.order] at hb1 hb2
  | number s m i =>
    rw [hr] at hb1 hb2
    simp only [Datum.order, Option.some.injEq] at hb1 hb2 ⊢
    have k1 := cmp_ge hb1
    have k2 := cmp_le hb2
    rw [signed_mul t1] at k1
    rw [signed_mul t2] at k2
    have hp : (0 : Int) ≤ ((2 ^ (j - min i j).toNat : Nat) : Int) := Int.natCast_nonneg _
    refine ⟨cmp_of_ge ?_, cmp_of_le ?_⟩
    · rw [signed_mul t3]
      exact Int.le_trans (Int.mul_le_mul_of_nonneg_right e1 hp) k1
    · rw [signed_mul t4]
      exact Int.le_trans k2 (Int.mul_le_mul_of_nonneg_right e2 hp)
end Go.Vg
