/- A float between whole bounds: what it is cut down to lies between them. -/
import Derived.Test.YtbnckhfkkoncbaaV40
namespace Go.Vg
open Go.RowKit Ieee

theorem signed_mul (s : Bool) (m k : Nat) : signed s m k = signed s m 0 * (2 ^ k : Nat) := by
  rw [signed_zero]
  unfold signed
  rw [Nat.shiftLeft_eq]
  cases s
  · simp
  · simp [Int.neg_mul]
theorem floor_scale (s : Bool) (m : Nat) (i b : Int) (hb : b ≤ 0) (hbi : b ≤ i) : floorI s m i * (2 ^ (-b).toNat : Nat) ≤ signed s m (i - b).toNat ∧ signed s m (i - b).toNat < (floorI s m i + 1) * (2 ^ (-b).toNat : Nat) := by
  have hp : (0 : Int) < ((2 ^ (-b).toNat : Nat) : Int) := by have := Nat.two_pow_pos (-b).toNat; omega
  rcases Int.lt_or_le i 0 with h | h
  · have h1 := floor_cut s m (-i).toNat
    have hF : floorI s m i = signed s (Toward.down.cut s m (-i).toNat) 0 := by
      unfold floorI
      rw [show i.toNat = 0 by omega, Nat.shiftLeft_zero]
    rw [← hF] at h1
    have he : (2 ^ (-b).toNat : Nat) = 2 ^ (-i).toNat * 2 ^ (i - b).toNat := by rw [← Nat.pow_add]; congr 1; omega
    rw [signed_mul s m (i - b).toNat, he]
    obtain ⟨p, hpp⟩ : ∃ p, (2 ^ (-i).toNat : Nat) = p := ⟨_, rfl⟩
    obtain ⟨q, hqq⟩ : ∃ q, (2 ^ (i - b).toNat : Nat) = q := ⟨_, rfl⟩
    have hq0 : 0 < q := by rw [← hqq]; exact Nat.two_pow_pos _
    rw [hpp] at h1 ⊢
    rw [hqq]
    have e : (((p * q : Nat)) : Int) = (p : Int) * q := by push_cast; rfl
    rw [e, ← Int.mul_assoc, ← Int.mul_assoc]
    exact ⟨Int.mul_le_mul_of_nonneg_right h1.1 (by omega), Int.mul_lt_mul_of_pos_right h1.2 (by omega)⟩
  · have hF : floorI s m i = signed s m i.toNat := by
      unfold floorI
      rw [show (-i).toNat = 0 by omega]
      have := cut_exact' s (m <<< i.toNat) 0 .down
      rw [Nat.pow_zero, Nat.mul_one] at this
      rw [this, signed_zero]
      rfl
    rw [hF, signed_mul s m (i - b).toNat, signed_mul s m i.toNat]
    have he : (2 ^ (i - b).toNat : Nat) = 2 ^ i.toNat * 2 ^ (-b).toNat := by rw [← Nat.pow_add]; congr 1; omega
    rw [he]
    have e : (((2 ^ i.toNat * 2 ^ (-b).toNat : Nat)) : Int) = ((2 ^ i.toNat : Nat) : Int) * ((2 ^ (-b).toNat : Nat) : Int) := by push_cast; rfl
    rw [e, ← Int.mul_assoc, Int.add_mul, Int.one_mul]
    omega
theorem cmp_ge {x y : Int} (h : compare x y = .gt ∨ compare x y = .eq) : y ≤ x := by
  simp only [compare, compareOfLessAndEq] at h
  split at h
  · simp at h
  · omega
theorem cmp_le {x y : Int} (h : compare x y = .lt ∨ compare x y = .eq) : x ≤ y := by
  simp only [compare, compareOfLessAndEq] at h
  split at h
  · omega
  · split at h
    · omega
    · simp at h
theorem order_floor {s t : Bool} {m n : Nat} {i j C : Int} (hj : j ≤ 0) (hC : signed t n 0 = C * (2 ^ (-j).toNat : Nat)) :
    ((Datum.number s m i).order (.number t n j) = some .gt ∨ (Datum.number s m i).order (.number t n j) = some .eq → C ≤ floorI s m i) ∧
    ((Datum.number s m i).order (.number t n j) = some .lt ∨ (Datum.number s m i).order (.number t n j) = some .eq → floorI s m i ≤ C) := by
  have hb0 : min i j ≤ 0 := by omega
  have hf := floor_scale s m i (min i j) hb0 (by omega)
  have hY : signed t n (j - min i j).toNat = C * (2 ^ (-(min i j)).toNat : Nat) := by
    rw [signed_mul, hC]
    have he : (2 ^ (-(min i j)).toNat : Nat) = 2 ^ (-j).toNat * 2 ^ (j - min i j).toNat := by rw [← Nat.pow_add]; congr 1; omega
    rw [he]
    push_cast
    rw [Int.mul_assoc]
  have hp : (0 : Int) < ((2 ^ (-(min i j)).toNat : Nat) : Int) := by have := Nat.two_pow_pos (-(min i j)).toNat; omega
  simp only [Datum.order, Option.some.injEq]
  rw [hY]
  generalize ((2 ^ (-(min i j)).toNat : Nat) : Int) = P at hf hp ⊢
  generalize signed s m (i - min i j).toNat = X at hf ⊢
  constructor
  · intro h
    have := cmp_ge h
    have h2 : C * P < (floorI s m i + 1) * P := Int.lt_of_le_of_lt this hf.2
    have := Int.lt_of_mul_lt_mul_right h2 (Int.le_of_lt hp)
    omega
  · intro h
    have := cmp_le h
    have h2 : floorI s m i * P ≤ C * P := Int.le_trans hf.1 this
    exact Int.le_of_mul_le_mul_right h2 hp
end Go.Vg
