/- Floats cut down to whole numbers. -/
import Derived.Test.YtbnckhfkkoncbaaV39
namespace Go.Vg
open Go.RowKit Ieee

theorem cut_zero (s : Bool) (d : Nat) (way : Toward) : way.cut s 0 d = 0 := by
  unfold Toward.cut
  simp only [Nat.zero_div, Nat.zero_mod]
  cases way <;> simp
theorem cut_exact' (s : Bool) (K d : Nat) (way : Toward) : way.cut s (K * 2 ^ d) d = K := by
  by_cases h : K = 0
  · subst h; rw [Nat.zero_mul]; exact cut_zero s d way
  · exact cut_exact s K d way (by rw [log2_mul_pow _ _ h]; omega)
theorem signed_zero (s : Bool) (m : Nat) : signed s m 0 = if s then -(m : Int) else m := by unfold signed; simp
/-- a whole float as an integer -/
theorem toInt_isI {d : Datum} {n : Int} (h : HasInt d n) : d.toInt .zero = some n := by
  obtain ⟨s, m, e, rfl, hv, hs⟩ := h
  unfold Datum.toInt Datum.integral
  have hc : Toward.zero.cut s (m <<< e.toNat) (-e).toNat = n.natAbs := by
    rw [Nat.shiftLeft_eq]
    rcases hv with ⟨h, hm⟩ | ⟨h, hm⟩
    · rw [show (-e).toNat = 0 by omega, hm]
      have := cut_exact' s (m * 2 ^ e.toNat) 0 .zero
      simpa using this
    · rw [show e.toNat = 0 by omega, Nat.pow_zero, Nat.mul_one, hm]
      exact cut_exact' s n.natAbs _ .zero
  simp only [hc, signed_zero]
  congr 1
  by_cases h0 : n = 0
  · subst h0; cases s <;> rfl
  · rw [hs h0]
    by_cases hn : n < 0
    · simp only [hn, decide_true, if_true]; omega
    · simp only [hn, decide_false, Bool.false_eq_true, if_false]; omega
/-- the whole number below -/
def floorI (s : Bool) (m : Nat) (i : Int) : Int := signed s (Toward.down.cut s (m <<< i.toNat) (-i).toNat) 0
theorem floor_cut (s : Bool) (m d : Nat) : signed s (Toward.down.cut s m d) 0 * (2 ^ d : Nat) ≤ signed s m 0 ∧ signed s m 0 < (signed s (Toward.down.cut s m d) 0 + 1) * (2 ^ d : Nat) := by
  have hcut : Toward.down.cut s m d = m / 2 ^ d + (s && m % 2 ^ d != 0).toNat := by
    unfold Toward.cut
    rcases Nat.lt_or_ge (m.log2 + 2) d with h | h
    · rw [Nat.min_eq_right (Nat.le_of_lt h), Nat.shiftLeft_eq, Nat.one_mul]
      have h1 : m < 2 ^ (m.log2 + 2) := Nat.lt_trans (Nat.lt_log2_self) (Nat.pow_lt_pow_right (by decide) (by omega))
      have h2 : m < 2 ^ d := Nat.lt_trans h1 (Nat.pow_lt_pow_right (by decide) h)
      simp only [Nat.div_eq_of_lt h1, Nat.mod_eq_of_lt h1, Nat.div_eq_of_lt h2, Nat.mod_eq_of_lt h2]
    · rw [Nat.min_eq_left h, Nat.shiftLeft_eq, Nat.one_mul]
  have hp : 0 < 2 ^ d := Nat.two_pow_pos d
  generalize 2 ^ d = g at hcut hp
  have hm := Nat.div_add_mod m g
  have hlt := Nat.mod_lt m hp
  obtain ⟨q, hq⟩ : ∃ q, m / g = q := ⟨_, rfl⟩
  obtain ⟨r, hr⟩ : ∃ r, m % g = r := ⟨_, rfl⟩
  rw [hq, hr] at hm hcut
  rw [hr] at hlt
  rw [hcut, signed_zero, signed_zero]
  have hmI : (m : Int) = g * q + r := by omega
  cases s with
  | false =>
    simp only [Bool.false_and, Bool.toNat_false, Nat.add_zero, Bool.false_eq_true, if_false]
    rw [hmI]
    have e1 : (q : Int) * g = g * q := Int.mul_comm _ _
    have e2 : ((q : Int) + 1) * g = g * q + g := by rw [Int.add_mul, Int.one_mul, Int.mul_comm]
    rw [e1, e2]
    omega
  | true =>
    simp only [Bool.true_and, if_true]
    rw [hmI]
    by_cases h0 : r = 0
    · subst h0
      simp only [bne_self_eq_false, Bool.toNat_false, Nat.add_zero]
      have e1 : (-(q : Int)) * g = -(g * q : Int) := by rw [Int.neg_mul, Int.mul_comm]
      have e2 : (-(q : Int) + 1) * g = -(g * q : Int) + g := by rw [Int.add_mul, Int.one_mul, e1]
      rw [e1, e2]
      omega
    · have hb : (r != 0) = true := by simp [h0]
      simp only [hb, Bool.toNat_true]
      have e0 : (((q + 1 : Nat)) : Int) = (q : Int) + 1 := by omega
      have e1 : (-((q + 1 : Nat) : Int)) * g = -(g * q : Int) - g := by rw [e0, Int.neg_add, Int.add_mul, Int.neg_mul, Int.mul_comm, Int.neg_mul, Int.one_mul]; omega
      have e2 : (-((q + 1 : Nat) : Int) + 1) * g = -(g * q : Int) := by rw [Int.add_mul, Int.one_mul, e1]; omega
      rw [e1, e2]
      omega
end Go.Vg
