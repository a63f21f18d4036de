/- Floats of whole numbers, added. -/
import Derived.Test.YtbnckhfkkoncbaaV42
namespace Go.Vg
open Go.RowKit Ieee

theorem signed_abs {s : Bool} {c : Nat} {n : Int} (h : n.natAbs = c) (hs : n ≠ 0 → s = decide (n < 0)) : signed s c 0 = n := by
  rw [signed_zero]
  by_cases h0 : n = 0
  · subst h0
    have : c = 0 := by simpa using h.symm
    subst this
    cases s <;> simp
  · have := hs h0
    subst this
    by_cases hn : n < 0
    · simp only [hn, decide_true, if_true]; omega
    · simp only [hn, decide_false, Bool.false_eq_true, if_false]; omega
theorem signed_mulN (s : Bool) (a k : Nat) : signed s (a * k) 0 = signed s a 0 * (k : Int) := by
  rw [signed_zero, signed_zero]
  cases s <;> simp [Int.neg_mul]
theorem val_lo {s : Bool} {m : Nat} {i b n : Int} (h : HasInt (.number s m i) n) (hb : b ≤ 0) (hbi : b ≤ i) : signed s m (i - b).toNat = n * (2 ^ (-b).toNat : Nat) := by
  obtain ⟨s', m', e', he, h1, h2⟩ := h
  cases he
  rw [signed_mul]
  rcases h1 with ⟨h0, h1⟩ | ⟨h0, h1⟩
  · have hv := signed_abs (s := s) h1 h2
    rw [signed_mulN] at hv
    have e1 : (i - b).toNat = i.toNat + (-b).toNat := by omega
    rw [e1, Nat.pow_add, ← hv, Int.natCast_mul, Int.mul_assoc]
  · have hv := signed_abs (s := s) (rfl : n.natAbs = n.natAbs) h2
    rw [h1, signed_mulN, hv]
    have e1 : (-b).toNat = (-i).toNat + (i - b).toNat := by omega
    rw [e1, Nat.pow_add, Int.natCast_mul, Int.mul_assoc]
theorem val_hi {s : Bool} {m : Nat} {i b n : Int} (h : HasInt (.number s m i) n) (hb : 0 < b) (hbi : b ≤ i) : signed s m (i - b).toNat * (2 ^ b.toNat : Nat) = n := by
  obtain ⟨s', m', e', he, h1, h2⟩ := h
  cases he
  rw [signed_mul]
  rcases h1 with ⟨h0, h1⟩ | ⟨h0, h1⟩
  · have hv := signed_abs (s := s) h1 h2
    rw [signed_mulN] at hv
    have e1 : i.toNat = (i - b).toNat + b.toNat := by omega
    rw [e1, Nat.pow_add, Int.natCast_mul] at hv
    rw [Int.mul_assoc]; exact hv
  · omega
theorem sum_int {d e : Datum} {n k : Int} (h1 : HasInt d n) (h2 : HasInt e k) : ∃ s m p, d.sum e = some (.number s m p) ∧ HasInt (.number s m p) (n + k) := by
  obtain ⟨s, m, i, rfl, _⟩ := id h1
  obtain ⟨t, l, j, rfl, _⟩ := id h2
  refine ⟨_, _, _, rfl, ?_⟩
  generalize hT : signed s m (i - min i j).toNat + signed t l (j - min i j).toNat = T
  rcases Int.lt_or_le 0 (min i j) with hb | hb
  · have a1 := val_hi h1 hb (Int.min_le_left _ _)
    have a2 := val_hi h2 hb (Int.min_le_right _ _)
    have hs : T * (2 ^ (min i j).toNat : Nat) = n + k := by rw [← hT, Int.add_mul, a1, a2]
    have hp : (0 : Int) < ((2 ^ (min i j).toNat : Nat) : Int) := by exact_mod_cast Nat.pow_pos (by decide)
    refine ⟨_, _, _, rfl, .inl ⟨Int.le_of_lt hb, ?_⟩, fun h0 => ?_⟩
    · rw [← hs, Int.natAbs_mul, Int.natAbs_natCast]
    · have hT0 : T ≠ 0 := by rintro rfl; apply h0; rw [← hs, Int.zero_mul]
      rw [if_neg hT0, ← hs]
      by_cases hT : T < 0
      · rw [decide_eq_true hT, decide_eq_true (Int.mul_neg_of_neg_of_pos hT hp)]
      · have := Int.mul_nonneg (Int.not_lt.1 hT) (Int.le_of_lt hp)
        rw [decide_eq_false hT, decide_eq_false (by omega)]
  · have a1 := val_lo h1 hb (Int.min_le_left _ _)
    have a2 := val_lo h2 hb (Int.min_le_right _ _)
    have hs : T = (n + k) * (2 ^ (-(min i j)).toNat : Nat) := by rw [← hT, Int.add_mul, a1, a2]
    have hp : (0 : Int) < ((2 ^ (-(min i j)).toNat : Nat) : Int) := by exact_mod_cast Nat.pow_pos (by decide)
    have ha : T.natAbs = (n + k).natAbs * 2 ^ (-(min i j)).toNat := by rw [hs, Int.natAbs_mul, Int.natAbs_natCast]
    refine ⟨_, _, _, rfl, ?_, fun h0 => ?_⟩
    · rcases Int.lt_or_le (min i j) 0 with h | h
      · exact .inr ⟨h, ha⟩
      · have : min i j = 0 := by omega
        rw [this] at ha
        refine .inl ⟨h, ?_⟩
        rw [this, ha]; simp
    · have hT0 : T ≠ 0 := by
        rintro rfl
        rcases Int.mul_eq_zero.1 hs.symm with h | h
        · exact h0 h
        · omega
      rw [if_neg hT0]
      by_cases hn : n + k < 0
      · rw [decide_eq_true hn, hs, decide_eq_true (Int.mul_neg_of_neg_of_pos hn hp)]
      · have := Int.mul_nonneg (Int.not_lt.1 hn) (Int.le_of_lt hp)
        rw [decide_eq_false hn, hs, decide_eq_false (by omega)]
theorem add_isI {a b : Nat} {n k : Int} (h1 : IsI a n) (h2 : IsI b k) (hb : (n + k).natAbs < 9007199254740992) : ∃ r, floatBits .add .f64 a b = some r ∧ IsI r (n + k) := by
  obtain ⟨s, m, p, e, h⟩ := sum_int h1 h2
  refine ⟨double.nearest s m p, ?_, near_exact _ _ _ _ h hb⟩
  show ((double.read a).sum (double.read b)).map double.write = _
  rw [e]
  rfl
/-- one word is one whole number -/
theorem isI_uniq {b : Nat} {n k : Int} (h1 : IsI b n) (h2 : IsI b k) : n = k := by
  have := (toInt_isI h1).symm.trans (toInt_isI h2)
  simpa using this
end Go.Vg
