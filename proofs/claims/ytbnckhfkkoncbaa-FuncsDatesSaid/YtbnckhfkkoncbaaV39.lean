/- Floats that stand for whole numbers. -/
import Derived.Test.YtbnckhfkkoncbaaV38
namespace Go.Vg
open Go.RowKit Ieee

/-- a datum that is the whole number n -/
def HasInt (d : Datum) (n : Int) : Prop := ∃ s m e, d = .number s m e ∧ ((0 ≤ e ∧ n.natAbs = m * 2 ^ e.toNat) ∨ (e < 0 ∧ m = n.natAbs * 2 ^ (-e).toNat)) ∧ (n ≠ 0 → s = decide (n < 0))
/-- a float that is the whole number n -/
def IsI (b : Nat) (n : Int) : Prop := HasInt (double.read b) n
theorem d_least : double.leastPlace = -1074 := by decide
theorem d_bin : double.binade = 4503599627370496 := by decide
theorem d_inf : double.infRung = 9218868437227405312 := by decide
theorem d_sw : double.signWeight = 9223372036854775808 := by decide
theorem d_frac : double.fractionBits = 52 := rfl
theorem read_word (s : Bool) (r : Nat) (h : r < 9218868437227405312) : double.read (double.word s r) = if r < 4503599627370496 then .number s r (-1074) else .number s (4503599627370496 + r % 4503599627370496) (-1074 + (r / 4503599627370496 - 1 : Nat)) := by
  unfold Format.read Format.word
  rw [d_least, d_bin, d_inf, d_sw]
  cases s with
  | false =>
    have h1 : r / 9223372036854775808 % 2 = 0 := by omega
    have h2 : r % 9223372036854775808 = r := by omega
    simp only [Bool.false_eq_true, if_false, h1, h2]
    split
    · rfl
    · rfl
  | true =>
    have h1 : (9223372036854775808 + r) / 9223372036854775808 % 2 = 1 := by omega
    have h2 : (9223372036854775808 + r) % 9223372036854775808 = r := by omega
    simp only [if_true, h1, h2]
    split
    · rfl
    · rfl
theorem cut_exact (s : Bool) (K d : Nat) (way : Toward) (hd : d ≤ (K * 2 ^ d).log2 + 2) : way.cut s (K * 2 ^ d) d = K := by
  have hp : 0 < 2 ^ d := Nat.two_pow_pos d
  have hg : 1 <<< min d ((K * 2 ^ d).log2 + 2) = 2 ^ d := by rw [Nat.min_eq_left hd, Nat.shiftLeft_eq, Nat.one_mul]
  simp only [Toward.cut, hg, Nat.mul_div_cancel _ hp, Nat.mul_mod_left]
  cases way <;> simp
theorem log2_mul_pow (m k : Nat) (hm : m ≠ 0) : (m * 2 ^ k).log2 = m.log2 + k := by
  have h1 := Nat.log2_self_le hm
  have h2 := Nat.lt_log2_self (n := m)
  have hp : 0 < 2 ^ k := Nat.two_pow_pos k
  refine (Nat.log2_eq_iff (Nat.mul_ne_zero hm (Nat.ne_of_gt hp))).2 ⟨?_, ?_⟩
  · rw [Nat.pow_add]; exact Nat.mul_le_mul_right _ h1
  · rw [show m.log2 + k + 1 = (m.log2 + 1) + k by omega, Nat.pow_add]; exact Nat.mul_lt_mul_of_pos_right h2 hp
theorem near_exact (s : Bool) (mag : Nat) (place : Int) (n : Int) (h : HasInt (.number s mag place) n) (hn : n.natAbs < 9007199254740992) : IsI (double.nearest s mag place) n := by
  obtain ⟨s', m', e', he, hv, hs⟩ := h
  cases he
  unfold IsI Format.nearest
  by_cases h0 : mag = 0
  · rw [if_pos h0, read_word s 0 (by omega), if_pos (by omega)]
    have hn0 : n.natAbs = 0 := by
      rcases hv with ⟨_, h⟩ | ⟨_, h⟩
      · rw [h, h0, Nat.zero_mul]
      · have hp : 0 < 2 ^ (-place).toNat := Nat.two_pow_pos _
        rcases Nat.eq_zero_or_pos n.natAbs with h' | h'
        · exact h'
        · have := Nat.mul_pos h' hp
          omega
    exact ⟨s, 0, -1074, rfl, .inr ⟨by omega, by rw [hn0, Nat.zero_mul]⟩, fun h => by omega⟩
  · rw [if_neg h0, d_least, d_bin, d_inf, d_frac]
    obtain ⟨N, hN⟩ : ∃ N, n.natAbs = N := ⟨_, rfl⟩
    rw [hN] at hv hn
    have hN0 : N ≠ 0 := by
      rintro rfl
      rcases hv with ⟨_, h⟩ | ⟨_, h⟩
      · have := Nat.mul_pos (Nat.pos_of_ne_zero h0) (Nat.two_pow_pos place.toNat); omega
      · rw [Nat.zero_mul] at h; exact h0 h
    obtain ⟨L, hL⟩ : ∃ L, N.log2 = L := ⟨_, rfl⟩
    have hL1 : 2 ^ L ≤ N := by rw [← hL]; exact Nat.log2_self_le hN0
    have hL2 : N < 2 ^ (L + 1) := by rw [← hL]; exact Nat.lt_log2_self
    have hL52 : L ≤ 52 := by
      rcases Nat.lt_or_ge 52 L with h | h
      · have := Nat.pow_le_pow_right (n := 2) (by decide) h
        have e : 2 ^ 53 = 9007199254740992 := by decide
        omega
      · exact h
    have hlog : place + mag.log2 = L := by
      rcases hv with ⟨h, hm⟩ | ⟨h, hm⟩
      · have := log2_mul_pow mag place.toNat h0
        rw [← hm, hL] at this; omega
      · have := log2_mul_pow N (-place).toNat hN0
        rw [← hm, hL] at this; omega
    have hmax : max (place + (mag.log2 : Int) - ((52 : Nat) : Int)) (-1074) = (L : Int) - 52 := by omega
    rw [hmax]
    obtain ⟨K, hK⟩ : ∃ K, K = N * 2 ^ (52 - L) := ⟨_, rfl⟩
    have hKlog : K.log2 = 52 := by rw [hK, log2_mul_pow _ _ hN0, hL]; omega
    have hK0 : K ≠ 0 := by rintro rfl; simp at hKlog
    have hK1 : 4503599627370496 ≤ K := by
      have := Nat.log2_self_le hK0
      rw [hKlog] at this; exact this
    have hK2 : K < 9007199254740992 := by
      have := Nat.lt_log2_self (n := K)
      rw [hKlog] at this; exact this
    have hkept : Toward.even.cut s (mag <<< (place - ((L : Int) - 52)).toNat) (((L : Int) - 52) - place).toNat = K := by
      rw [Nat.shiftLeft_eq]
      rcases Int.lt_or_le place ((L : Int) - 52) with hp | hp
      · -- digits of nought are dropped
        rcases hv with ⟨h, _⟩ | ⟨h, hm⟩
        · omega
        · rw [show (place - ((L : Int) - 52)).toNat = 0 by omega, Nat.pow_zero, Nat.mul_one]
          have e : mag = K * 2 ^ (((L : Int) - 52) - place).toNat := by
            rw [hm, hK, Nat.mul_assoc, ← Nat.pow_add]
            congr 2; omega
          have hlm : mag.log2 = 52 + (((L : Int) - 52) - place).toNat := by rw [e, log2_mul_pow _ _ hK0, hKlog]
          rw [e]
          exact cut_exact s K _ _ (by rw [← e]; omega)
      · rw [show (((L : Int) - 52) - place).toNat = 0 by omega]
        have e : mag * 2 ^ (place - ((L : Int) - 52)).toNat = K := by
          rcases hv with ⟨h, hm⟩ | ⟨h, hm⟩
          · rw [hK, hm, Nat.mul_assoc, ← Nat.pow_add]
            congr 2; omega
          · rw [hK, hm, Nat.mul_assoc, ← Nat.pow_add]
            congr 2; omega
        rw [e]
        have := cut_exact s K 0 .even (by omega)
        simpa using this
    dsimp only
    rw [hkept]
    have hr : (((L : Int) - 52) - -1074).toNat * 4503599627370496 + K < 9218868437227405312 := by
      have : (((L : Int) - 52) - -1074).toNat ≤ 1074 := by omega
      have := Nat.mul_le_mul_right 4503599627370496 this
      omega
    rw [Nat.min_eq_left (Nat.le_of_lt hr), read_word s _ hr]
    obtain ⟨q, hq⟩ : ∃ q, (((L : Int) - 52) - -1074).toNat = q := ⟨_, rfl⟩
    rw [hq]
    have h1 : (q * 4503599627370496 + K) / 4503599627370496 = q + 1 := by omega
    have h2 : (q * 4503599627370496 + K) % 4503599627370496 = K - 4503599627370496 := by omega
    rw [if_neg (by omega), h1, h2]
    refine ⟨s, _, _, rfl, ?_, hs⟩
    rw [hN]
    have e1 : 4503599627370496 + (K - 4503599627370496) = K := by omega
    rw [e1]
    rcases Nat.lt_or_ge L 52 with h | h
    · refine .inr ⟨by omega, ?_⟩
      rw [hK, show (-(-1074 + ((q + 1 - 1 : Nat) : Int))).toNat = 52 - L by omega]
    · refine .inl ⟨by omega, ?_⟩
      have : L = 52 := by omega
      rw [hK, this, show (-1074 + ((q + 1 - 1 : Nat) : Int)).toNat = 0 by omega, Nat.sub_self, Nat.pow_zero, Nat.mul_one, Nat.mul_one]
theorem ofInt_isI (n : Int) (hn : n.natAbs < 9007199254740992) : IsI (floatOfInt .f64 n) n := by
  show IsI (double.nearest (decide (n < 0)) n.natAbs 0) n
  exact near_exact _ _ _ _ ⟨_, _, _, rfl, .inl ⟨Int.le_refl _, by simp⟩, fun _ => rfl⟩ hn
end Go.Vg
