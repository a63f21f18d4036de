/- A float whose exponent is above nought lies outside. -/
import Derived.Test.YtbnckhfkkoncbaaV46
namespace Go.Vg
open Go.RowKit Ieee
theorem big_out {lo hi b : Nat} {s : Bool} {m : Nat} {i : Int} {n : Nat} (hr : double.read b = .number s m i) (h1 : double.read lo = .number true n (-16)) (h2 : double.read hi = .number false n (-16)) (hi1 : 1 ≤ i) (hm : 4503599627370496 ≤ m) (hn : n < 9007199254740992) : inR lo hi b = false := by
  cases hb : inR lo hi b with
  | false => rfl
  | true =>
    exfalso
    unfold inR at hb
    simp only [Bool.and_eq_true, Bool.or_eq_true, beq_iff_eq] at hb
    obtain ⟨hb1, hb2⟩ := hb
    have hb1 : (double.read b).order (double.read lo) = some .gt ∨ (double.read b).order (double.read lo) = some .eq := hb1
    have hb2 : (double.read b).order (double.read hi) = some .lt ∨ (double.read b).order (double.read hi) = some .eq := hb2
    rw [h1, hr] at hb1
    rw [h2, hr] at hb2
    simp only [Datum.order, Option.some.injEq] at hb1 hb2
    have k1 := cmp_ge hb1
    have k2 := cmp_le hb2
    have e1 : min i (-16) = -16 := by omega
    rw [e1] at k1 k2
    rw [signed_mul s, signed_mul true] at k1
    rw [signed_mul s, signed_mul false] at k2
    obtain ⟨q, hq⟩ : ∃ q, (i - -16).toNat = q + 1 := ⟨(i - -16).toNat - 1, by omega⟩
    rw [hq] at k1 k2
    have hp : 1 ≤ 2 ^ q := Nat.two_pow_pos q
    have hbig : m * 2 ≤ m * 2 ^ (q + 1) := Nat.mul_le_mul_left m (by rw [Nat.pow_succ]; omega)
    rw [signed_zero, signed_zero] at k1 k2
    have e0 : ((-16 : Int) - -16).toNat = 0 := by decide
    rw [e0] at k1 k2
    have hc : ((m : Int)) * ((2 ^ (q + 1) : Nat) : Int) = ((m * 2 ^ (q + 1) : Nat) : Int) := (Int.natCast_mul _ _).symm
    generalize m * 2 ^ (q + 1) = M at hbig hc
    cases s with
    | false =>
      simp only [Bool.false_eq_true, if_false, Nat.pow_zero] at k2
      rw [hc] at k2
      omega
    | true =>
      simp only [if_true, Nat.pow_zero] at k1
      rw [Int.neg_mul (m : Int), hc] at k1
      omega
theorem near_big {lo hi : Nat} {s : Bool} {c : Nat} {n : Nat} (h1 : double.read lo = .number true n (-16)) (h2 : double.read hi = .number false n (-16)) (hc : 9007199254740992 ≤ c) (hn : n < 9007199254740992) : inR lo hi (double.nearest s c 0) = false := by
  have h0 : c ≠ 0 := by omega
  unfold Format.nearest
  rw [if_neg h0, d_least, d_bin, d_inf, d_frac]
  obtain ⟨L, hL⟩ : ∃ L, c.log2 = L := ⟨_, rfl⟩
  have hL1 : 2 ^ L ≤ c := by rw [← hL]; exact Nat.log2_self_le h0
  have hL2 : c < 2 ^ (L + 1) := by rw [← hL]; exact Nat.lt_log2_self
  have hL53 : 53 ≤ L := by
    rcases Nat.lt_or_ge L 53 with h | h
    · have := Nat.pow_le_pow_right (n := 2) (by decide) (show L + 1 ≤ 53 by omega)
      have e : 2 ^ 53 = 9007199254740992 := by decide
      omega
    · exact h
  have hmax : max ((0 : Int) + (c.log2 : Int) - ((52 : Nat) : Int)) (-1074) = (L : Int) - 52 := by omega
  rw [hmax]
  dsimp only
  have hkept : 4503599627370496 ≤ Toward.even.cut s (c <<< (0 - ((L : Int) - 52)).toNat) (((L : Int) - 52) - 0).toNat := by
    rw [show (0 - ((L : Int) - 52)).toNat = 0 by omega, show (((L : Int) - 52) - 0).toNat = L - 52 by omega, Nat.shiftLeft_zero]
    unfold Toward.cut
    dsimp only
    refine Nat.le_trans ?_ (Nat.le_add_right _ _)
    rw [Nat.shiftLeft_eq, Nat.one_mul, Nat.min_eq_left (by omega)]
    rw [Nat.le_div_iff_mul_le (Nat.two_pow_pos _)]
    have e : 4503599627370496 = 2 ^ 52 := by decide
    rw [e, ← Nat.pow_add, show 52 + (L - 52) = L by omega]
    exact hL1
  generalize Toward.even.cut s (c <<< (0 - ((L : Int) - 52)).toNat) (((L : Int) - 52) - 0).toNat = K at hkept
  obtain ⟨R, hR⟩ : ∃ R, min ((((L : Int) - 52) - -1074).toNat * 4503599627370496 + K) 9218868437227405312 = R := ⟨_, rfl⟩
  rw [hR]
  have hq : 1075 ≤ (((L : Int) - 52) - -1074).toNat := by omega
  have hR1 : 1076 * 4503599627370496 ≤ R := by
    have := Nat.mul_le_mul_right 4503599627370496 hq
    omega
  have hR2 : R ≤ 9218868437227405312 := by omega
  rcases Nat.lt_or_ge R 9218868437227405312 with h | h
  · refine big_out (s := s) (m := 4503599627370496 + R % 4503599627370496) (i := -1074 + (R / 4503599627370496 - 1 : Nat)) (by rw [read_word s R h, if_neg (by omega)]) h1 h2 ?_ (by omega) hn
    have : 1076 ≤ R / 4503599627370496 := by omega
    omega
  · have : R = 9218868437227405312 := by omega
    subst this
    have hi' : double.read (double.word s 9218868437227405312) = .infinity s := by cases s <;> decide
    cases hb : inR lo hi (double.word s 9218868437227405312) with
    | false => rfl
    | true =>
      exfalso
      unfold inR at hb
      simp only [Bool.and_eq_true, Bool.or_eq_true, beq_iff_eq] at hb
      obtain ⟨hb1, hb2⟩ := hb
      have hb1 : (double.read (double.word s 9218868437227405312)).order (double.read lo) = some .gt ∨ (double.read (double.word s 9218868437227405312)).order (double.read lo) = some .eq := hb1
      have hb2 : (double.read (double.word s 9218868437227405312)).order (double.read hi) = some .lt ∨ (double.read (double.word s 9218868437227405312)).order (double.read hi) = some .eq := hb2
      rw [hi', h1] at hb1
      rw [hi', h2] at hb2
      cases s <;> simp [Datum.order] at hb1 hb2
end Go.Vg
