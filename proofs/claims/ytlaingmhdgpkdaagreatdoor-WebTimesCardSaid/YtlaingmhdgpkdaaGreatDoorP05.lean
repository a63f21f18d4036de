/- Part of the proof of a statement about the given program. -/
import Derived.Test.YtlaingmhdgpkdaaGreatDoorP04
import Derived.Shelf.Strings.Builder1
import Derived.Shelf.Strings.Builder2
import Derived.Shelf.Strings.OnBuilder
import Derived.Shelf.Strings.Trim
import Derived.Shelf.Strings.Cut
import Derived.Shelf.Strings.Split
import Derived.Shelf.Strings.Prefix
import Derived.Test.YtlaingmhdgpkdaaGreatDoorProg
import Derived.Lib.IndexLaws
import Derived.Lib.IndexMore
import Derived.Lib.TrimByte
import Derived.Lib.Case
import Derived.Shelf.Unicode.ValidAny
set_option linter.unusedSimpArgs false
set_option linter.unusedVariables false
set_option linter.unusedSectionVars false
section
namespace Go.Nm
open Go.Vg Ieee

def sg (s : Bool) : Int := if s then -1 else 1
theorem inf_eq : infB = 9218868437227405312 := by decide
theorem word_rung (s : Bool) (R : Nat) : double.word s R = R + sgn s := by
  unfold Format.word sgn
  rw [d_sw]
  cases s <;> simp
  omega
theorem read_rung (s : Bool) {R : Nat} (h : R < infB) : double.read (R + sgn s) = .number s (mB R) ((kB R : Int) - 1074) := by
  rw [inf_eq] at h
  rw [← word_rung, read_word s R h]
  unfold mB kB
  have e : (2 : Nat) ^ 52 = 4503599627370496 := by decide
  rw [e]
  by_cases h0 : R < 4503599627370496
  · rw [if_pos h0, if_pos (by omega), show R / 4503599627370496 - 1 = 0 by omega]
    rfl
  · rw [if_neg h0, if_neg (by omega), Nat.add_comm, Int.add_comm]
    rfl
theorem read_inf (s : Bool) : double.read (infB + sgn s) = .infinity s := by
  rw [← word_rung, inf_eq]
  cases s <;> decide
theorem read_nan : ∃ s f, double.read nanB = .nan s f := ⟨false, 2251799813685249, by decide +kernel⟩
theorem signed_sg (s : Bool) (m k : Nat) : Ieee.signed s m k = sg s * ((m * 2 ^ k : Nat) : Int) := by
  unfold Ieee.signed sg
  rw [Nat.shiftLeft_eq]
  cases s
  · rw [if_neg (by simp), if_neg (by simp), Int.one_mul]
  · rw [if_pos rfl, if_pos rfl, Int.neg_mul, Int.one_mul]
theorem order_rung (s t : Bool) {R Q : Nat} (h1 : R < infB) (h2 : Q < infB) : double.order (R + sgn s) (Q + sgn t) = some (compare (sg s * (vB R : Int)) (sg t * (vB Q : Int))) := by
  unfold Format.order
  rw [read_rung s h1, read_rung t h2]
  unfold Datum.order
  simp only
  obtain ⟨g, hg⟩ : ∃ g, g = min (kB R) (kB Q) := ⟨_, rfl⟩
  have e1 : ((kB R : Int) - 1074 - min ((kB R : Int) - 1074) ((kB Q : Int) - 1074)).toNat = kB R - g := by omega
  have e2 : ((kB Q : Int) - 1074 - min ((kB R : Int) - 1074) ((kB Q : Int) - 1074)).toNat = kB Q - g := by omega
  rw [e1, e2, signed_sg, signed_sg]
  have hc : (0 : Int) < ((2 * 2 ^ g : Nat) : Int) := by
    have := Nat.two_pow_pos g
    omega
  rw [← cmp_mul hc, Int.mul_assoc, Int.mul_assoc, ← Int.natCast_mul, ← Int.natCast_mul]
  have p : ∀ (m k : Nat), g ≤ k → m * 2 ^ (k - g) * (2 * 2 ^ g) = 2 * m * 2 ^ k := fun m k hk => by
    have : 2 ^ k = 2 ^ (k - g) * 2 ^ g := by rw [← Nat.pow_add]; congr 1; omega
    rw [this]
    generalize 2 ^ (k - g) = a
    generalize 2 ^ g = b
    rw [Nat.mul_comm 2 b, ← Nat.mul_assoc (m * a), Nat.mul_comm 2 m]
    simp only [Nat.mul_assoc, Nat.mul_left_comm, Nat.mul_comm]
  rw [p _ _ (by omega), p _ _ (by omega)]
  rfl
theorem vB_le_iff {a b : Nat} : vB a ≤ vB b ↔ a ≤ b := by
  constructor
  · intro h
    apply Nat.le_of_not_lt
    intro hlt
    have h1 := vB_lt b
    have h2 := vB_mono (show b + 1 ≤ a by omega)
    omega
  · exact vB_mono
/-- 2 to the 53 -/
def rM : Nat := 4845873199050653696
theorem rM_inf : rM < infB := by decide
theorem cmp_lt_iff {x y : Int} : compare x y = .lt ↔ x < y := by
  simp only [compare, compareOfLessAndEq]
  split <;> simp [*]
  split <;> simp
theorem cmp_eq_iff {x y : Int} : compare x y = .eq ↔ x = y := by
  simp only [compare, compareOfLessAndEq]
  split
  · simp; omega
  · split <;> simp [*]
theorem cmp_gt_iff {x y : Int} : compare x y = .gt ↔ y < x := by
  simp only [compare, compareOfLessAndEq]
  split
  · simp; omega
  · split
    · simp; omega
    · simp; omega
theorem leq_rung (s : Bool) {R Q : Nat} (t : Bool) (h1 : R < infB) (h2 : Q < infB) : fcmpB .leq (R + sgn s) (Q + sgn t) = some (decide (sg s * (vB R : Int) ≤ sg t * (vB Q : Int))) := by
  unfold fcmpB
  simp only
  rw [show FloatKind.f64.format.order (R + sgn s) (Q + sgn t) = some (compare (sg s * (vB R : Int)) (sg t * (vB Q : Int))) from order_rung s t h1 h2]
  congr 1
  rw [Bool.eq_iff_iff]
  simp only [Bool.or_eq_true, beq_iff_eq, Option.some.injEq, cmp_lt_iff, cmp_eq_iff, decide_eq_true_eq]
  omega
theorem geq_rung (s : Bool) {R Q : Nat} (t : Bool) (h1 : R < infB) (h2 : Q < infB) : fcmpB .geq (R + sgn s) (Q + sgn t) = some (decide (sg t * (vB Q : Int) ≤ sg s * (vB R : Int))) := by
  unfold fcmpB
  simp only
  rw [show FloatKind.f64.format.order (R + sgn s) (Q + sgn t) = some (compare (sg s * (vB R : Int)) (sg t * (vB Q : Int))) from order_rung s t h1 h2]
  congr 1
  rw [Bool.eq_iff_iff]
  simp only [Bool.or_eq_true, beq_iff_eq, Option.some.injEq, cmp_gt_iff, cmp_eq_iff, decide_eq_true_eq]
  omega
theorem abs_le {R : Nat} (h : R < infB) : fcmpB .leq R rM = some (decide (R ≤ rM)) := by
  have := leq_rung false false h rM_inf
  rw [show R + sgn false = R from rfl, show rM + sgn false = rM from rfl] at this
  rw [this]
  congr 1
  apply decide_eq_decide.2
  unfold sg
  simp only [Bool.false_eq_true, if_false, Int.one_mul]
  rw [← vB_le_iff]
  omega
theorem in_M (s : Bool) {R : Nat} (h : R < infB) : fcmpB .geq (R + sgn s) 14069245235905429504 = some (decide (sg true * (vB rM : Int) ≤ sg s * (vB R : Int))) ∧ fcmpB .leq (R + sgn s) rM = some (decide (sg s * (vB R : Int) ≤ sg false * (vB rM : Int))) ∧
    (decide (sg true * (vB rM : Int) ≤ sg s * (vB R : Int)) && decide (sg s * (vB R : Int) ≤ sg false * (vB rM : Int))) = decide (R ≤ rM) := by
  refine ⟨geq_rung s true h rM_inf, leq_rung s false h rM_inf, ?_⟩
  rw [Bool.eq_iff_iff]
  simp only [Bool.and_eq_true, decide_eq_true_eq]
  rw [← vB_le_iff]
  unfold sg
  have := vB_mono (Nat.zero_le rM)
  cases s <;> simp only [Bool.false_eq_true, if_false, if_true, Int.one_mul, Int.neg_mul] <;> omega
theorem nan_cmp {b : Nat} (h : ∃ s f, double.read b = .nan s f) (c : Nat) : fcmpB .leq b c = some false ∧ fcmpB .geq b c = some false ∧ fcmpB .gtr b c = some false ∧ fcmpB .neq b c = some true := by
  obtain ⟨s, f, h⟩ := h
  have : FloatKind.f64.format.order b c = none := by
    show (double.read b).order (double.read c) = none
    rw [h]; rfl
  unfold fcmpB
  simp only [this]
  exact ⟨rfl, rfl, rfl, rfl⟩
theorem inf_leq (c : Nat) {t : Bool} {n : Nat} {j : Int} (hc : double.read c = .number t n j) : fcmpB .leq infB c = some false ∧ fcmpB .gtr infB c = some true := by
  have : FloatKind.f64.format.order infB c = some .gt := by
    show (double.read infB).order (double.read c) = _
    rw [show double.read infB = .infinity false from read_inf false, hc]; rfl
  unfold fcmpB
  simp only [this]
  exact ⟨rfl, rfl⟩
theorem self_neq {b : Nat} (h : ∀ s f, double.read b ≠ .nan s f) : fcmpB .neq b b = some false := by
  have : FloatKind.f64.format.order b b = some .eq := by
    show (double.read b).order (double.read b) = _
    cases hr : double.read b with
    | nan s f => exact absurd hr (h s f)
    | infinity s => cases s <;> rfl
    | number s m i =>
      unfold Datum.order
      simp only
      rw [cmp_eq_iff.2 rfl]
  unfold fcmpB
  simp only [this]
  rfl
/-- the greatest -/
def rX : Nat := 9218868437227405311
theorem rX_inf : rX < infB ∧ infB = rX + 1 := by decide
theorem gt_max {R : Nat} (h : R < infB) : fcmpB .gtr R rX = some false := by
  have ho : FloatKind.f64.format.order R rX = some (compare (sg false * (vB R : Int)) (sg false * (vB rX : Int))) := order_rung false false h rX_inf.1
  unfold fcmpB
  simp only
  rw [ho]
  refine congrArg some ?_
  have hv := vB_mono (show R ≤ rX by have := rX_inf.2; omega)
  unfold sg
  simp only [Bool.false_eq_true, if_false, Int.one_mul]
  rw [Bool.eq_false_iff]
  intro hc
  have := cmp_gt_iff.1 (Option.some.inj (beq_iff_eq.1 hc))
  omega
/-- a thousand -/
def kilo : Nat := 4652007308841189376
theorem read_kilo : double.read kilo = .number false 8796093022208000 (-43) := by decide +kernel
theorem mul_kilo (s : Bool) {R : Nat} (h : R ≤ infB) : ∃ Q, floatBits .mul .f64 (R + sgn s) kilo = some (Q + sgn s) ∧ Q ≤ infB ∧ (R = infB → Q = infB) := by
  obtain ⟨n, j, hk, hn⟩ : ∃ n j, double.read kilo = .number false n j ∧ n ≠ 0 := ⟨_, _, read_kilo, by omega⟩
  show ∃ Q, ((double.read (R + sgn s)).product (double.read kilo)).map double.write = some (Q + sgn s) ∧ _
  rw [hk]
  rcases Nat.lt_or_eq_of_le h with h | h
  · rw [read_rung s h]
    show ∃ Q, some (double.nearest (s ^^ false) (mB R * n) _) = some (Q + sgn s) ∧ _
    rw [Bool.xor_false]
    unfold Format.nearest
    split
    · exact ⟨0, by rw [word_rung], Nat.zero_le _, fun hh => by omega⟩
    · exact ⟨_, by rw [word_rung], by rw [inf_eq, ← d_inf]; exact Nat.min_le_right _ _, fun hh => by omega⟩
  · subst h
    rw [read_inf s]
    show ∃ Q, (if n = 0 then none else some (Datum.infinity (s ^^ false))).map double.write = some (Q + sgn s) ∧ _
    rw [if_neg hn, Bool.xor_false]
    refine ⟨infB, ?_, Nat.le_refl _, fun _ => rfl⟩
    show some (double.word s double.infRung) = _
    rw [word_rung, d_inf, ← inf_eq]
theorem mul_nan {b : Nat} (h : ∃ s f, double.read b = .nan s f) : FloatKind.f64.format.mul b kilo = none := by
  obtain ⟨s, f, h⟩ := h
  show ((double.read b).product (double.read kilo)).map double.write = none
  rw [h]; rfl
theorem toInt_M (s : Bool) {R : Nat} (h : R ≤ rM) : ∃ n, floatToIntVal .f64 (R + sgn s) .i64 = some n := by
  have hi : R < infB := Nat.lt_of_le_of_lt h rM_inf
  unfold floatToIntVal
  show ∃ n, (match ((double.read (R + sgn s)).toInt .zero) with | some n => if IntKind.i64.min ≤ n ∧ n ≤ IntKind.i64.max then some n else none | none => none) = some n
  rw [read_rung s hi]
  obtain ⟨c, hc, hcb⟩ : ∃ c, Toward.zero.cut s (mB R <<< ((kB R : Int) - 1074).toNat) (-((kB R : Int) - 1074)).toNat = c ∧ c ≤ 9007199254740992 := by
    refine ⟨_, rfl, ?_⟩
    have hm := (bits_of R).2.1
    have hR := (bits_of R).1
    have hmk := (bits_of R).2.2
    unfold Toward.cut
    simp only
    rw [Nat.shiftLeft_eq, Nat.shiftLeft_eq]
    have hr : rM = 1075 * 2 ^ 52 + 2 ^ 52 := by decide
    have hk : kB R ≤ 1075 := by omega
    have hmag : mB R * 2 ^ ((kB R : Int) - 1074).toNat ≤ 9007199254740992 := by
      by_cases h5 : kB R = 1075
      · rw [h5, show (((1075 : Nat) : Int) - 1074).toNat = 1 by decide]
        omega
      · rw [show ((kB R : Int) - 1074).toNat = 0 by omega]
        omega
    refine Nat.le_trans ?_ hmag
    show _ / _ + (false : Bool).toNat ≤ _
    exact Nat.div_le_self _ _
  have ht : (Datum.number s (mB R) ((kB R : Int) - 1074)).toInt .zero = some (Ieee.signed s c 0) := by
    rw [← hc]; rfl
  rw [ht]
  refine ⟨Ieee.signed s c 0, ?_⟩
  simp only
  rw [if_pos]
  rw [signed_sg]
  have e1 : IntKind.i64.min = -9223372036854775808 := by decide
  have e2 : IntKind.i64.max = 9223372036854775807 := by decide
  rw [e1, e2]
  unfold sg
  simp only [Nat.pow_zero, Nat.mul_one]
  cases s <;> simp <;> omega
end Go.Nm
end
section
open Go Go.Vg Go.RowKit Go.Proofs Go.Proofs.YtlaingmhdgpkdaaGreatDoor
namespace Go.Proofs.YtlaingmhdgpkdaaGreatDoor
open Go.Nm
open Num

theorem andNot_low (a k : Nat) (ha : a < 2 ^ 64) (hk : k ≤ 63) : bits .andNot .u64 (a : Int) ((2 ^ k - 1 : Nat) : Int) = ((a - a % 2 ^ k : Nat) : Int) := by
  have hp : 2 ^ k ≤ 2 ^ 63 := Nat.pow_le_pow_right (by decide) hk
  have hp0 := Nat.two_pow_pos k
  have h1 : BitVec.ofInt 64 (a : Int) = BitVec.ofNat 64 a := BitVec.ofInt_natCast ..
  have h2 : BitVec.ofInt 64 ((2 ^ k - 1 : Nat) : Int) = BitVec.ofNat 64 (2 ^ k - 1) := BitVec.ofInt_natCast ..
  have h3 : (BitVec.ofNat 64 a &&& ~~~ BitVec.ofNat 64 (2 ^ k - 1)).toNat = a - a % 2 ^ k := by
    rw [BitVec.toNat_and, BitVec.toNat_not, BitVec.toNat_ofNat, BitVec.toNat_ofNat, Nat.mod_eq_of_lt (by omega), Nat.mod_eq_of_lt (by omega)]
    have e : a - a % 2 ^ k = 2 ^ k * (a / 2 ^ k) := by have := Nat.div_add_mod a (2 ^ k); omega
    rw [e, Nat.sub_sub, Nat.add_comm 1]
    apply Nat.eq_of_testBit_eq
    intro i
    rw [Nat.testBit_and, Nat.testBit_two_pow_sub_succ (by omega), Nat.testBit_two_pow_sub_one, Nat.testBit_two_pow_mul, Nat.testBit_div_two_pow]
    by_cases hi : k ≤ i
    · by_cases h64 : i < 64
      · simp [hi, h64, Nat.sub_add_cancel hi, Nat.not_lt.2 hi]
      · have : a.testBit i = false := Nat.testBit_lt_two_pow (Nat.lt_of_lt_of_le ha (Nat.pow_le_pow_right (by decide) (by omega)))
        simp [hi, h64, Nat.sub_add_cancel hi, this]
    · simp [hi, Nat.lt_of_not_le hi]
  show IntKind.u64.wrap ((BitVec.ofInt 64 (a : Int) &&& ~~~ BitVec.ofInt 64 ((2 ^ k - 1 : Nat) : Int)).toNat : Int) = _
  rw [h1, h2, h3, wrap_u64m]
  omega
theorem sgn_lt (s : Bool) : sgn s ≤ 2 ^ 63 := by unfold sgn; cases s <;> simp
theorem sgn_one (s : Bool) : sgn s = 2 ^ 63 * (if s then 1 else 0) := by unfold sgn; cases s <;> simp
theorem abs_bits {R : Nat} (s : Bool) (h : R < 2 ^ 63) : bits .andNot .u64 ((R + sgn s : Nat) : Int) 9223372036854775808 = (R : Int) := by
  have hs := sgn_lt s
  have h1 : BitVec.ofInt 64 ((R + sgn s : Nat) : Int) = BitVec.ofNat 64 (R + sgn s) := BitVec.ofInt_natCast ..
  have h2 : ~~~ BitVec.ofInt 64 (9223372036854775808 : Int) = BitVec.ofNat 64 (2 ^ 63 - 1) := by decide
  have h3 : (BitVec.ofNat 64 (R + sgn s) &&& BitVec.ofNat 64 (2 ^ 63 - 1)).toNat = R := by
    rw [BitVec.toNat_and, BitVec.toNat_ofNat, BitVec.toNat_ofNat, Nat.mod_eq_of_lt (by omega), Nat.mod_eq_of_lt (by decide), Nat.and_two_pow_sub_one_eq_mod, sgn_one, Nat.add_mul_mod_self_left, Nat.mod_eq_of_lt h]
  show IntKind.u64.wrap ((BitVec.ofInt 64 ((R + sgn s : Nat) : Int) &&& ~~~ BitVec.ofInt 64 (9223372036854775808 : Int)).toNat : Int) = _
  rw [h1, h2, h3, wrap_u64m]
  omega
theorem sign_bits {R : Nat} (s : Bool) (h : R < 2 ^ 63) : bits .and .u64 ((R + sgn s : Nat) : Int) 9223372036854775808 = ((sgn s : Nat) : Int) := by
  have hs := sgn_lt s
  have h1 : BitVec.ofInt 64 ((R + sgn s : Nat) : Int) = BitVec.ofNat 64 (R + sgn s) := BitVec.ofInt_natCast ..
  have h2 : BitVec.ofInt 64 (9223372036854775808 : Int) = BitVec.ofNat 64 (2 ^ 63) := by decide
  have hR : R.testBit 63 = false := Nat.testBit_lt_two_pow h
  have h3 : (BitVec.ofNat 64 (R + sgn s) &&& BitVec.ofNat 64 (2 ^ 63)).toNat = sgn s := by
    rw [BitVec.toNat_and, BitVec.toNat_ofNat, BitVec.toNat_ofNat, Nat.mod_eq_of_lt (by omega), Nat.mod_eq_of_lt (by decide)]
    apply Nat.eq_of_testBit_eq
    intro i
    rw [Nat.testBit_and, Nat.testBit_two_pow]
    by_cases hi : 63 = i
    · subst hi
      unfold sgn
      cases s
      · simp [hR]
      · rw [if_pos rfl, Nat.add_comm, Nat.testBit_two_pow_add_eq, hR, Nat.testBit_two_pow]; rfl
    · unfold sgn
      cases s
      · simp [hi]
      · rw [if_pos rfl, Nat.testBit_two_pow]
        simp [hi]
  show IntKind.u64.wrap ((BitVec.ofInt 64 ((R + sgn s : Nat) : Int) &&& BitVec.ofInt 64 (9223372036854775808 : Int)).toNat : Int) = _
  rw [h1, h2, h3, wrap_u64m]
  omega
/-- math.Round on rungs -/
def roundR (R : Nat) : Nat :=
  if R / 2 ^ 52 < 1023 then (if R / 2 ^ 52 = 1022 then 4607182418800017408 else 0)
  else if R / 2 ^ 52 < 1075 then (R + 2 ^ (1074 - R / 2 ^ 52)) - (R + 2 ^ (1074 - R / 2 ^ 52)) % 2 ^ (1075 - R / 2 ^ 52)
  else R
theorem run_obits (b : Nat) (w : World) : (callFunc 70 #[Fl b]).run Tryz.prog w = .ok (.value (.int .u64 b)) w := run_fbits Tryz.func70 (by kernel_rfl) (by kernel_rfl) (by kernel_rfl) (by kernel_rfl) b w
theorem run_nbits (b : Nat) (w : World) : (callFunc 67 #[.int .u64 b]).run Tryz.prog w = .ok (.value (Fl b)) w := run_ofbits Tryz.func67 (by kernel_rfl) (by kernel_rfl) (by kernel_rfl) (by kernel_rfl) b w
theorem round_ok (s : Bool) {R : Nat} (h : R < 2 ^ 63) (w : World) : Ret Tryz.prog 42 ⟨[Fl (R + sgn s)]⟩ w fun r w' => r = Fl (roundR R + sgn s) ∧ Ext w w' := by
  have hs := sgn_lt s
  have hso := sgn_one s
  obtain ⟨b, hb⟩ : ∃ b, b = R + sgn s := ⟨_, rfl⟩
  have hsig := sign_bits s h
  have hE : b / 2 ^ 52 % 2 ^ 11 = R / 2 ^ 52 := by
    rw [hb, hso]
    cases s <;> simp <;> omega
  have hand := and_low64 (b / 2 ^ 52) 11 (by omega) (by decide)
  rw [show ((2 ^ 11 - 1 : Nat) : Int) = 2047 by decide, hE] at hand
  have hElt : R / 2 ^ 52 < 2048 := by omega
  unfold roundR
  rw [← hb] at hsig ⊢
  generalize hEe : R / 2 ^ 52 = E at *
  refine ret_of_G Tryz.func42 rfl Tryz.ntmps42 rfl ?_
  simp only [argEnv]
  refine rn ?_
  refine GL.cons (Step.ext rfl rfl (by repeat (first | exact OpL.nil | refine OpL.cons (Op1.of rfl (by first | exact fun _ => rfl | exact fun h => h | exact fun h => bL h | exact fun h => bL (bL h) | exact fun h => bL (bL (bL h)))) ?_)) (run_obits b _) rfl ?_)
  refine rn ?_
  refine sShr (n := 52) (shr_nat b 52) ?_
  (first | refine gl tb ?_ | refine gg tb ?_ | refine ll tb ?_ | refine lg tb ?_)
  rw [hand]
  by_cases h1 : E < 1023
  · rw [decide_eq_true (p := ((E : Nat) : Int) < 1023) (by omega), if_pos h1]
    refine G.condT rfl ?_
    (first | refine gl tb ?_ | refine gg tb ?_ | refine ll tb ?_ | refine lg tb ?_)
    rw [hsig]
    by_cases h2 : E = 1022
    · rw [decide_eq_true (p := ((E : Nat) : Int) = 1022) (by omega), if_pos h2]
      refine G.condT rfl ?_
      (first | refine gl tb ?_ | refine gg tb ?_ | refine ll tb ?_ | refine lg tb ?_)
      rw [or_sym, show (4607182418800017408 : Int) = ((4607182418800017408 : Nat) : Int) from rfl, or_sgn (by decide) s]
      refine GL.cons (Step.ext rfl rfl (by repeat (first | exact OpL.nil | refine OpL.cons (Op1.of rfl (by first | exact fun _ => rfl | exact fun h => h | exact fun h => bL h | exact fun h => bL (bL h) | exact fun h => bL (bL (bL h)))) ?_)) (run_nbits _ _) rfl ?_)
      (first | refine gl tb ?_ | refine gg tb ?_ | refine ll tb ?_ | refine lg tb ?_)
      refine G.ret1 rfl rfl rfl rfl ?_
      exact ⟨rfl, Ext.refl _⟩
    · rw [decide_eq_false (p := ((E : Nat) : Int) = 1022) (by omega), if_neg h2, Nat.zero_add]
      refine G.condF rfl ?_
      (first | refine gl tb ?_ | refine gg tb ?_ | refine ll tb ?_ | refine lg tb ?_)
      refine GL.cons (Step.ext rfl rfl (by repeat (first | exact OpL.nil | refine OpL.cons (Op1.of rfl (by first | exact fun _ => rfl | exact fun h => h | exact fun h => bL h | exact fun h => bL (bL h) | exact fun h => bL (bL (bL h)))) ?_)) (run_nbits _ _) rfl ?_)
      (first | refine gl tb ?_ | refine gg tb ?_ | refine ll tb ?_ | refine lg tb ?_)
      refine G.ret1 rfl rfl rfl rfl ?_
      exact ⟨rfl, Ext.refl _⟩
  rw [decide_eq_false (p := ((E : Nat) : Int) < 1023) (by omega), if_neg h1]
  refine G.condF rfl ?_
  (first | refine gl tb ?_ | refine gg tb ?_ | refine ll tb ?_ | refine lg tb ?_)
  by_cases h3 : E < 1075
  · rw [decide_eq_true (p := ((E : Nat) : Int) < 1075) (by omega), if_pos h3]
    refine G.condT rfl ?_
    (first | refine gl tb ?_ | refine gg tb ?_ | refine ll tb ?_ | refine lg tb ?_)
    obtain ⟨d, hd⟩ : ∃ d, d = E - 1023 := ⟨_, rfl⟩
    have hbe : b < 2 ^ 63 + 1076 * 2 ^ 52 := by omega
    have e1 : 2251799813685248 / 2 ^ d = 2 ^ (1074 - E) := by
      rw [show 2251799813685248 = 2 ^ (1074 - E) * 2 ^ d by rw [← Nat.pow_add, show 1074 - E + d = 51 by omega]]
      exact Nat.mul_div_cancel _ (Nat.two_pow_pos d)
    have e2 : 4503599627370495 / 2 ^ d = 2 ^ (1075 - E) - 1 := by
      have h5 : 2 ^ (1075 - E) * 2 ^ d = 4503599627370496 := by rw [← Nat.pow_add, show 1075 - E + d = 52 by omega]
      have hp := Nat.two_pow_pos d
      have hq := Nat.two_pow_pos (1075 - E)
      generalize 2 ^ d = P at *
      generalize 2 ^ (1075 - E) = Q at *
      obtain ⟨q, rfl⟩ : ∃ q, Q = q + 1 := ⟨Q - 1, by omega⟩
      rw [Nat.add_mul, Nat.one_mul] at h5
      rw [show 4503599627370495 = (P - 1) + q * P by omega, Nat.add_mul_div_right _ _ hp, Nat.div_eq_of_lt (by omega)]
      omega
    have hpow : 2 ^ (1074 - E) ≤ 2 ^ 51 := Nat.pow_le_pow_right (by decide) (by omega)
    have hmod : (b + 2 ^ (1074 - E)) % 2 ^ (1075 - E) = (R + 2 ^ (1074 - E)) % 2 ^ (1075 - E) := by
      rw [hb, hso, Nat.add_right_comm, show (2 : Nat) ^ 63 = 2 ^ (1075 - E) * 2 ^ (63 - (1075 - E)) by rw [← Nat.pow_add]; congr 1; omega, Nat.mul_assoc, Nat.add_mul_mod_self_left]
    have hml := Nat.mod_le (R + 2 ^ (1074 - E)) (2 ^ (1075 - E))
    have s1 := shr_nat 2251799813685248 d
    have s2 := shr_nat 4503599627370495 d
    rw [e1] at s1
    rw [e2] at s2
    have han := andNot_low (b + 2 ^ (1074 - E)) (1075 - E) (by omega) (by omega)
    rw [hmod] at han
    generalize 2 ^ (1074 - E) = P at *
    refine GL.cons (Step.arith (k := .u64) (a := ((E : Nat) : Int)) (b := 1023) (r := ((d : Nat) : Int)) rfl (Op1.of rfl (by first | exact fun _ => rfl | exact fun h => h | exact fun h => bL h | exact fun h => bL (bL h) | exact fun h => bL (bL (bL h)))) (Op1.of rfl (by first | exact fun _ => rfl | exact fun h => h | exact fun h => bL h | exact fun h => bL (bL h) | exact fun h => bL (bL (bL h)))) ((wrap_u64 (n := ((E : Nat) : Int) - 1023) (by omega) (by omega)).trans (by omega)) rfl ?_)
    (first | refine gl tb ?_ | refine gg tb ?_ | refine ll tb ?_ | refine lg tb ?_)
    refine GL.cons (Step.shr (n := d) rfl (Op1.of rfl (fun _ => rfl)) (Op1.of rfl (fun _ => rfl)) s1 (by show d ≤ 64; omega) rfl ?_)
    refine GL.cons (Step.arith (k := .u64) (a := ((b : Nat) : Int)) (b := ((P : Nat) : Int)) (r := ((b + P : Nat) : Int)) rfl (Op1.of rfl (by first | exact fun _ => rfl | exact fun h => h | exact fun h => bL h | exact fun h => bL (bL h) | exact fun h => bL (bL (bL h)))) (Op1.of rfl (by first | exact fun _ => rfl | exact fun h => h | exact fun h => bL h | exact fun h => bL (bL h) | exact fun h => bL (bL (bL h)))) ((wrap_u64 (n := ((b : Nat) : Int) + ((P : Nat) : Int)) (by omega) (by omega)).trans (by omega)) rfl ?_)
    (first | refine gl tb ?_ | refine gg tb ?_ | refine ll tb ?_ | refine lg tb ?_)
    refine GL.cons (Step.shr (n := d) rfl (Op1.of rfl (fun _ => rfl)) (Op1.of rfl (fun _ => rfl)) s2 (by show d ≤ 64; omega) rfl ?_)
    refine GL.cons (Step.andNot rfl (Op1.of rfl (by first | exact fun _ => rfl | exact fun h => h | exact fun h => bL h | exact fun h => bL (bL h) | exact fun h => bL (bL (bL h)))) (Op1.of rfl (by first | exact fun _ => rfl | exact fun h => h | exact fun h => bL h | exact fun h => bL (bL h) | exact fun h => bL (bL (bL h)))) han rfl ?_)
    (first | refine gl tb ?_ | refine gg tb ?_ | refine ll tb ?_ | refine lg tb ?_)
    refine GL.cons (Step.ext rfl rfl (by repeat (first | exact OpL.nil | refine OpL.cons (Op1.of rfl (by first | exact fun _ => rfl | exact fun h => h | exact fun h => bL h | exact fun h => bL (bL h) | exact fun h => bL (bL (bL h)))) ?_)) (run_nbits _ _) rfl ?_)
    (first | refine gl tb ?_ | refine gg tb ?_ | refine ll tb ?_ | refine lg tb ?_)
    refine G.ret1 rfl rfl rfl rfl ?_
    refine ⟨?_, Ext.refl _⟩
    congr 1
    omega
  · rw [decide_eq_false (p := ((E : Nat) : Int) < 1075) (by omega), if_neg h3]
    refine G.condF rfl ?_
    (first | refine gl tb ?_ | refine gg tb ?_ | refine ll tb ?_ | refine lg tb ?_)
    refine GL.cons (Step.ext rfl rfl (by repeat (first | exact OpL.nil | refine OpL.cons (Op1.of rfl (by first | exact fun _ => rfl | exact fun h => h | exact fun h => bL h | exact fun h => bL (bL h) | exact fun h => bL (bL (bL h)))) ?_)) (run_nbits _ _) rfl ?_)
    (first | refine gl tb ?_ | refine gg tb ?_ | refine ll tb ?_ | refine lg tb ?_)
    refine G.ret1 rfl rfl rfl rfl ?_
    exact ⟨by rw [hb], Ext.refl _⟩
theorem absR_ok (s : Bool) {R : Nat} (h : R < 2 ^ 63) (w : World) : Ret Tryz.prog 43 ⟨[Fl (R + sgn s)]⟩ w fun r w' => r = Fl R ∧ Ext w w' := by
  have habs := abs_bits s h
  refine ret_of_G Tryz.func43 rfl Tryz.ntmps43 rfl ?_
  simp only [argEnv]
  refine rn ?_
  refine GL.cons (Step.ext rfl rfl (by repeat (first | exact OpL.nil | refine OpL.cons (Op1.of rfl (by first | exact fun _ => rfl | exact fun h => h | exact fun h => bL h | exact fun h => bL (bL h) | exact fun h => bL (bL (bL h)))) ?_)) (run_obits _ _) rfl ?_)
  refine GL.cons (Step.andNot rfl (Op1.of rfl (by first | exact fun _ => rfl | exact fun h => h | exact fun h => bL h | exact fun h => bL (bL h) | exact fun h => bL (bL (bL h)))) (Op1.of rfl (by first | exact fun _ => rfl | exact fun h => h | exact fun h => bL h | exact fun h => bL (bL h) | exact fun h => bL (bL (bL h)))) habs rfl ?_)
  refine GL.cons (Step.ext rfl rfl (by repeat (first | exact OpL.nil | refine OpL.cons (Op1.of rfl (by first | exact fun _ => rfl | exact fun h => h | exact fun h => bL h | exact fun h => bL (bL h) | exact fun h => bL (bL (bL h)))) ?_)) (run_nbits _ _) rfl ?_)
  (first | refine gl tb ?_ | refine gg tb ?_ | refine ll tb ?_ | refine lg tb ?_)
  refine G.ret1 rfl rfl rfl rfl ?_
  exact ⟨rfl, Ext.refl _⟩
theorem isInfR_ok (s : Bool) {R : Nat} (r : Bool) (h : R < 2 ^ 63) (hr : fcmpB .gtr R rX = some r) (w : World) : Ret Tryz.prog 45 ⟨[Fl (R + sgn s), .int .i64 0]⟩ w fun v w' => v = .bool r ∧ Ext w w' := by
  refine ret_of_G Tryz.func45 rfl Tryz.ntmps45 rfl ?_
  simp only [argEnv]
  refine rn ?_
  refine sCall c43 (absR_ok s h _) ?_
  rintro _ W ⟨rfl, hx⟩
  refine rn ?_
  refine GL.cons (Step.fcmp rfl (Op1.of rfl (by first | exact fun _ => rfl | exact fun h => h | exact fun h => bL h | exact fun h => bL (bL h) | exact fun h => bL (bL (bL h)))) (Op1.of rfl (by first | exact fun _ => rfl | exact fun h => h | exact fun h => bL h | exact fun h => bL (bL h) | exact fun h => bL (bL (bL h)))) hr rfl ?_)
  refine rn ?_
  refine G.ret1 rfl rfl rfl rfl ?_
  exact ⟨rfl, hx⟩
end Go.Proofs.YtlaingmhdgpkdaaGreatDoor
end
section
namespace Go.Vg
open Go.RowKit Ieee Go.Nm
/-- a word that is no number -/
def NanW (r : Nat) : Prop := ∃ R s, infB < R ∧ R < 2 ^ 63 ∧ r = R + sgn s
theorem NanW.read {r : Nat} (h : NanW r) : ∃ s f, double.read r = .nan s f := by
  obtain ⟨R, s, h1, h2, rfl⟩ := h
  rw [inf_eq] at h1
  rw [← word_rung]
  refine ⟨s, R - 9218868437227405312, ?_⟩
  unfold Format.read Format.word
  rw [d_bin, d_inf, d_sw]
  have e1 : (if s then 9223372036854775808 + R else R) % 9223372036854775808 = R := by cases s <;> simp <;> omega
  have e2 : (((if s then 9223372036854775808 + R else R) / 9223372036854775808 % 2 == 1)) = s := by
    cases s
    · rw [if_neg (by simp), Nat.div_eq_of_lt (by omega)]; rfl
    · rw [if_pos rfl, show (9223372036854775808 + R) / 9223372036854775808 = 1 by omega]; rfl
  dsimp only
  rw [e1, e2, if_neg (by omega), if_neg (by omega), if_neg (by omega)]
theorem cut_nan (q : Question) (hq : ∃ x y, q = .nanBits .f64 x y) (t : Nat) : NanW (q.cut t) := by
  obtain ⟨x, y, rfl⟩ := hq
  have hm := Nat.mod_lt (t / 2) (show 0 < 2 ^ 52 - 1 by decide)
  refine ⟨0x7ff0000000000000 + 1 + (t / 2) % (2 ^ 52 - 1), decide (t % 2 = 1), by rw [inf_eq]; omega, by omega, ?_⟩
  show (t % 2) * 2 ^ 63 + 0x7ff0000000000000 + 1 + (t / 2) % (2 ^ 52 - 1) = _
  unfold sgn
  by_cases h : t % 2 = 1
  · rw [if_pos (by simpa using h), h]; omega
  · rw [if_neg (by simpa using h), show t % 2 = 0 by omega]; omega
theorem run_mul_nan {P : Program} (t : TypeId) (a b : Nat) (w : World) (h : FloatKind.f64.format.mul a b = none) :
    (binOp .mul t (Fl a) (Fl b)).run P w = .ok (Fl ((Question.nanBits .f64 a b).cut (w.tape w.drawn (.nanBits .f64 a b)))) w.drew := by
  simp [binOp, Op.floatArith, h]
  intro hf; cases hf
section
variable {X : Cx} {ops : Array Oper} {e : Env} {w : World} {N : Env → World → Prop} {d : Nat} {ty : TypeId} {pos : String} {af : Array Edge} {g : Option (Nat × Bool)}
theorem Step.mulNan {xt yt : TypeId} {x y : Operand} {a b : Nat} (hg : guardE ops e ⟨some d, .binOp .mul xt x y yt, ty, pos, af, g⟩ = some none)
    (hx : Op1 e none x (Fl a)) (hy : Op1 e none y (Fl b)) (hm : FloatKind.f64.format.mul a b = none) (hn : Nat.blt d X.n = true)
    (h : ∀ r, NanW r → N ((d, none, Fl r) :: e) w.drew) : Step X ops ⟨some d, .binOp .mul xt x y yt, ty, pos, af, g⟩ e w N :=
  Step.eff (v := Fl ((Question.nanBits .f64 a b).cut (w.tape w.drawn (.nanBits .f64 a b)))) rfl (by simpa [Nat.blt_eq] using hn) hg (fun _ hh => by cases hh) (fun t hf => by
    have hr' := run_mul_nan (P := X.P) xt a b w hm
    have hq : (eqGuard .mul xt x y (Fl a) (Fl b)).run X.P w = .ok () w := rfl
    simp only [execOp, hx.val hf rfl, hy.val hf rfl, Sem.run_bind, hq, Result.andThen_ok, hr', Sem.run_pure]) (h _ (cut_nan _ ⟨a, b, rfl⟩ _))
end
end Go.Vg
end
section
open Go Go.Vg Go.RowKit Go.Proofs Go.Proofs.YtlaingmhdgpkdaaGreatDoor
namespace Go.Proofs.YtlaingmhdgpkdaaGreatDoor
open Go.Nm
open Num

theorem near_le (q L : Nat) (e : Int) (more : Bool) : near q L e more ≤ infB := by
  have fin : ∀ (e2 : Int) (m2 : Nat), (if 971 < e2 then infB else if m2 < 2 ^ 52 then m2 else (e2 + 1075).toNat * 2 ^ 52 + m2 % 2 ^ 52) ≤ infB := fun e2 m2 => by
    have hi : infB = 2047 * 2 ^ 52 := rfl
    split
    · exact Nat.le_refl _
    · split <;> omega
  unfold near
  simp only
  by_cases h : 63 < max ((L : Int) - 53) (-1074 - e)
  · rw [if_pos h]; exact Nat.zero_le _
  · rw [if_neg h]; exact fin _ _
theorem progBits_le (ds : List UInt8) (x : Int) : progBits ds x ≤ infB := by
  unfold progBits
  split
  · exact Nat.zero_le _
  · split
    · exact Nat.le_refl _
    · exact near_le _ _ _ _
/-- what a float's text can be -/
theorem parse_form {s : List UInt8} {b : Nat} (h : parseP s = some b) : b = nanB ∨ ∃ R neg, R ≤ infB ∧ b = R + sgn neg := by
  unfold parseP at h
  split at h
  · cases h
  · split at h
    · injection h with h; exact .inl h.symm
    · split at h
      · injection h with h; exact .inr ⟨infB, minus s, Nat.le_refl _, h.symm⟩
      · split at h
        · cases h
        · injection h with h
          exact .inr ⟨_, minus s, progBits_le _ _, h.symm⟩
theorem roundR_inf : roundR infB = infB := by unfold roundR infB; decide
theorem roundR_fin {R : Nat} (h : R < infB) : roundR R < infB := by
  have hi : infB = 2047 * 2 ^ 52 := rfl
  unfold roundR
  split
  · split <;> omega
  · split
    · rename_i h1 h2
      have hp : 2 ^ (1074 - R / 2 ^ 52) ≤ 2 ^ 51 := Nat.pow_le_pow_right (by decide) (by omega)
      generalize 2 ^ (1074 - R / 2 ^ 52) = P at *
      have := Nat.sub_le (R + P) ((R + P) % 2 ^ (1075 - R / 2 ^ 52))
      omega
    · exact h
theorem roundR_nan {R : Nat} (h : infB < R) : roundR R = R := by
  have hi : infB = 2047 * 2 ^ 52 := rfl
  unfold roundR
  rw [if_neg (by omega), if_neg (by omega)]
/-- milliseconds of a float of seconds -/
def tmP (b : Nat) : Option Int := match floatBits .mul .f64 b kilo with
  | none => none
  | some y => if roundR (y % 2 ^ 63) ≤ rM then floatToIntVal .f64 (roundR (y % 2 ^ 63) + sgn (decide (2 ^ 63 ≤ y))) .i64 else none
theorem tm_rung (neg : Bool) {R : Nat} (h : R ≤ infB) : ∃ Q, floatBits .mul .f64 (R + sgn neg) kilo = some (Q + sgn neg) ∧ Q ≤ infB ∧ (R = infB → Q = infB) ∧
    tmP (R + sgn neg) = if roundR Q ≤ rM then floatToIntVal .f64 (roundR Q + sgn neg) .i64 else none := by
  obtain ⟨Q, h1, h2, h3⟩ := mul_kilo neg h
  refine ⟨Q, h1, h2, h3, ?_⟩
  have hi : infB < 2 ^ 63 := by decide
  unfold tmP
  rw [h1]
  simp only
  have e1 : (Q + sgn neg) % 2 ^ 63 = Q := by rw [sgn_one, Nat.add_mul_mod_self_left, Nat.mod_eq_of_lt (by omega)]
  have e2 : decide (2 ^ 63 ≤ Q + sgn neg) = neg := by
    unfold sgn
    cases neg
    · rw [if_neg (by simp)]; exact decide_eq_false (by omega)
    · rw [if_pos rfl]; exact decide_eq_true (by omega)
  rw [e1, e2]
theorem tm_nan : tmP nanB = none := by
  unfold tmP
  rw [show floatBits .mul .f64 nanB kilo = none from mul_nan read_nan]
def timeP (s : List UInt8) : Option Int := (parseP s).bind tmP
def timeV : Option Int → Value
  | none => .tuple ⟨[.int .i64 0, .int .i64 8]⟩
  | some n => .tuple ⟨[.int .i64 n, .int .i64 0]⟩
theorem rM_read : Ieee.double.read rM = Ieee.Datum.number false 4503599627370496 1 := by decide +kernel
theorem abs_test {R : Nat} (h : R ≤ infB) : fcmpB .leq R rM = some (decide (R ≤ rM)) := by
  rcases Nat.lt_or_eq_of_le h with h | h
  · exact abs_le h
  · rw [h, (inf_leq rM rM_read).1, decide_eq_false (Nat.not_le.2 rM_inf)]
theorem roundR_le {R : Nat} (h : R ≤ infB) : roundR R ≤ infB := by
  rcases Nat.lt_or_eq_of_le h with h | h
  · exact Nat.le_of_lt (roundR_fin h)
  · rw [h, roundR_inf]; exact Nat.le_refl _
theorem timeP_ok (s : List UInt8) (w : World) (hs : s.length ≤ 9223372036854775807) : Ret Tryz.prog 23 ⟨[S s]⟩ w fun r w' => r = timeV (timeP s) ∧ Ext w w' := by
  have hi63 : infB < 2 ^ 63 := by decide
  unfold timeP
  refine ret_of_G Tryz.func23 rfl Tryz.ntmps23 rfl ?_
  simp only [argEnv]
  refine rn ?_
  refine sCall c41 (parse_ok s w hs) ?_
  rintro rv W ⟨hr, hx⟩
  unfold ParseR at hr
  have hf := @parse_form s
  generalize parseP s = p at hr hf ⊢
  rcases p with _ | b
  · have hr : rv = .tuple ⟨[Fl 0, .int .i64 8]⟩ := hr
    subst hr
    obtain ⟨Q, hm, hQ, _⟩ := mul_kilo false (R := 0) (Nat.zero_le _)
    rw [show 0 + sgn false = 0 from rfl] at hm
    refine rn ?_
    refine GL.cons (Step.flt rfl (Op1.of rfl (by first | exact fun _ => rfl | exact fun h => h | exact fun h => bL h | exact fun h => bL (bL h) | exact fun h => bL (bL (bL h)))) (Op1.of rfl (by first | exact fun _ => rfl | exact fun h => h | exact fun h => bL h | exact fun h => bL (bL h) | exact fun h => bL (bL (bL h)))) hm rfl ?_)
    refine sCall c42 (round_ok false (R := Q) (by omega) _) ?_
    rintro _ W2 ⟨rfl, hx2⟩
    refine rn ?_
    refine GL.cons (Step.off (v := Fl 0) rfl (of_decide_eq_true rfl) rfl ?_)
    refine GL.cons (Step.off (v := .bool false) rfl (of_decide_eq_true rfl) rfl ?_)
    refine rn ?_
    refine G.ret2 rfl rfl rfl rfl rfl ?_
    exact ⟨rfl, hx.trans hx2⟩
  · have hr : rv = .tuple ⟨[Fl b, .int .i64 0]⟩ := hr
    subst hr
    rcases hf rfl with rfl | ⟨R, neg, hR, rfl⟩
    · rw [show (some nanB).bind tmP = none from tm_nan]
      refine rn ?_
      refine GL.cons (Step.mulNan rfl (Op1.of rfl (by first | exact fun _ => rfl | exact fun h => h | exact fun h => bL h | exact fun h => bL (bL h) | exact fun h => bL (bL (bL h)))) (Op1.of rfl (by first | exact fun _ => rfl | exact fun h => h | exact fun h => bL h | exact fun h => bL (bL h) | exact fun h => bL (bL (bL h)))) (mul_nan read_nan) rfl (fun r hn => ?_))
      obtain ⟨R, sn, h1, h2, rfl⟩ := hn
      refine sCall c42 (round_ok sn (R := R) h2 _) ?_
      rintro _ W2 ⟨rfl, hx2⟩
      rw [roundR_nan h1]
      have hx02 := (hx.trans (Ext.drew W)).trans hx2
      refine rn ?_
      refine GL.cons (Step.callX rfl rfl (by repeat (first | exact OpL.nil | refine OpL.cons (Op1.of rfl (by first | exact fun _ => rfl | exact fun h => h | exact fun h => bL h | exact fun h => bL (bL h) | exact fun h => bL (bL (bL h)))) ?_)) c43 rfl (fun hc => absR_ok sn (R := R) h2 _) ?_)
      intro W3 hx3
      refine GL.cons (Step.fcmp rfl (Op1.of rfl (by first | exact fun _ => rfl | exact fun h => h | exact fun h => bL h | exact fun h => bL (bL h) | exact fun h => bL (bL (bL h)))) (Op1.of rfl (by first | exact fun _ => rfl | exact fun h => h | exact fun h => bL h | exact fun h => bL (bL h) | exact fun h => bL (bL (bL h)))) (nan_cmp (NanW.read ⟨R, false, h1, h2, rfl⟩) _).1 rfl ?_)
      refine rn ?_
      refine G.ret2 rfl rfl rfl rfl rfl ?_
      exact ⟨rfl, hx02.trans hx3⟩
    · obtain ⟨Q, hm, hQ, hQi, ht⟩ := tm_rung neg hR
      rw [show (some (R + sgn neg)).bind tmP = _ from ht]
      have hrl := roundR_le hQ
      have hab := abs_test hrl
      refine rn ?_
      refine GL.cons (Step.flt rfl (Op1.of rfl (by first | exact fun _ => rfl | exact fun h => h | exact fun h => bL h | exact fun h => bL (bL h) | exact fun h => bL (bL (bL h)))) (Op1.of rfl (by first | exact fun _ => rfl | exact fun h => h | exact fun h => bL h | exact fun h => bL (bL h) | exact fun h => bL (bL (bL h)))) hm rfl ?_)
      refine sCall c42 (round_ok neg (R := Q) (by omega) _) ?_
      rintro _ W2 ⟨rfl, hx2⟩
      refine rn ?_
      refine GL.cons (Step.callX rfl rfl (by repeat (first | exact OpL.nil | refine OpL.cons (Op1.of rfl (by first | exact fun _ => rfl | exact fun h => h | exact fun h => bL h | exact fun h => bL (bL h) | exact fun h => bL (bL (bL h)))) ?_)) c43 rfl (fun hc => absR_ok neg (R := roundR Q) (by omega) _) ?_)
      intro W3 hx3
      refine GL.cons (Step.fcmp rfl (Op1.of rfl (by first | exact fun _ => rfl | exact fun h => h | exact fun h => bL h | exact fun h => bL (bL h) | exact fun h => bL (bL (bL h)))) (Op1.of rfl (by first | exact fun _ => rfl | exact fun h => h | exact fun h => bL h | exact fun h => bL (bL h) | exact fun h => bL (bL (bL h)))) hab rfl ?_)
      by_cases hc : roundR Q ≤ rM
      · obtain ⟨n, hn⟩ := toInt_M neg hc
        rw [decide_eq_true hc, if_pos hc, hn]
        refine rn ?_
        refine GL.cons (Step.f2i tb rfl (Op1.of rfl (by first | exact fun _ => rfl | exact fun h => h | exact fun h => bL h | exact fun h => bL (bL h) | exact fun h => bL (bL (bL h)))) rfl rfl hn rfl ?_)
        refine rn ?_
        refine G.ret2 rfl rfl rfl rfl rfl ?_
        exact ⟨rfl, (hx.trans hx2).trans hx3⟩
      · rw [decide_eq_false hc, if_neg hc]
        refine rn ?_
        refine G.ret2 rfl rfl rfl rfl rfl ?_
        exact ⟨rfl, (hx.trans hx2).trans hx3⟩
end Go.Proofs.YtlaingmhdgpkdaaGreatDoor
end
section
open Go Go.Vg Go.RowKit Go.Proofs Go.Proofs.YtlaingmhdgpkdaaGreatDoor
namespace Go.Proofs.YtlaingmhdgpkdaaGreatDoor
open Go.Nm
open Num

theorem mM_read : Ieee.double.read 14069245235905429504 = Ieee.Datum.number true 4503599627370496 1 := by decide +kernel
theorem inf_in (s : Bool) : ∃ a b, fcmpB .geq (infB + sgn s) 14069245235905429504 = some a ∧ fcmpB .leq (infB + sgn s) rM = some b ∧ (a && b) = false := by
  have h1 : FloatKind.f64.format.order (infB + sgn s) 14069245235905429504 = some (if s then .lt else .gt) := by
    show (Ieee.double.read (infB + sgn s)).order (Ieee.double.read 14069245235905429504) = _
    rw [read_inf s, mM_read]; rfl
  have h2 : FloatKind.f64.format.order (infB + sgn s) rM = some (if s then .lt else .gt) := by
    show (Ieee.double.read (infB + sgn s)).order (Ieee.double.read rM) = _
    rw [read_inf s, rM_read]; rfl
  unfold fcmpB
  simp only [h1, h2]
  cases s
  · exact ⟨_, _, rfl, rfl, rfl⟩
  · exact ⟨_, _, rfl, rfl, rfl⟩
theorem in_test (s : Bool) {R : Nat} (h : R ≤ infB) : ∃ a b, fcmpB .geq (R + sgn s) 14069245235905429504 = some a ∧ fcmpB .leq (R + sgn s) rM = some b ∧ (a && b) = decide (R ≤ rM) := by
  rcases Nat.lt_or_eq_of_le h with h | h
  · exact ⟨_, _, in_M s h⟩
  · obtain ⟨a, b, h1, h2, h3⟩ := inf_in s
    rw [h]
    exact ⟨a, b, h1, h2, by rw [h3, decide_eq_false (Nat.not_le.2 rM_inf)]⟩
theorem timeR_ok (s : List UInt8) (w : World) (hs : s.length ≤ 9223372036854775807) : Ret Tryz.prog 24 ⟨[S s]⟩ w fun r w' => r = timeV (timeP s) ∧ Ext w w' := by
  have hi63 : infB < 2 ^ 63 := by decide
  unfold timeP
  refine ret_of_G Tryz.func24 rfl Tryz.ntmps24 rfl ?_
  simp only [argEnv]
  refine rn ?_
  refine sCall c44 (parseR_ok s w hs) ?_
  rintro rv W ⟨hr, hx⟩
  unfold ParseR at hr
  have hf := @parse_form s
  generalize parseP s = p at hr hf ⊢
  rcases p with _ | b
  · have hr : rv = .tuple ⟨[Fl 0, .int .i64 8]⟩ := hr
    subst hr
    refine rn ?_
    refine GL.cons (Step.off (v := .bool false) rfl (of_decide_eq_true rfl) rfl ?_)
    refine rn ?_
    refine GL.cons (Step.off (v := .bool false) rfl (of_decide_eq_true rfl) rfl ?_)
    refine rn ?_
    refine G.ret2 rfl rfl rfl rfl rfl ?_
    exact ⟨rfl, hx⟩
  · have hr : rv = .tuple ⟨[Fl b, .int .i64 0]⟩ := hr
    subst hr
    rcases hf rfl with rfl | ⟨R, neg, hR, rfl⟩
    · rw [show (some nanB).bind tmP = none from tm_nan]
      refine rn ?_
      refine GL.cons (Step.fcmp rfl (Op1.of rfl (by first | exact fun _ => rfl | exact fun h => h | exact fun h => bL h | exact fun h => bL (bL h) | exact fun h => bL (bL (bL h)))) (Op1.of rfl (by first | exact fun _ => rfl | exact fun h => h | exact fun h => bL h | exact fun h => bL (bL h) | exact fun h => bL (bL (bL h)))) (nan_cmp read_nan _).2.2.2 rfl ?_)
      refine rn ?_
      refine GL.cons (Step.off (v := .bool false) rfl (of_decide_eq_true rfl) rfl ?_)
      refine rn ?_
      refine G.ret2 rfl rfl rfl rfl rfl ?_
      exact ⟨rfl, hx⟩
    · obtain ⟨Q, hm, hQ, hQi, ht⟩ := tm_rung neg hR
      rw [show (some (R + sgn neg)).bind tmP = _ from ht]
      have hrl := roundR_le hQ
      have hnn : ∀ s f, Ieee.double.read (R + sgn neg) ≠ .nan s f := fun s f h => by
        rcases Nat.lt_or_eq_of_le hR with h2 | h2
        · rw [read_rung neg h2] at h; cases h
        · rw [h2, read_inf neg] at h; cases h
      have hin : ∃ b, fcmpB .gtr R rX = some b ∧ (b = true → R = infB) := by
        rcases Nat.lt_or_eq_of_le hR with h2 | h2
        · exact ⟨false, gt_max h2, fun h => by cases h⟩
        · exact ⟨true, by rw [h2]; exact (inf_leq rX (t := false) (n := 9007199254740991) (j := 971) (by decide +kernel)).2, fun _ => h2⟩
      obtain ⟨bi, hbi, hbi2⟩ := hin
      refine rn ?_
      refine GL.cons (Step.fcmp rfl (Op1.of rfl (by first | exact fun _ => rfl | exact fun h => h | exact fun h => bL h | exact fun h => bL (bL h) | exact fun h => bL (bL (bL h)))) (Op1.of rfl (by first | exact fun _ => rfl | exact fun h => h | exact fun h => bL h | exact fun h => bL (bL h) | exact fun h => bL (bL (bL h)))) (self_neq hnn) rfl ?_)
      refine rn ?_
      refine GL.cons (Step.callX rfl rfl (by repeat (first | exact OpL.nil | refine OpL.cons (Op1.of rfl (by first | exact fun _ => rfl | exact fun h => h | exact fun h => bL h | exact fun h => bL (bL h) | exact fun h => bL (bL (bL h)))) ?_)) c45 rfl (fun hc => isInfR_ok neg (R := R) bi (by omega) hbi _) ?_)
      intro W2 hx2
      refine rn ?_
      cases bi
      rotate_left
      · have hQe := hQi (hbi2 rfl)
        rw [hQe, roundR_inf, if_neg (Nat.not_le.2 rM_inf)]
        refine rn ?_
        refine G.ret2 rfl rfl rfl rfl rfl ?_
        exact ⟨rfl, hx.trans hx2⟩
      refine rn ?_
      refine GL.cons (Step.flt rfl (Op1.of rfl (by first | exact fun _ => rfl | exact fun h => h | exact fun h => bL h | exact fun h => bL (bL h) | exact fun h => bL (bL (bL h)))) (Op1.of rfl (by first | exact fun _ => rfl | exact fun h => h | exact fun h => bL h | exact fun h => bL (bL h) | exact fun h => bL (bL (bL h)))) hm rfl ?_)
      refine sCall c42 (round_ok neg (R := Q) (by omega) _) ?_
      rintro _ W3 ⟨rfl, hx3⟩
      obtain ⟨a, b, h1, h2, h3⟩ := in_test neg hrl
      refine rn ?_
      refine GL.cons (Step.fcmp rfl (Op1.of rfl (by first | exact fun _ => rfl | exact fun h => h | exact fun h => bL h | exact fun h => bL (bL h) | exact fun h => bL (bL (bL h)))) (Op1.of rfl (by first | exact fun _ => rfl | exact fun h => h | exact fun h => bL h | exact fun h => bL (bL h) | exact fun h => bL (bL (bL h)))) h1 rfl ?_)
      refine rn ?_
      refine GL.cons (Step.fcmp rfl (Op1.of rfl (by first | exact fun _ => rfl | exact fun h => h | exact fun h => bL h | exact fun h => bL (bL h) | exact fun h => bL (bL (bL h)))) (Op1.of rfl (by first | exact fun _ => rfl | exact fun h => h | exact fun h => bL h | exact fun h => bL (bL h) | exact fun h => bL (bL (bL h)))) h2 rfl ?_)
      refine rn ?_
      rw [h3]
      by_cases hc : roundR Q ≤ rM
      · obtain ⟨n, hn⟩ := toInt_M neg hc
        rw [decide_eq_true hc, if_pos hc, hn]
        refine rn ?_
        refine GL.cons (Step.f2i tb rfl (Op1.of rfl (by first | exact fun _ => rfl | exact fun h => h | exact fun h => bL h | exact fun h => bL (bL h) | exact fun h => bL (bL (bL h)))) rfl rfl hn rfl ?_)
        refine rn ?_
        refine G.ret2 rfl rfl rfl rfl rfl ?_
        exact ⟨rfl, (hx.trans hx2).trans hx3⟩
      · rw [decide_eq_false hc, if_neg hc]
        refine rn ?_
        refine G.ret2 rfl rfl rfl rfl rfl ?_
        exact ⟨rfl, (hx.trans hx2).trans hx3⟩
end Go.Proofs.YtlaingmhdgpkdaaGreatDoor
end
section
open Go Go.Vg Go.RowKit Go.Proofs Go.Proofs.YtlaingmhdgpkdaaGreatDoor
namespace Go.Proofs.YtlaingmhdgpkdaaGreatDoor
open Go.Nm
open Num

def stepP (s : List UInt8) : Option Int := match durP s with
  | some (some n) => if 0 < n then some (n : Int) else (match timeP s with | some m => if 0 < m then some m else none | none => none)
  | _ => match timeP s with | some m => if 0 < m then some m else none | none => none
def stepT (s : List UInt8) : Option Int := match timeP s with | some m => if 0 < m then some m else none | none => none
theorem step_dur {s : List UInt8} {n : Nat} (h : durP s = some (some n)) (h0 : 0 < n) : stepP s = some (n : Int) := by
  unfold stepP; rw [h]; exact if_pos h0
theorem step_time {s : List UInt8} (h : ∀ n, durP s = some (some n) → ¬ 0 < n) : stepP s = stepT s := by
  unfold stepP stepT
  cases hd : durP s with
  | none => rfl
  | some x =>
    cases x with
    | none => rfl
    | some n => exact if_neg (h n hd)
/-- what Duration tells: a number of milliseconds, or why not -/
theorem durV_form (d : Option (Option Nat)) : ∃ (n : Nat) (e : Int), durV d = .tuple ⟨[.int .i64 (n : Nat), .int .i64 e]⟩ ∧ ((e = 0 ∧ d = some (some n)) ∨ (e ≠ 0 ∧ ∀ m, d ≠ some (some m))) := by
  rcases d with _ | _ | n
  · exact ⟨0, 8, rfl, .inr ⟨by decide, fun m h => by cases h⟩⟩
  · exact ⟨0, 9, rfl, .inr ⟨by decide, fun m h => by cases h⟩⟩
  · exact ⟨n, 0, rfl, .inl ⟨rfl, rfl⟩⟩
theorem timeV_form (d : Option Int) : ∃ (n : Int) (e : Int), timeV d = .tuple ⟨[.int .i64 n, .int .i64 e]⟩ ∧ ((e = 0 ∧ d = some n) ∨ (e ≠ 0 ∧ d = none)) := by
  rcases d with _ | n
  · exact ⟨0, 8, rfl, .inr ⟨by decide, rfl⟩⟩
  · exact ⟨n, 0, rfl, .inl ⟨rfl, rfl⟩⟩
theorem stepW_ok (s : List UInt8) (w : World) (hs : s.length ≤ 9223372036854775807) : Ret Tryz.prog 25 ⟨[S s]⟩ w fun r w' => r = timeV (stepP s) ∧ Ext w w' := by
  refine ret_of_G Tryz.func25 rfl Tryz.ntmps25 rfl ?_
  simp only [argEnv]
  refine rn ?_
  refine sCall c46 (durP_ok s w hs) ?_
  rintro _ W ⟨rfl, hx⟩
  obtain ⟨n, e, hv, hc⟩ := durV_form (durP s)
  rw [hv]
  refine rn ?_
  rw [show (decide (e = 0) && decide ((0 : Int) < ((n : Nat) : Int))) = decide (e = 0 ∧ 0 < n) by
    rw [Bool.eq_iff_iff]; simp only [Bool.and_eq_true, decide_eq_true_eq]; omega]
  by_cases h1 : e = 0 ∧ 0 < n
  · have hd := (hc.resolve_right (fun h => h.1 h1.1)).2
    rw [decide_eq_true h1, step_dur hd h1.2]
    refine rn ?_
    refine G.ret2 rfl rfl rfl rfl rfl ?_
    exact ⟨rfl, hx⟩
  rw [decide_eq_false h1]
  have hst : stepP s = stepT s := step_time fun m hm => by
    rcases hc with ⟨he, hd⟩ | ⟨_, hd⟩
    · rw [hm] at hd
      injection hd with hd
      injection hd with hd
      subst hd
      exact fun h0 => h1 ⟨he, h0⟩
    · exact absurd hm (hd m)
  rw [hst]
  unfold stepT
  refine rn ?_
  refine sCall c23 (timeP_ok s W hs) ?_
  rintro _ W2 ⟨rfl, hx2⟩
  obtain ⟨k, e2, hv2, hc2⟩ := timeV_form (timeP s)
  rw [hv2]
  refine rn ?_
  rw [show (!decide (e2 = 0) || decide (k ≤ 0)) = decide (¬ (e2 = 0 ∧ 0 < k)) by
    rw [Bool.eq_iff_iff]; simp only [Bool.or_eq_true, Bool.not_eq_true', decide_eq_false_iff_not, decide_eq_true_eq]; omega]
  by_cases h2 : e2 = 0 ∧ 0 < k
  · rw [(hc2.resolve_right (fun h => h.1 h2.1)).2, decide_eq_false (fun h => h h2)]
    rw [show (match some k with | some m => if 0 < m then some m else none | none => none) = some k from if_pos h2.2]
    refine rn ?_
    refine G.ret2 rfl rfl rfl rfl rfl ?_
    exact ⟨rfl, hx.trans hx2⟩
  · have ht : (match timeP s with | some m => if 0 < m then some m else none | none => none) = none := by
      rcases hc2 with ⟨he, hd⟩ | ⟨_, hd⟩
      · rw [hd]; exact if_neg fun h => h2 ⟨he, h⟩
      · rw [hd]
    rw [decide_eq_true h2, ht]
    refine rn ?_
    refine G.ret2 rfl rfl rfl rfl rfl ?_
    exact ⟨rfl, hx.trans hx2⟩
theorem stepR_ok (s : List UInt8) (w : World) (hs : s.length ≤ 9223372036854775807) : Ret Tryz.prog 26 ⟨[S s]⟩ w fun r w' => r = timeV (stepP s) ∧ Ext w w' := by
  refine ret_of_G Tryz.func26 rfl Tryz.ntmps26 rfl ?_
  simp only [argEnv]
  refine rn ?_
  refine sCall c47 (durR_ok s w hs) ?_
  rintro _ W ⟨rfl, hx⟩
  obtain ⟨n, e, hv, hc⟩ := durV_form (durP s)
  rw [hv]
  refine rn ?_
  rw [show (decide (e = 0) && decide ((0 : Int) < ((n : Nat) : Int))) = decide (e = 0 ∧ 0 < n) by
    rw [Bool.eq_iff_iff]; simp only [Bool.and_eq_true, decide_eq_true_eq]; omega]
  by_cases h1 : e = 0 ∧ 0 < n
  · have hd := (hc.resolve_right (fun h => h.1 h1.1)).2
    rw [decide_eq_true h1, step_dur hd h1.2]
    refine rn ?_
    refine G.ret2 rfl rfl rfl rfl rfl ?_
    exact ⟨rfl, hx⟩
  rw [decide_eq_false h1]
  have hst : stepP s = stepT s := step_time fun m hm => by
    rcases hc with ⟨he, hd⟩ | ⟨_, hd⟩
    · rw [hm] at hd
      injection hd with hd
      injection hd with hd
      subst hd
      exact fun h0 => h1 ⟨he, h0⟩
    · exact absurd hm (hd m)
  rw [hst]
  unfold stepT
  refine rn ?_
  refine sCall c24 (timeR_ok s W hs) ?_
  rintro _ W2 ⟨rfl, hx2⟩
  obtain ⟨k, e2, hv2, hc2⟩ := timeV_form (timeP s)
  rw [hv2]
  refine rn ?_
  rw [show (!decide (e2 = 0) || decide (k ≤ 0)) = decide (¬ (e2 = 0 ∧ 0 < k)) by
    rw [Bool.eq_iff_iff]; simp only [Bool.or_eq_true, Bool.not_eq_true', decide_eq_false_iff_not, decide_eq_true_eq]; omega]
  by_cases h2 : e2 = 0 ∧ 0 < k
  · rw [(hc2.resolve_right (fun h => h.1 h2.1)).2, decide_eq_false (fun h => h h2)]
    rw [show (match some k with | some m => if 0 < m then some m else none | none => none) = some k from if_pos h2.2]
    refine rn ?_
    refine G.ret2 rfl rfl rfl rfl rfl ?_
    exact ⟨rfl, hx.trans hx2⟩
  · have ht : (match timeP s with | some m => if 0 < m then some m else none | none => none) = none := by
      rcases hc2 with ⟨he, hd⟩ | ⟨_, hd⟩
      · rw [hd]; exact if_neg fun h => h2 ⟨he, h⟩
      · rw [hd]
    rw [decide_eq_true h2, ht]
    refine rn ?_
    refine G.ret2 rfl rfl rfl rfl rfl ?_
    exact ⟨rfl, hx.trans hx2⟩
end Go.Proofs.YtlaingmhdgpkdaaGreatDoor
end
section
namespace Go.Proofs
open Go.Shelf
def Tryz.lays169_ren : Go.Shelf.Ren := ⟨fun | 169 => 65 | n => n, fun | 70 => 91 | 9 => 9 | 0 => 0 | 72 => 93 | 37 => 24 | 127 => 141 | 3 => 3 | 5 => 5 | n => n, fun | n => n⟩
theorem Tryz.lays169 : Go.Proofs.Lays.n169 Tryz.prog Tryz.lays169_ren := {
  mixed := by kernel_rfl
  f169 := Tryz.func65.trans (congrArg some (by kernel_rfl))
  t0 := Tryz.underlying0
  a0 := Tryz.isAgg0
  z0 := Tryz.sizeOf0
  v0 := Tryz.zeroValue0
  t3 := Tryz.underlying3
  a3 := Tryz.isAgg3
  z3 := Tryz.sizeOf3
  v3 := Tryz.zeroValue3
  t9 := Tryz.underlying9
  a9 := Tryz.isAgg9
  z9 := Tryz.sizeOf9
  v9 := Tryz.zeroValue9
  t37 := Tryz.underlying24
  a37 := Tryz.isAgg24
  z37 := Tryz.sizeOf24
  v37 := Tryz.zeroValue24
  t70 := Tryz.underlying91
  a70 := Tryz.isAgg91
  z70 := Tryz.sizeOf91
  v70 := Tryz.zeroValue91
  t72 := Tryz.underlying93
  a72 := Tryz.isAgg93
  z72 := Tryz.sizeOf93
  v72 := Tryz.zeroValue93
  t127 := Tryz.underlying141
  a127 := Tryz.isAgg141
  z127 := Tryz.sizeOf141
  v127 := Tryz.zeroValue141 }
theorem Tryz.Builder_Extra_169 : Builder.Extra Tryz.prog Tryz.lays169_ren := {
  sizeBuilder := by kernel_rfl
  liesBuilder := by kernel_rfl
  t5 := Tryz.underlying5
  a5 := Tryz.isAgg5
  z5 := Tryz.sizeOf5
  v5 := Tryz.zeroValue5
  infoByte := by kernel_rfl
  cellsByte := by kernel_rfl
  sizeByte := by kernel_rfl
  neB5 := by decide }
def Tryz.lays159_ren : Go.Shelf.Ren := ⟨fun | 159 => 96 | 165 => 63 | 166 => 64 | 167 => 99 | 169 => 65 | 230 => 130 | 204 => 131 | 240 => 109 | 241 => 110 | 197 => 29 | 118 => 152 | 168 => 153 | 270 => 154 | 262 => 155 | 276 => 138 | 277 => 139 | 260 => 50 | 242 => 161 | 313 => 162 | 278 => 165 | 274 => 166 | 275 => 167 | n => n, fun | 9 => 9 | 4 => 4 | 3 => 3 | 5 => 5 | 72 => 93 | 0 => 0 | 76 => 49 | 75 => 45 | 107 => 160 | 70 => 91 | 20 => 20 | 37 => 24 | 127 => 141 | 21 => 21 | 105 => 47 | 164 => 164 | 162 => 182 | 203 => 180 | 119 => 124 | 46 => 102 | 139 => 127 | 138 => 126 | 51 => 145 | 160 => 183 | 208 => 189 | 206 => 187 | 80 => 51 | n => n, fun | 13 => 5 | 3 => 2 | 4 => 3 | n => n⟩
theorem Tryz.lays159 : Go.Proofs.Lays.n159 Tryz.prog Tryz.lays159_ren := {
  mixed := by kernel_rfl
  f118 := Tryz.func152.trans (congrArg some (by kernel_rfl))
  f159 := Tryz.func96.trans (congrArg some (by kernel_rfl))
  f165 := Tryz.func63.trans (congrArg some (by kernel_rfl))
  f166 := Tryz.func64.trans (congrArg some (by kernel_rfl))
  f167 := Tryz.func99.trans (congrArg some (by kernel_rfl))
  f168 := Tryz.func153.trans (congrArg some (by kernel_rfl))
  f169 := Tryz.func65.trans (congrArg some (by kernel_rfl))
  f197 := Tryz.func29.trans (congrArg some (by kernel_rfl))
  f204 := Tryz.func131.trans (congrArg some (by kernel_rfl))
  f230 := Tryz.func130.trans (congrArg some (by kernel_rfl))
  f240 := Tryz.func109.trans (congrArg some (by kernel_rfl))
  f241 := Tryz.func110.trans (congrArg some (by kernel_rfl))
  f242 := Tryz.func161.trans (congrArg some (by kernel_rfl))
  f260 := Tryz.func50.trans (congrArg some (by kernel_rfl))
  f262 := Tryz.func155.trans (congrArg some (by kernel_rfl))
  f270 := Tryz.func154.trans (congrArg some (by kernel_rfl))
  f274 := Tryz.func166.trans (congrArg some (by kernel_rfl))
  f275 := Tryz.func167.trans (congrArg some (by kernel_rfl))
  f276 := Tryz.func138.trans (congrArg some (by kernel_rfl))
  f277 := Tryz.func139.trans (congrArg some (by kernel_rfl))
  f278 := Tryz.func165.trans (congrArg some (by kernel_rfl))
  f313 := Tryz.func162.trans (congrArg some (by kernel_rfl))
  t0 := Tryz.underlying0
  a0 := Tryz.isAgg0
  z0 := Tryz.sizeOf0
  v0 := Tryz.zeroValue0
  t3 := Tryz.underlying3
  a3 := Tryz.isAgg3
  z3 := Tryz.sizeOf3
  v3 := Tryz.zeroValue3
  t4 := Tryz.underlying4
  a4 := Tryz.isAgg4
  z4 := Tryz.sizeOf4
  v4 := Tryz.zeroValue4
  t5 := Tryz.underlying5
  a5 := Tryz.isAgg5
  z5 := Tryz.sizeOf5
  v5 := Tryz.zeroValue5
  t9 := Tryz.underlying9
  a9 := Tryz.isAgg9
  z9 := Tryz.sizeOf9
  v9 := Tryz.zeroValue9
  t20 := Tryz.underlying20
  a20 := Tryz.isAgg20
  z20 := Tryz.sizeOf20
  v20 := Tryz.zeroValue20
  t21 := Tryz.underlying21
  a21 := Tryz.isAgg21
  z21 := Tryz.sizeOf21
  v21 := Tryz.zeroValue21
  t37 := Tryz.underlying24
  a37 := Tryz.isAgg24
  z37 := Tryz.sizeOf24
  v37 := Tryz.zeroValue24
  t46 := Tryz.underlying102
  a46 := Tryz.isAgg102
  z46 := Tryz.sizeOf102
  v46 := Tryz.zeroValue102
  t51 := Tryz.underlying145
  a51 := Tryz.isAgg145
  z51 := Tryz.sizeOf145
  v51 := Tryz.zeroValue145
  t70 := Tryz.underlying91
  a70 := Tryz.isAgg91
  z70 := Tryz.sizeOf91
  v70 := Tryz.zeroValue91
  t72 := Tryz.underlying93
  a72 := Tryz.isAgg93
  z72 := Tryz.sizeOf93
  v72 := Tryz.zeroValue93
  t75 := Tryz.underlying45
  a75 := Tryz.isAgg45
  z75 := Tryz.sizeOf45
  v75 := Tryz.zeroValue45
  t76 := Tryz.underlying49
  a76 := Tryz.isAgg49
  z76 := Tryz.sizeOf49
  v76 := Tryz.zeroValue49
  t105 := Tryz.underlying47
  a105 := Tryz.isAgg47
  z105 := Tryz.sizeOf47
  v105 := Tryz.zeroValue47
  t107 := Tryz.underlying160
  a107 := Tryz.isAgg160
  z107 := Tryz.sizeOf160
  v107 := Tryz.zeroValue160
  t119 := Tryz.underlying124
  a119 := Tryz.isAgg124
  z119 := Tryz.sizeOf124
  t127 := Tryz.underlying141
  a127 := Tryz.isAgg141
  z127 := Tryz.sizeOf141
  v127 := Tryz.zeroValue141
  t138 := Tryz.underlying126
  a138 := Tryz.isAgg126
  z138 := Tryz.sizeOf126
  v138 := Tryz.zeroValue126
  t139 := Tryz.underlying127
  a139 := Tryz.isAgg127
  z139 := Tryz.sizeOf127
  v139 := Tryz.zeroValue127
  t160 := Tryz.underlying183
  a160 := Tryz.isAgg183
  z160 := Tryz.sizeOf183
  v160 := Tryz.zeroValue183
  t162 := Tryz.underlying182
  a162 := Tryz.isAgg182
  z162 := Tryz.sizeOf182
  v162 := Tryz.zeroValue182
  t164 := Tryz.underlying164
  a164 := Tryz.isAgg164
  z164 := Tryz.sizeOf164
  v164 := Tryz.zeroValue164
  t203 := Tryz.underlying180
  a203 := Tryz.isAgg180
  z203 := Tryz.sizeOf180
  v203 := Tryz.zeroValue180
  t206 := Tryz.underlying187
  a206 := Tryz.isAgg187
  z206 := Tryz.sizeOf187
  v206 := Tryz.zeroValue187
  t208 := Tryz.underlying189
  a208 := Tryz.isAgg189
  z208 := Tryz.sizeOf189
  v208 := Tryz.zeroValue189
  g3 := by kernel_rfl
  g4 := by kernel_rfl
  g13 := by kernel_rfl }
theorem Tryz.Builder_Extra_159 : Builder.Extra Tryz.prog Tryz.lays159_ren := {
  sizeBuilder := by kernel_rfl
  liesBuilder := by kernel_rfl
  t5 := Tryz.underlying5
  a5 := Tryz.isAgg5
  z5 := Tryz.sizeOf5
  v5 := Tryz.zeroValue5
  infoByte := by kernel_rfl
  cellsByte := by kernel_rfl
  sizeByte := by kernel_rfl
  neB5 := by decide }
def Tryz.lays160_ren : Go.Shelf.Ren := ⟨fun | 160 => 59 | 232 => 103 | 231 => 102 | 227 => 104 | 234 => 106 | 233 => 105 | 236 => 108 | 235 => 107 | 228 => 135 | 271 => 137 | 151 => 136 | 197 => 29 | 120 => 158 | 152 => 157 | 260 => 50 | 137 => 163 | 119 => 164 | 224 => 148 | 225 => 147 | 217 => 146 | 266 => 159 | n => n, fun | 9 => 9 | 4 => 4 | 3 => 3 | 5 => 5 | 117 => 137 | 116 => 136 | 0 => 0 | 124 => 140 | 21 => 21 | 105 => 47 | 46 => 102 | 119 => 124 | 139 => 127 | 138 => 126 | n => n, fun | 3 => 2 | 4 => 3 | n => n⟩
theorem Tryz.lays160 : Go.Proofs.Lays.n160 Tryz.prog Tryz.lays160_ren := {
  mixed := by kernel_rfl
  f119 := Tryz.func164.trans (congrArg some (by kernel_rfl))
  f120 := Tryz.func158.trans (congrArg some (by kernel_rfl))
  f137 := Tryz.func163.trans (congrArg some (by kernel_rfl))
  f151 := Tryz.func136.trans (congrArg some (by kernel_rfl))
  f152 := Tryz.func157.trans (congrArg some (by kernel_rfl))
  f160 := Tryz.func59.trans (congrArg some (by kernel_rfl))
  f197 := Tryz.func29.trans (congrArg some (by kernel_rfl))
  f217 := Tryz.func146.trans (congrArg some (by kernel_rfl))
  f224 := Tryz.func148.trans (congrArg some (by kernel_rfl))
  f225 := Tryz.func147.trans (congrArg some (by kernel_rfl))
  f227 := Tryz.func104.trans (congrArg some (by kernel_rfl))
  f228 := Tryz.func135.trans (congrArg some (by kernel_rfl))
  f231 := Tryz.func102.trans (congrArg some (by kernel_rfl))
  f232 := Tryz.func103.trans (congrArg some (by kernel_rfl))
  f233 := Tryz.func105.trans (congrArg some (by kernel_rfl))
  f234 := Tryz.func106.trans (congrArg some (by kernel_rfl))
  f235 := Tryz.func107.trans (congrArg some (by kernel_rfl))
  f236 := Tryz.func108.trans (congrArg some (by kernel_rfl))
  f260 := Tryz.func50.trans (congrArg some (by kernel_rfl))
  f266 := Tryz.func159.trans (congrArg some (by kernel_rfl))
  f271 := Tryz.func137.trans (congrArg some (by kernel_rfl))
  t0 := Tryz.underlying0
  a0 := Tryz.isAgg0
  z0 := Tryz.sizeOf0
  v0 := Tryz.zeroValue0
  t3 := Tryz.underlying3
  a3 := Tryz.isAgg3
  z3 := Tryz.sizeOf3
  v3 := Tryz.zeroValue3
  t4 := Tryz.underlying4
  a4 := Tryz.isAgg4
  z4 := Tryz.sizeOf4
  v4 := Tryz.zeroValue4
  t5 := Tryz.underlying5
  a5 := Tryz.isAgg5
  z5 := Tryz.sizeOf5
  v5 := Tryz.zeroValue5
  t9 := Tryz.underlying9
  a9 := Tryz.isAgg9
  z9 := Tryz.sizeOf9
  v9 := Tryz.zeroValue9
  t21 := Tryz.underlying21
  a21 := Tryz.isAgg21
  z21 := Tryz.sizeOf21
  v21 := Tryz.zeroValue21
  t46 := Tryz.underlying102
  a46 := Tryz.isAgg102
  z46 := Tryz.sizeOf102
  v46 := Tryz.zeroValue102
  t105 := Tryz.underlying47
  a105 := Tryz.isAgg47
  z105 := Tryz.sizeOf47
  v105 := Tryz.zeroValue47
  t116 := Tryz.underlying136
  a116 := Tryz.isAgg136
  z116 := Tryz.sizeOf136
  t117 := Tryz.underlying137
  a117 := Tryz.isAgg137
  z117 := Tryz.sizeOf137
  v117 := Tryz.zeroValue137
  t119 := Tryz.underlying124
  a119 := Tryz.isAgg124
  z119 := Tryz.sizeOf124
  t124 := Tryz.underlying140
  a124 := Tryz.isAgg140
  z124 := Tryz.sizeOf140
  v124 := Tryz.zeroValue140
  t138 := Tryz.underlying126
  a138 := Tryz.isAgg126
  z138 := Tryz.sizeOf126
  v138 := Tryz.zeroValue126
  t139 := Tryz.underlying127
  a139 := Tryz.isAgg127
  z139 := Tryz.sizeOf127
  v139 := Tryz.zeroValue127
  g3 := by kernel_rfl
  g4 := by kernel_rfl }
def Tryz.lays145_ren : Go.Shelf.Ren := ⟨fun | 145 => 51 | 220 => 86 | 219 => 125 | 217 => 146 | 225 => 147 | 224 => 148 | 267 => 149 | 266 => 159 | 314 => 160 | n => n, fun | 9 => 9 | 4 => 4 | 59 => 74 | 3 => 3 | 5 => 5 | 46 => 102 | 146 => 177 | 51 => 145 | n => n, fun | 1 => 4 | n => n⟩
theorem Tryz.lays145 : Go.Proofs.Lays.n145 Tryz.prog Tryz.lays145_ren := {
  mixed := by kernel_rfl
  f145 := Tryz.func51.trans (congrArg some (by kernel_rfl))
  f217 := Tryz.func146.trans (congrArg some (by kernel_rfl))
  f219 := Tryz.func125.trans (congrArg some (by kernel_rfl))
  f220 := Tryz.func86.trans (congrArg some (by kernel_rfl))
  f224 := Tryz.func148.trans (congrArg some (by kernel_rfl))
  f225 := Tryz.func147.trans (congrArg some (by kernel_rfl))
  f266 := Tryz.func159.trans (congrArg some (by kernel_rfl))
  f267 := Tryz.func149.trans (congrArg some (by kernel_rfl))
  f314 := Tryz.func160.trans (congrArg some (by kernel_rfl))
  t3 := Tryz.underlying3
  a3 := Tryz.isAgg3
  z3 := Tryz.sizeOf3
  v3 := Tryz.zeroValue3
  t4 := Tryz.underlying4
  a4 := Tryz.isAgg4
  z4 := Tryz.sizeOf4
  v4 := Tryz.zeroValue4
  t5 := Tryz.underlying5
  a5 := Tryz.isAgg5
  z5 := Tryz.sizeOf5
  v5 := Tryz.zeroValue5
  t9 := Tryz.underlying9
  a9 := Tryz.isAgg9
  z9 := Tryz.sizeOf9
  v9 := Tryz.zeroValue9
  t46 := Tryz.underlying102
  a46 := Tryz.isAgg102
  z46 := Tryz.sizeOf102
  v46 := Tryz.zeroValue102
  t51 := Tryz.underlying145
  a51 := Tryz.isAgg145
  z51 := Tryz.sizeOf145
  v51 := Tryz.zeroValue145
  t59 := Tryz.underlying74
  a59 := Tryz.isAgg74
  z59 := Tryz.sizeOf74
  v59 := Tryz.zeroValue74
  t146 := Tryz.underlying177
  a146 := Tryz.isAgg177
  z146 := Tryz.sizeOf177
  v146 := Tryz.zeroValue177
  g1 := by kernel_rfl }
def Tryz.lays99_ren : Go.Shelf.Ren := ⟨fun | 99 => 88 | 206 => 129 | n => n, fun | 9 => 9 | 4 => 4 | 3 => 3 | n => n, fun | n => n⟩
theorem Tryz.lays99 : Go.Proofs.Lays.n99 Tryz.prog Tryz.lays99_ren := {
  mixed := by kernel_rfl
  f99 := Tryz.func88.trans (congrArg some (by kernel_rfl))
  f206 := Tryz.func129.trans (congrArg some (by kernel_rfl))
  t3 := Tryz.underlying3
  a3 := Tryz.isAgg3
  z3 := Tryz.sizeOf3
  v3 := Tryz.zeroValue3
  t4 := Tryz.underlying4
  a4 := Tryz.isAgg4
  z4 := Tryz.sizeOf4
  v4 := Tryz.zeroValue4
  t9 := Tryz.underlying9
  a9 := Tryz.isAgg9
  z9 := Tryz.sizeOf9
  v9 := Tryz.zeroValue9 }
def Tryz.lays146_ren : Go.Shelf.Ren := ⟨fun | 146 => 52 | 221 => 87 | 268 => 126 | 138 => 127 | 143 => 128 | 195 => 150 | 197 => 29 | 218 => 151 | 219 => 125 | 260 => 50 | 217 => 146 | 225 => 147 | 224 => 148 | 267 => 149 | 266 => 159 | 314 => 160 | n => n, fun | 9 => 9 | 31 => 28 | 3 => 3 | 4 => 4 | 0 => 0 | 105 => 47 | 21 => 21 | 5 => 5 | 46 => 102 | 119 => 124 | 139 => 127 | 138 => 126 | 146 => 177 | 51 => 145 | n => n, fun | 1 => 4 | 3 => 2 | 4 => 3 | n => n⟩
theorem Tryz.lays146 : Go.Proofs.Lays.n146 Tryz.prog Tryz.lays146_ren := {
  mixed := by kernel_rfl
  f138 := Tryz.func127.trans (congrArg some (by kernel_rfl))
  f143 := Tryz.func128.trans (congrArg some (by kernel_rfl))
  f146 := Tryz.func52.trans (congrArg some (by kernel_rfl))
  f195 := Tryz.func150.trans (congrArg some (by kernel_rfl))
  f197 := Tryz.func29.trans (congrArg some (by kernel_rfl))
  f217 := Tryz.func146.trans (congrArg some (by kernel_rfl))
  f218 := Tryz.func151.trans (congrArg some (by kernel_rfl))
  f219 := Tryz.func125.trans (congrArg some (by kernel_rfl))
  f221 := Tryz.func87.trans (congrArg some (by kernel_rfl))
  f224 := Tryz.func148.trans (congrArg some (by kernel_rfl))
  f225 := Tryz.func147.trans (congrArg some (by kernel_rfl))
  f260 := Tryz.func50.trans (congrArg some (by kernel_rfl))
  f266 := Tryz.func159.trans (congrArg some (by kernel_rfl))
  f267 := Tryz.func149.trans (congrArg some (by kernel_rfl))
  f268 := Tryz.func126.trans (congrArg some (by kernel_rfl))
  f314 := Tryz.func160.trans (congrArg some (by kernel_rfl))
  t0 := Tryz.underlying0
  a0 := Tryz.isAgg0
  z0 := Tryz.sizeOf0
  v0 := Tryz.zeroValue0
  t3 := Tryz.underlying3
  a3 := Tryz.isAgg3
  z3 := Tryz.sizeOf3
  v3 := Tryz.zeroValue3
  t4 := Tryz.underlying4
  a4 := Tryz.isAgg4
  z4 := Tryz.sizeOf4
  v4 := Tryz.zeroValue4
  t5 := Tryz.underlying5
  a5 := Tryz.isAgg5
  z5 := Tryz.sizeOf5
  v5 := Tryz.zeroValue5
  t9 := Tryz.underlying9
  a9 := Tryz.isAgg9
  z9 := Tryz.sizeOf9
  v9 := Tryz.zeroValue9
  t21 := Tryz.underlying21
  a21 := Tryz.isAgg21
  z21 := Tryz.sizeOf21
  v21 := Tryz.zeroValue21
  t31 := Tryz.underlying28
  a31 := Tryz.isAgg28
  z31 := Tryz.sizeOf28
  v31 := Tryz.zeroValue28
  t46 := Tryz.underlying102
  a46 := Tryz.isAgg102
  z46 := Tryz.sizeOf102
  v46 := Tryz.zeroValue102
  t51 := Tryz.underlying145
  a51 := Tryz.isAgg145
  z51 := Tryz.sizeOf145
  v51 := Tryz.zeroValue145
  t105 := Tryz.underlying47
  a105 := Tryz.isAgg47
  z105 := Tryz.sizeOf47
  v105 := Tryz.zeroValue47
  t119 := Tryz.underlying124
  a119 := Tryz.isAgg124
  z119 := Tryz.sizeOf124
  t138 := Tryz.underlying126
  a138 := Tryz.isAgg126
  z138 := Tryz.sizeOf126
  v138 := Tryz.zeroValue126
  t139 := Tryz.underlying127
  a139 := Tryz.isAgg127
  z139 := Tryz.sizeOf127
  v139 := Tryz.zeroValue127
  t146 := Tryz.underlying177
  a146 := Tryz.isAgg177
  z146 := Tryz.sizeOf177
  v146 := Tryz.zeroValue177
  g1 := by kernel_rfl
  g3 := by kernel_rfl
  g4 := by kernel_rfl }
theorem Tryz.lays167 : Go.Proofs.Lays.n167 Tryz.prog Tryz.lays159_ren := { Tryz.lays159 with }
end Go.Proofs
end
section
open Go Go.Vg Go.RowKit Go.Proofs Go.Proofs.YtlaingmhdgpkdaaGreatDoor
namespace Go.Proofs.YtlaingmhdgpkdaaGreatDoor

def rngC (a b : Int) (c : UInt8) : Bool := decide (a ≤ c.toNat) && decide ((c.toNat : Int) ≤ b)
def hexI (c : UInt8) : Int := if rngC 48 57 c = true then c.toNat - 48 else if rngC 97 102 c = true then c.toNat - 87 else if rngC 65 70 c = true then c.toNat - 55 else -1
theorem hexI_bd (c : UInt8) : -1 ≤ hexI c ∧ hexI c ≤ 15 := by
  unfold hexI rngC
  split
  · rename_i h; simp only [Bool.and_eq_true, decide_eq_true_eq] at h; omega
  · split
    · rename_i h; simp only [Bool.and_eq_true, decide_eq_true_eq] at h; omega
    · split
      · rename_i h; simp only [Bool.and_eq_true, decide_eq_true_eq] at h; omega
      · omega
theorem digit_ok (c : UInt8) (w : World) : Ret Tryz.prog 94 ⟨[U c]⟩ w fun r w' => r = .bool (rngC 48 57 c) ∧ w' = w := by
  refine ret_of_G Tryz.func94 rfl Tryz.ntmps94 rfl ?_
  simp only [argEnv]
  refine rn ?_
  refine G.ret1 rfl rfl rfl rfl ?_
  exact ⟨rfl, rfl⟩
theorem letter_ok (c : UInt8) (w : World) : Ret Tryz.prog 93 ⟨[U c]⟩ w fun r w' => r = .bool (rngC 97 122 c || rngC 65 90 c) ∧ w' = w := by
  refine ret_of_G Tryz.func93 rfl Tryz.ntmps93 rfl ?_
  simp only [argEnv]
  refine rn ?_
  refine G.ret1 rfl rfl rfl rfl ?_
  exact ⟨rfl, rfl⟩
theorem hexI_1 {c : UInt8} (h : rngC 48 57 c = true) : hexI c = (c.toNat : Int) - 48 := by unfold hexI; rw [if_pos h]
theorem hexI_2 {c : UInt8} (h1 : rngC 48 57 c = false) (h : rngC 97 102 c = true) : hexI c = (c.toNat : Int) - 87 := by unfold hexI; rw [if_neg (by rw [h1]; simp), if_pos h]
theorem hexI_3 {c : UInt8} (h1 : rngC 48 57 c = false) (h2 : rngC 97 102 c = false) (h : rngC 65 70 c = true) : hexI c = (c.toNat : Int) - 55 := by unfold hexI; rw [if_neg (by rw [h1]; simp), if_neg (by rw [h2]; simp), if_pos h]
theorem hexI_4 {c : UInt8} (h1 : rngC 48 57 c = false) (h2 : rngC 97 102 c = false) (h : rngC 65 70 c = false) : hexI c = -1 := by unfold hexI; rw [if_neg (by rw [h1]; simp), if_neg (by rw [h2]; simp), if_neg (by rw [h]; simp)]
theorem base16_ok (c : UInt8) (w : World) : Ret Tryz.prog 98 ⟨[U c]⟩ w fun r w' => r = .int .i64 (hexI c) ∧ w' = w := by
  have hcl := c.toNat_lt
  refine ret_of_G Tryz.func98 rfl Tryz.ntmps98 rfl ?_
  simp only [argEnv]
  refine rn ?_
  refine sCall c94 (digit_ok c w) ?_
  rintro _ _ ⟨rfl, rfl⟩
  refine rn ?_
  first | refine G.condD rfl (fun hc => ?_) (fun hc => ?_) | refine G.condN rfl (fun hc => ?_) (fun hc => ?_) | refine G.cond rfl (fun hc => ?_) (fun hc => ?_)
  · have hr : hexI c = (c.toNat : Int) - 48 := hexI_1 hc
    unfold rngC at hc
    simp only [Bool.and_eq_true, decide_eq_true_eq] at hc
    refine rn ?_
    refine sAr (r := (c.toNat : Int) - 48) ?_ (hp := (wrap_u8 _).trans (by omega))
    refine sCv tb (r := (c.toNat : Int) - 48) ?_ (hr := wrap_i64 (by omega) (by omega))
    refine rn ?_
    refine G.ret1 rfl rfl rfl rfl ?_
    exact ⟨by rw [hr], rfl⟩
  · have hc1 := hc
    refine rn ?_
    first | refine G.condD rfl (fun hc => ?_) (fun hc => ?_) | refine G.condN rfl (fun hc => ?_) (fun hc => ?_) | refine G.cond rfl (fun hc => ?_) (fun hc => ?_)
    · have hr : hexI c = (c.toNat : Int) - 87 := hexI_2 hc1 hc
      simp only [Bool.and_eq_true, decide_eq_true_eq] at hc
      refine rn ?_
      refine sAr (r := (c.toNat : Int) - 97) ?_ (hp := (wrap_u8 _).trans (by omega))
      refine sCv tb (r := (c.toNat : Int) - 97) ?_ (hr := wrap_i64 (by omega) (by omega))
      refine sAd tb ?_
      refine rn ?_
      refine G.ret1 rfl rfl rfl rfl ?_
      exact ⟨by rw [hr]; congr 1; omega, rfl⟩
    · have hc2 := hc
      refine rn ?_
      first | refine G.condD rfl (fun hc => ?_) (fun hc => ?_) | refine G.condN rfl (fun hc => ?_) (fun hc => ?_) | refine G.cond rfl (fun hc => ?_) (fun hc => ?_)
      · have hr : hexI c = (c.toNat : Int) - 55 := hexI_3 hc1 hc2 hc
        simp only [Bool.and_eq_true, decide_eq_true_eq] at hc
        refine rn ?_
        refine sAr (r := (c.toNat : Int) - 65) ?_ (hp := (wrap_u8 _).trans (by omega))
        refine sCv tb (r := (c.toNat : Int) - 65) ?_ (hr := wrap_i64 (by omega) (by omega))
        refine sAd tb ?_
        refine rn ?_
        refine G.ret1 rfl rfl rfl rfl ?_
        exact ⟨by rw [hr]; congr 1; omega, rfl⟩
      · have hr : hexI c = -1 := hexI_4 hc1 hc2 hc
        refine rn ?_
        refine G.ret1 rfl rfl rfl rfl ?_
        exact ⟨by rw [hr], rfl⟩
end Go.Proofs.YtlaingmhdgpkdaaGreatDoor
end
section
open Go Go.Vg Go.RowKit Go.Proofs Go.Proofs.YtlaingmhdgpkdaaGreatDoor
namespace Go.Proofs.YtlaingmhdgpkdaaGreatDoor

abbrev Bld (w : World) (B b : Nat) (l : List UInt8) : Prop := Lib.IsBuilder 93 5 B b (Lib.byteCells l) w
theorem wbyte_ok (B b : Nat) (l : List UInt8) (c : UInt8) (w : World) (h : Bld w B b l) (hl : l.length + 1 ≤ 140737488355328) (hB : B ≤ w.heap.size) :
    Ret Tryz.prog 99 ⟨[ptr b, U c]⟩ w fun r w' => r = .nilIface ∧ Bld w' B b (l ++ [c]) ∧ Below B w w' :=
  Calls.mono (Any.Builder_WriteByte Tryz.lays167 Tryz.Builder_Extra_159 B b (Lib.byteCells l) c.toNat w h (by rw [Lib.byteCells_length]; exact hl) hB) fun _ _ ⟨he, h1, h2⟩ =>
    ⟨_, he, rfl, .inr (by rw [Lib.byteCells_append]; exact h1), h2⟩
theorem bstr_ok (B b : Nat) (l : List UInt8) (w : World) (h : Bld w B b l) (hB : B ≤ w.heap.size) :
    Ret Tryz.prog 65 ⟨[ptr b]⟩ w fun r w' => r = S l ∧ Below B w w' :=
  Calls.mono (Any.Builder_String_any Tryz.lays169 Tryz.Builder_Extra_169 B b l w h hB) fun _ _ ⟨he, h2⟩ => ⟨_, he, rfl, h2⟩
theorem Bld.ext {w w' : World} {B b : Nat} {l : List UInt8} (h : Bld w B b l) (hx : Ext w w') : Bld w' B b l := by
  have key : ∀ p, Lib.BuilderAt 93 5 B b p (Lib.byteCells l) w → Lib.BuilderAt 93 5 B b p (Lib.byteCells l) w' := by
    rintro p ⟨hB, v, hb, ⟨hl, hr⟩, hn⟩
    refine ⟨hB, v, by rw [hx.block b (Array.getElem?_eq_some_iff.1 hb).1]; exact hb, ⟨hl, ?_⟩, hn⟩
    rcases hr with h | ⟨g, cap, cur, h1, h2, h3, h4⟩
    · exact .inl h
    · exact .inr ⟨g, cap, cur, h1, h2, by rw [hx.block g (Array.getElem?_eq_some_iff.1 h3).1]; exact h3, h4⟩
  rcases h with h | h
  · exact .inl (key _ h)
  · exact .inr (key _ h)
theorem base16_ext (c : UInt8) (w : World) : Ret Tryz.prog 98 ⟨[U c]⟩ w fun r w' => r = .int .i64 (hexI c) ∧ Ext w w' :=
  Ret.mono (base16_ok c w) fun _ _ ⟨h1, h2⟩ => ⟨h1, by rw [h2]; exact Ext.refl _⟩
/-- P17.2: a text decoded -/
def decP (plus : Bool) : List UInt8 → Option (List UInt8)
  | [] => some []
  | c :: r => if ((c.toNat : Int) = 43 ∧ plus = true) then (decP plus r).map (32 :: ·)
    else if (c.toNat : Int) = 37 then match r with
      | a :: b :: r' => if hexI a < 0 ∨ hexI b < 0 then none else (decP plus r').map (byI (16 * hexI a + hexI b) :: ·)
      | _ => none
    else (decP plus r).map (c :: ·)
theorem decP_cons (plus : Bool) (c : UInt8) (r : List UInt8) : decP plus (c :: r) = if ((c.toNat : Int) = 43 ∧ plus = true) then (decP plus r).map (32 :: ·)
    else if (c.toNat : Int) = 37 then match r with
      | a :: b :: r' => if hexI a < 0 ∨ hexI b < 0 then none else (decP plus r').map (byI (16 * hexI a + hexI b) :: ·)
      | _ => none
    else (decP plus r).map (c :: ·) := by
  rcases r with _ | ⟨a, _ | ⟨b, r⟩⟩ <;> simp only [decP]
theorem drop_at {s : List UInt8} {k : Nat} (h : k < s.length) : s.drop k = s.getD k 0 :: s.drop (k + 1) := by
  rw [List.drop_eq_getElem_cons h]; simp [List.getD, h]

/-- what is decoded so far, and what is left -/
def decAt (plus : Bool) (s : List UInt8) (k : Nat) (acc : List UInt8) : Prop := (decP plus (s.drop k)).map (acc ++ ·) = decP plus s
theorem decAt_step {plus : Bool} {s acc : List UInt8} {k k' : Nat} {c : UInt8} (h : decAt plus s k acc) (he : decP plus (s.drop k) = (decP plus (s.drop k')).map (c :: ·)) : decAt plus s k' (acc ++ [c]) := by
  unfold decAt at h ⊢
  rw [← h, he]
  cases decP plus (s.drop k') <;> simp
theorem decAt_none {plus : Bool} {s acc : List UInt8} {k : Nat} (h : decAt plus s k acc) (he : decP plus (s.drop k) = none) : decP plus s = none := by
  unfold decAt at h
  rw [← h, he]; rfl

theorem decode_ok (s : List UInt8) (plus : Bool) (w : World) (hs : s.length ≤ 100000000) :
    Ret Tryz.prog 56 ⟨[S s, .bool plus]⟩ w fun r w' => r = (match decP plus s with
      | some o => .tuple ⟨[S o, .int .i64 0]⟩
      | none => .tuple ⟨[S [], .int .i64 8]⟩) ∧ Ext w w' := by
  refine ret_of_G Tryz.func56 rfl Tryz.ntmps56 rfl ?_
  simp only [argEnv]
  refine rn ?_
  refine GL.cons (Step.allocE tb rfl rfl rfl rfl ?_)
  have hx1 : Ext w (w.alloc (.cells ⟨[.pointer none, .slice none 0 0]⟩ 93)) := Ext.alloc _ _
  have hb1 : Bld (w.alloc (.cells ⟨[.pointer none, .slice none 0 0]⟩ 93)) w.heap.size w.heap.size [] :=
    .inl ⟨Nat.le_refl _, _, heap_alloc_new _ _, World.ownsRow_nil _ _ _ _, by simp [Value.ownBlock]⟩
  generalize w.alloc (.cells ⟨[.pointer none, .slice none 0 0]⟩ 93) = w1 at hx1 hb1 ⊢
  refine rn ?_
  refine (G.loop (fun k : Nat => [(0, none, S s), (1, none, .bool plus), (6, none, ptr w.heap.size), (7, none, .int .i64 k)]) (fun k W => Ext w W ∧ k ≤ s.length ∧ ∃ acc, Bld W w.heap.size w.heap.size acc ∧ acc.length ≤ k ∧ decAt plus s k acc) (fun k => s.length - k) 0 (by repeat (first | exact Sub.nil _ | refine Sub.cons rfl ?_)) ⟨hx1, by omega, [], hb1, by simp, by unfold decAt; simp⟩ ?_)
  clear hx1 hb1
  rintro k W ⟨hx, hk, acc, hb, hal, hd⟩
  refine rn ?_
  first | refine G.condD rfl (fun hc => ?_) (fun hc => ?_) | refine G.condN rfl (fun hc => ?_) (fun hc => ?_) | refine G.cond rfl (fun hc => ?_) (fun hc => ?_)
  · have hlt : k < s.length := by omega
    have hdr := drop_at hlt
    refine rn ?_
    refine sBs tb k ?_
    generalize s.getD k 0 = c at hdr ⊢
    refine rn ?_
    refine G.join (fun x : Nat × UInt8 => [(0, none, S s), (1, none, .bool plus), (6, none, ptr w.heap.size), (7, none, .int .i64 x.1), (8, none, U x.2)]) (fun x w' => Ext w w' ∧ Bld w' w.heap.size w.heap.size acc ∧ k ≤ x.1 ∧ x.1 < s.length ∧ decP plus (s.drop k) = (decP plus (s.drop (x.1 + 1))).map (x.2 :: ·)) ?_ ?_
    · rintro ⟨j, c'⟩ W1 ⟨hx1, hb1, hkj, hj, he⟩
      simp only at hkj hj he ⊢
      refine rn ?_
      refine sCall c99 (wbyte_ok w.heap.size w.heap.size acc c' W1 hb1 (by omega) hx1.size) ?_
      rintro _ W2 ⟨rfl, hb2, hx2⟩
      have hx2 : Ext w W2 := Below.trans (B := w.heap.size) hx1 hx2
      refine rn ?_
      refine sAd tb ?_
      refine rn ?_
      exact G.lp (x := k) (j + 1) (by repeat (first | exact Sub.nil _ | refine Sub.cons rfl ?_)) ⟨hx2, by omega, _, hb2, by rw [List.length_append, List.length_cons, List.length_nil]; omega, decAt_step hd he⟩ (by omega)
    · first | refine G.condD rfl (fun hc => ?_) (fun hc => ?_) | refine G.condN rfl (fun hc => ?_) (fun hc => ?_) | refine G.cond rfl (fun hc => ?_) (fun hc => ?_)
      · simp only [Bool.and_eq_true, decide_eq_true_eq] at hc
        refine rn ?_
        refine G.met (k, 32) (by repeat (first | exact Sub.nil _ | refine Sub.cons rfl ?_)) ⟨hx, hb, Nat.le_refl _, hlt, ?_⟩
        rw [hdr, decP_cons, if_pos hc]
      · have hc1 : ¬ ((c.toNat : Int) = 43 ∧ plus = true) := by
          intro h
          rw [decide_eq_true h.1, h.2] at hc; cases hc
        refine rn ?_
        first | refine G.condD rfl (fun hc => ?_) (fun hc => ?_) | refine G.condN rfl (fun hc => ?_) (fun hc => ?_) | refine G.cond rfl (fun hc => ?_) (fun hc => ?_)
        · have hdr2 : decP plus (s.drop k) = match s.drop (k + 1) with
              | a :: b :: r' => if hexI a < 0 ∨ hexI b < 0 then none else (decP plus r').map (byI (16 * hexI a + hexI b) :: ·)
              | _ => none := by
            rw [hdr, decP_cons, if_neg hc1, if_pos hc]
          refine rn ?_
          refine sAd tb ?_
          refine rn ?_
          by_cases hroom : s.length ≤ k + 2
          · rw [show decide ((s.length : Int) ≤ (k : Int) + 2) = true from decide_eq_true (by omega)]
            have hn : decP plus s = none := by
              refine decAt_none hd (hdr2.trans ?_)
              have hl : (s.drop (k + 1)).length ≤ 1 := by rw [List.length_drop]; omega
              match s.drop (k + 1), hl with
              | [], _ => rfl
              | [_], _ => rfl
            rw [hn]
            refine rn ?_
            refine GL.cons (Step.off (v := .int .i64 0) rfl (of_decide_eq_true rfl) rfl ?_)
            refine GL.cons (Step.off (v := U 0) rfl (of_decide_eq_true rfl) rfl ?_)
            refine GL.cons (Step.off (v := .int .i64 0) rfl (of_decide_eq_true rfl) rfl ?_)
            refine rn ?_
            refine GL.cons (Step.off (v := .int .i64 0) rfl (of_decide_eq_true rfl) rfl ?_)
            refine GL.cons (Step.off (v := U 0) rfl (of_decide_eq_true rfl) rfl ?_)
            refine GL.cons (Step.off (v := .int .i64 0) rfl (of_decide_eq_true rfl) rfl ?_)
            refine rn ?_
            refine G.ret2 rfl rfl rfl rfl rfl ?_
            exact ⟨rfl, hx⟩
          · rw [show decide ((s.length : Int) ≤ (k : Int) + 2) = false from decide_eq_false (by omega)]
            have hd1 : s.drop (k + 1) = s.getD (k + 1) 0 :: s.getD (k + 2) 0 :: s.drop (k + 3) := by rw [drop_at (show k + 1 < s.length by omega), drop_at (show k + 2 < s.length by omega)]
            have hgo : decP plus (s.drop k) = if hexI (s.getD (k + 1) 0) < 0 ∨ hexI (s.getD (k + 2) 0) < 0 then none else (decP plus (s.drop (k + 3))).map (byI (16 * hexI (s.getD (k + 1) 0) + hexI (s.getD (k + 2) 0)) :: ·) := by rw [hdr2, hd1]
            have hb1 := hexI_bd (s.getD (k + 1) 0)
            have hb2 := hexI_bd (s.getD (k + 2) 0)
            refine rn ?_
            refine sAd tb ?_
            refine sBs tb (k + 1) ?_ (hj := fun _ => ⟨by omega, by omega⟩)
            refine sCallx c98 (fun hc => base16_ext (s.getD (k + 1) 0) W) ?_
            intro W1 hx1
            refine rn ?_
            refine sAd tb ?_
            refine sBs tb (k + 2) ?_ (hj := fun _ => ⟨by omega, by omega⟩)
            refine sCallx c98 (fun hc => base16_ext (s.getD (k + 2) 0) W1) ?_
            intro W2 hx2
            have hx02 := hx.trans (hx1.trans hx2)
            have hb02 := hb.ext (hx1.trans hx2)
            refine rn ?_
            first | refine G.condD rfl (fun hc => ?_) (fun hc => ?_) | refine G.condN rfl (fun hc => ?_) (fun hc => ?_) | refine G.cond rfl (fun hc => ?_) (fun hc => ?_)
            · rw [if_pos (by simpa using hc)] at hgo
              have hn : decP plus s = none := decAt_none hd hgo
              rw [hn]
              refine rn ?_
              refine G.ret2 rfl rfl rfl rfl rfl ?_
              exact ⟨rfl, hx02⟩
            · rw [if_neg (by simpa using hc)] at hgo
              refine rn ?_
              refine G.regionM [(0, true), (1, true), (2, true), (3, true), (4, true), (5, true), (6, true), (7, true), (8, true), (9, true), (10, true), (11, true), (12, true), (13, true)] (Ext W2) (by kernel_rfl) (by kernel_rfl) rfl mixed (Ext.drew W2) rfl ?_
              refine rd ?_
              refine dAd tb ?_
              refine dBs tb (k + 1) ?_ (hj := fun _ => ⟨by omega, by omega⟩)
              refine dCallq c98 (fun w' _ _ => base16_ok (s.getD (k + 1) 0) w') ?_
              refine dAr (r := 16 * hexI (s.getD (k + 1) 0)) ?_ (hp := wrap_i64 (by omega) (by omega))
              refine rd ?_
              refine dAd tb ?_
              refine dBs tb (k + 2) ?_ (hj := fun _ => ⟨by omega, by omega⟩)
              refine dCallq c98 (fun w' _ _ => base16_ok (s.getD (k + 2) 0) w') ?_
              refine dAr (r := 16 * hexI (s.getD (k + 1) 0) + hexI (s.getD (k + 2) 0)) ?_ (hp := wrap_i64 (by omega) (by omega))
              refine dCb tb ?_
              refine rd ?_
              refine GM.nil ?_
              refine rn ?_
              refine sAd tb ?_
              refine rn ?_
              exact G.met (k + 2, _) (by repeat (first | exact Sub.nil _ | refine Sub.cons rfl ?_)) ⟨hx02.drew', hb02.ext (Ext.drew W2), by simp only; omega, by simp only; omega, hgo⟩
        · refine rn ?_
          refine G.met (k, c) (by repeat (first | exact Sub.nil _ | refine Sub.cons rfl ?_)) ⟨hx, hb, Nat.le_refl _, hlt, ?_⟩
          rw [hdr, decP_cons, if_neg hc1, if_neg hc]
  · obtain rfl : k = s.length := by omega
    have he : decP plus s = some acc := by
      unfold decAt at hd
      rw [← hd, List.drop_length]; simp [decP]
    rw [he]
    refine rn ?_
    refine sCall c65 (bstr_ok w.heap.size w.heap.size acc W hb hx.size) ?_
    rintro _ W2 ⟨rfl, hx2⟩
    refine rn ?_
    refine G.ret2 rfl rfl rfl rfl rfl ?_
    exact ⟨rfl, Below.trans (B := w.heap.size) hx hx2⟩
end Go.Proofs.YtlaingmhdgpkdaaGreatDoor
end
section
open Go Go.Vg Go.RowKit Go.Proofs Go.Proofs.YtlaingmhdgpkdaaGreatDoor
namespace Go.Proofs.YtlaingmhdgpkdaaGreatDoor

def MaxC (w : World) : Prop := ∃ m, w.cell? ⟨(Tryz.lays145_ren.g 1), 0, none⟩ = some (.int .i64 m)
theorem MaxC.to {w w' : World} (h : MaxC w) (hx : Ext w w') : MaxC w' := by
  obtain ⟨m, hm⟩ := h
  refine ⟨m, ?_⟩
  rw [Below.cell hx (block_lt_of_cell hm)]; exact hm
theorem cut_ok (s sep : List UInt8) (w : World) (hs : s.length ≤ 4000000000) (hM : MaxC w) :
    Ret Tryz.prog 51 ⟨[S s, S sep]⟩ w fun r w' => r = .tuple ⟨[S (Lib.cut s sep).1, S (Lib.cut s sep).2.1, .bool (Lib.cut s sep).2.2]⟩ ∧ Ext w w' := by
  obtain ⟨m, hm⟩ := hM
  refine Calls.mono (Any.strings_Cut Tryz.lays145 ⟨⟨s⟩⟩ ⟨⟨sep⟩⟩ m w (by show s.length < _; omega) hm) ?_
  rintro e w' ⟨he, n, rfl⟩
  exact ⟨_, he, rfl, ⟨rfl, rfl, rfl, Nat.le_refl _, fun _ _ => rfl⟩⟩

/-- a text's pieces between separators -/
def piecesF (sep : List UInt8) : Nat → List UInt8 → List (List UInt8)
  | 0, s => [s]
  | n + 1, s => if Lib.index s sep < 0 then [s] else s.take (Lib.index s sep).toNat :: piecesF sep n (s.drop ((Lib.index s sep).toNat + sep.length))
def piecesL (s sep : List UInt8) : List (List UInt8) := if sep = [] then [s] else piecesF sep s.length s
theorem index_nil {sep : List UInt8} (h : sep ≠ []) : Lib.index [] sep = -1 := by
  cases sep with
  | nil => exact absurd rfl h
  | cons a r => rfl
theorem piecesF_fuel {sep : List UInt8} (hsep : sep ≠ []) : ∀ (n m : Nat) (s : List UInt8), s.length ≤ n → s.length ≤ m → piecesF sep n s = piecesF sep m s := by
  have hl : 0 < sep.length := List.length_pos_iff.2 hsep
  intro n
  induction n with
  | zero =>
    intro m s h1 h2
    obtain rfl : s = [] := List.eq_nil_of_length_eq_zero (by omega)
    cases m with
    | zero => rfl
    | succ m => simp [piecesF, index_nil hsep]
  | succ n ih =>
    intro m s h1 h2
    cases m with
    | zero =>
      obtain rfl : s = [] := List.eq_nil_of_length_eq_zero (by omega)
      simp [piecesF, index_nil hsep]
    | succ m =>
      simp only [piecesF]
      by_cases h : Lib.index s sep < 0
      · rw [if_pos h, if_pos h]
      · rw [if_neg h, if_neg h]
        have hr := Lib.index_room s sep (by omega)
        rw [ih m _ (by rw [List.length_drop]; omega) (by rw [List.length_drop]; omega)]
theorem piecesL_step {s sep : List UInt8} (hsep : sep ≠ []) : piecesL s sep = if Lib.index s sep < 0 then [s] else s.take (Lib.index s sep).toNat :: piecesL (s.drop ((Lib.index s sep).toNat + sep.length)) sep := by
  have hl : 0 < sep.length := List.length_pos_iff.2 hsep
  have h1 : piecesL s sep = piecesF sep (s.length + 1) s := by
    unfold piecesL
    rw [if_neg hsep]
    exact piecesF_fuel hsep _ _ s (Nat.le_refl _) (by omega)
  rw [h1]
  simp only [piecesF]
  by_cases h : Lib.index s sep < 0
  · rw [if_pos h, if_pos h]
  · rw [if_neg h, if_neg h]
    unfold piecesL
    rw [if_neg hsep]
    rw [piecesF_fuel hsep _ _ _ (by rw [List.length_drop]; omega) (Nat.le_refl _)]
theorem piecesL_cut {s sep : List UInt8} (hsep : sep ≠ []) : piecesL s sep = (Lib.cut s sep).1 :: (if (Lib.cut s sep).2.2 = true then piecesL (Lib.cut s sep).2.1 sep else []) := by
  rw [piecesL_step hsep]
  unfold Lib.cut
  by_cases h : Lib.index s sep < 0
  · rw [if_pos h, if_neg (by omega)]; rfl
  · rw [if_neg h, if_pos (by omega)]; rfl
theorem cut_len (s sep : List UInt8) : (Lib.cut s sep).1.length ≤ s.length ∧ (Lib.cut s sep).2.1.length ≤ s.length := by
  unfold Lib.cut
  split
  · simp only [List.length_take, List.length_drop]; omega
  · simp
theorem cut_less {s sep : List UInt8} (hsep : sep ≠ []) (h : (Lib.cut s sep).2.2 = true) : (Lib.cut s sep).2.1.length < s.length := by
  have hl : 0 < sep.length := List.length_pos_iff.2 hsep
  unfold Lib.cut at h ⊢
  split at h
  · rename_i h0
    have hr := Lib.index_room s sep h0
    rw [if_pos h0]
    simp only [List.length_drop]; omega
  · cases h

end Go.Proofs.YtlaingmhdgpkdaaGreatDoor
end
section
open Go Go.Vg Go.RowKit Go.Proofs Go.Proofs.YtlaingmhdgpkdaaGreatDoor
namespace Go.Proofs.YtlaingmhdgpkdaaGreatDoor

def strC (s : List UInt8) : List Value := [S s]
abbrev Strs (w : World) (v : Value) (ns : List (List UInt8)) : Prop := Sli w v 1 (ns.map strC)
abbrev SO (w : World) (B : Nat) (v : Value) (ss : List (List UInt8)) : Prop := Owns w B v 9 1 (ss.map strC)
theorem strC_k (ns : List (List UInt8)) : ∀ x ∈ ns.map strC, x.length = 1 := by
  intro x hx
  obtain ⟨y, _, rfl⟩ := List.mem_map.1 hx
  rfl
theorem str1 (ns : List (List UInt8)) : ∀ y ∈ ns.map strC, ∀ c ∈ y, c.oneCell' = true := by
  intro y hy c hc
  obtain ⟨x, _, rfl⟩ := List.mem_map.1 hy
  simp only [strC, List.mem_cons, List.not_mem_nil, or_false] at hc
  subst hc; rfl

theorem pieces_ok (s sep : List UInt8) (w : World) :
    Ret Tryz.prog 100 ⟨[S s, S sep]⟩ w fun r w' => ∃ b1 b2, r = .func (.func 133) #[] ⟨[ptr b1, ptr b2]⟩ ∧ w.heap.size ≤ b1 ∧ w.heap.size ≤ b2 ∧ Bx w' b1 [S s] ∧ Bx w' b2 [S sep] ∧ Ext w w' := by
  refine ret_of_G Tryz.func100 rfl Tryz.ntmps100 rfl ?_
  simp only [argEnv]
  refine rn ?_
  refine sBox ?_
  intro w1 hb1 hs1 hx1
  refine sBox ?_
  intro w2 hb2 hs2 hx2
  refine rn ?_
  refine G.ret1 rfl rfl rfl rfl ?_
  exact ⟨_, _, rfl, Nat.le_refl _, hx1.size, hb1.to hx2, hb2, hx1.trans hx2⟩
theorem pieces1_ok (s sep : List UInt8) (b1 b2 : Nat) (hs : s.length ≤ 4000000000) : IterOk Tryz.prog 133 [ptr b1, ptr b2] ((piecesL s sep).map strC) (fun W => CellAt W (ptr b1) (S s) ∧ CellAt W (ptr b2) (S sep) ∧ MaxC W) := by
  intro l I St w hD hI hSt h0 hY
  refine ret_of_G Tryz.func133 rfl Tryz.ntmps133 rfl ?_
  simp only [argEnv]
  have h0' := hD 0 w h0
  refine rn ?_
  refine GL.cons (Step.load1 tb rfl (Op1.of rfl (by first | exact fun _ => rfl | exact fun h => h | exact fun h => bL h | exact fun h => bL (bL h) | exact fun h => bL (bL (bL h)))) rfl rfl (fun _ => h0'.1) rfl ?_)
  refine rn ?_
  refine (G.loop (fun x : Nat × List UInt8 × Bool => [(0, none, yieldV l), (1, none, ptr b1), (2, none, ptr b2), (4, none, S x.2.1), (5, none, .bool x.2.2)]) (fun x W => I x.1 W ∧ x.1 ≤ (piecesL s sep).length ∧ x.2.1.length ≤ s.length ∧ (piecesL s sep).drop x.1 = if x.2.2 = true then piecesL x.2.1 sep else []) (fun x => if x.2.2 = true then x.2.1.length + 1 else 0) (0, s, true) (by repeat (first | exact Sub.nil _ | refine Sub.cons rfl ?_)) ⟨h0, Nat.zero_le _, Nat.le_refl _, by simp⟩ ?_)
  rintro ⟨i, rest, more⟩ W ⟨hIi, hil0, hrl, hdr⟩
  simp only at hIi hil0 hrl hdr ⊢
  have hDi := hD i W hIi
  refine rn ?_
  have hget : ∀ p tl, (piecesL s sep).drop i = p :: tl → ((piecesL s sep).map strC)[i]? = some (strC p) ∧ (piecesL s sep).drop (i + 1) = tl ∧ i < (piecesL s sep).length := by
    intro p tl h
    have hlt : i < (piecesL s sep).length := by
      apply Classical.byContradiction
      intro hc
      rw [List.drop_of_length_le (by omega)] at h; cases h
    rw [List.drop_eq_getElem_cons hlt] at h
    injection h with h1 h2
    exact ⟨by rw [List.getElem?_map, List.getElem?_eq_getElem hlt, h1]; rfl, h2, hlt⟩
  cases more with
  | false =>
    have hle : (piecesL s sep).length ≤ i := by
      have := congrArg List.length hdr
      simp at this; omega
    refine rn ?_
    obtain rfl : i = (piecesL s sep).length := by omega
    exact G.end0 rfl rfl rfl (.inl (by simpa using hIi))
  | true =>
    rw [if_pos rfl] at hdr
    refine rn ?_
    refine GL.cons (Step.load1 tb rfl (Op1.of rfl (by first | exact fun _ => rfl | exact fun h => h | exact fun h => bL h | exact fun h => bL (bL h) | exact fun h => bL (bL (bL h)))) rfl rfl (fun _ => hDi.2.1) rfl ?_)
    refine rn ?_
    first | refine G.condD rfl (fun hc => ?_) (fun hc => ?_) | refine G.condN rfl (fun hc => ?_) (fun hc => ?_) | refine G.cond rfl (fun hc => ?_) (fun hc => ?_)
    · have hsep : sep ≠ [] := by simpa using hc
      rw [piecesL_cut (s := rest) hsep] at hdr
      obtain ⟨hg, hdr2, hil⟩ := hget _ _ hdr
      have hcl := cut_len rest sep
      have hless := @cut_less rest sep hsep
      refine rn ?_
      refine GL.cons (Step.load1 tb rfl (Op1.of rfl (by first | exact fun _ => rfl | exact fun h => h | exact fun h => bL h | exact fun h => bL (bL h) | exact fun h => bL (bL (bL h)))) rfl rfl (fun _ => hDi.2.1) rfl ?_)
      refine sCall c51 (cut_ok rest sep W (by omega) hDi.2.2) ?_
      rintro _ W2 ⟨rfl, hx2⟩
      generalize Lib.cut rest sep = c at hg hdr2 hcl hless
      obtain ⟨p, r2, m2⟩ := c
      simp only at hg hdr2 hcl hless
      refine rn ?_
      refine GL.cons (Step.yield rfl (Op1.of rfl (by first | exact fun _ => rfl | exact fun h => h | exact fun h => bL h | exact fun h => bL (bL h) | exact fun h => bL (bL (bL h)))) rfl rfl rfl (hY i _ W2 hg (hI _ _ _ hIi hx2)) ?_)
      intro bb W3 hR
      cases bb with
      | true =>
        refine rn ?_
        refine G.lp (x := (i, rest, true)) (i + 1, r2, m2) (by repeat (first | exact Sub.nil _ | refine Sub.cons rfl ?_)) ⟨hR, by simp only; omega, by simp only; omega, hdr2⟩ ?_
        simp only [if_true]
        cases m2 with
        | true => have := hless rfl; simp only [if_true]; omega
        | false => simp
      | false =>
        refine rn ?_
        exact G.ret0 rfl rfl rfl (.inr hR)
    · have hsep : sep = [] := by simpa using hc
      have h1 : piecesL rest sep = [rest] := by unfold piecesL; rw [if_pos hsep]
      rw [h1] at hdr
      obtain ⟨hg, hdr2, hil⟩ := hget _ _ hdr
      rw [show (!decide (sep = [])) = false by simp [hsep]]
      refine rn ?_
      refine GL.cons (Step.yield rfl (Op1.of rfl (by first | exact fun _ => rfl | exact fun h => h | exact fun h => bL h | exact fun h => bL (bL h) | exact fun h => bL (bL (bL h)))) rfl rfl rfl (hY i _ W hg hIi) ?_)
      intro bb W3 hR
      cases bb with
      | true =>
        refine rn ?_
        refine G.lp (x := (i, rest, true)) (i + 1, rest, false) (by repeat (first | exact Sub.nil _ | refine Sub.cons rfl ?_)) ⟨hR, by simp only; omega, by simp only; omega, by simpa using hdr2⟩ ?_
        simp
      | false =>
        refine rn ?_
        exact G.ret0 rfl rfl rfl (.inr hR)
end Go.Proofs.YtlaingmhdgpkdaaGreatDoor
end
section
open Go Go.Vg Go.RowKit Go.Proofs Go.Proofs.YtlaingmhdgpkdaaGreatDoor
namespace Go.Proofs.YtlaingmhdgpkdaaGreatDoor

abbrev Lab := List UInt8 × List UInt8
def labC (x : Lab) : List Value := [S x.1, S x.2]
abbrev Labs (w : World) (v : Value) (ls : List Lab) : Prop := Sli w v 2 (ls.map labC)
abbrev LO (w : World) (B : Nat) (v : Value) (ls : List Lab) : Prop := Owns w B v 64 2 (ls.map labC)
theorem lab1 (ls : List Lab) : ∀ y ∈ ls.map labC, ∀ c ∈ y, c.oneCell' = true := by
  intro y hy c hc
  obtain ⟨x, _, rfl⟩ := List.mem_map.1 hy
  simp only [labC, List.mem_cons, List.not_mem_nil, or_false] at hc
  rcases hc with rfl | rfl <;> rfl
theorem labLen (ls : List Lab) : ∀ x ∈ ls.map labC, x.length = 2 := by
  intro y hy
  obtain ⟨x, _, rfl⟩ := List.mem_map.1 hy
  rfl
def partP (p : List UInt8) : Option Lab := match decP true (Lib.cut p [61]).1, decP true (Lib.cut p [61]).2.1 with
  | some n, some v => some (n, v)
  | _, _ => none
def paramsL : List (List UInt8) → Option (List Lab)
  | [] => some []
  | p :: r => if p = [] then paramsL r else match partP p with
    | some x => (paramsL r).map (x :: ·)
    | none => none
def parAt (ps : List (List UInt8)) (i : Nat) (acc : List Lab) : Prop := (paramsL (ps.drop i)).map (acc ++ ·) = paramsL ps
theorem parAt_skip {ps : List (List UInt8)} {i : Nat} {acc : List Lab} (h : parAt ps i acc) (hg : ps[i]? = some []) : parAt ps (i + 1) acc := by
  obtain ⟨hlt, he⟩ := List.getElem?_eq_some_iff.1 hg
  unfold parAt at h ⊢
  rw [← h, List.drop_eq_getElem_cons hlt, he]; rfl
theorem parAt_add {ps : List (List UInt8)} {i : Nat} {acc : List Lab} {p : List UInt8} {x : Lab} (h : parAt ps i acc) (hg : ps[i]? = some p) (hp : p ≠ []) (hx : partP p = some x) : parAt ps (i + 1) (acc ++ [x]) := by
  obtain ⟨hlt, he⟩ := List.getElem?_eq_some_iff.1 hg
  unfold parAt at h ⊢
  rw [← h, List.drop_eq_getElem_cons hlt, he]
  simp only [paramsL]
  rw [if_neg hp, hx]
  cases paramsL (ps.drop (i + 1)) <;> simp
theorem parAt_none {ps : List (List UInt8)} {i : Nat} {acc : List Lab} {p : List UInt8} (h : parAt ps i acc) (hg : ps[i]? = some p) (hp : p ≠ []) (hx : partP p = none) : paramsL ps = none := by
  obtain ⟨hlt, he⟩ := List.getElem?_eq_some_iff.1 hg
  unfold parAt at h
  rw [← h, List.drop_eq_getElem_cons hlt, he]
  simp only [paramsL]
  rw [if_neg hp, hx]; rfl
theorem parAt_end {ps : List (List UInt8)} {i : Nat} {acc : List Lab} (h : parAt ps i acc) (hi : ps.length ≤ i) : paramsL ps = some acc := by
  unfold parAt at h
  rw [← h, List.drop_of_length_le hi]; simp [paramsL]
end Go.Proofs.YtlaingmhdgpkdaaGreatDoor
end
section
open Go Go.Vg Go.RowKit Go.Proofs Go.Proofs.YtlaingmhdgpkdaaGreatDoor
namespace Go.Proofs.YtlaingmhdgpkdaaGreatDoor

theorem Strs.at {ns : List (List UInt8)} {k : Nat} (h : k < ns.length) : ∃ s, (ns.map strC)[k]? = some (strC s) ∧ s ∈ ns ∧ ns[k]? = some s := ⟨ns[k], by simp [h], List.getElem_mem h, by simp [h]⟩
theorem piecesF_len (sep : List UInt8) : ∀ (n : Nat) (s p : List UInt8), p ∈ piecesF sep n s → p.length ≤ s.length
  | 0, s, p, h => by simp only [piecesF, List.mem_cons, List.not_mem_nil, or_false] at h; subst h; exact Nat.le_refl _
  | n + 1, s, p, h => by
    simp only [piecesF] at h
    split at h
    · simp only [List.mem_cons, List.not_mem_nil, or_false] at h; subst h; exact Nat.le_refl _
    · rcases List.mem_cons.1 h with h | h
      · subst h; rw [List.length_take]; omega
      · have := piecesF_len sep n _ p h
        rw [List.length_drop] at this; omega
theorem piecesL_len {s sep p : List UInt8} (h : p ∈ piecesL s sep) : p.length ≤ s.length := by
  unfold piecesL at h
  split at h
  · simp only [List.mem_cons, List.not_mem_nil, or_false] at h; subst h; exact Nat.le_refl _
  · exact piecesF_len _ _ _ _ h
theorem piecesF_cnt {sep : List UInt8} (hsep : sep ≠ []) : ∀ (n : Nat) (s : List UInt8), (piecesF sep n s).length ≤ s.length + 1
  | 0, s => by simp [piecesF]
  | n + 1, s => by
    have hl : 0 < sep.length := List.length_pos_iff.2 hsep
    simp only [piecesF]
    split
    · simp
    · rename_i h
      have hr := Lib.index_room s sep (by omega)
      have := piecesF_cnt hsep n (s.drop ((Lib.index s sep).toNat + sep.length))
      rw [List.length_drop] at this
      simp only [List.length_cons]; omega
theorem piecesL_cnt (s sep : List UInt8) : (piecesL s sep).length ≤ s.length + 1 := by
  unfold piecesL
  split
  · simp
  · rename_i h; exact piecesF_cnt h _ _
end Go.Proofs.YtlaingmhdgpkdaaGreatDoor
end
section
open Go Go.Vg Go.RowKit Go.Proofs Go.Proofs.YtlaingmhdgpkdaaGreatDoor
namespace Go.Proofs.YtlaingmhdgpkdaaGreatDoor

theorem params_ok (s : List UInt8) (w : World) (hs : s.length ≤ 10000000) (hM : MaxC w) :
    Ret Tryz.prog 57 ⟨[S s]⟩ w fun r w' => Ext w w' ∧ (match paramsL (piecesL s [38]) with
      | some ls => ∃ v, r = .tuple ⟨[v, .int .i64 0]⟩ ∧ LO w' w.heap.size v ls
      | none => r = .tuple ⟨[.slice none 0 0, .int .i64 8]⟩) := by
  refine ret_of_GM Tryz.func57 rfl Tryz.ntmps57 rfl ?_
  simp only [argEnv]
  refine rn ?_
  refine sAl tb ?_
  intro w1 hb1 hs1 hx1
  refine sAl tb ?_
  intro w2 hb2 hs2 hx2
  refine rn ?_
  refine sAl tb ?_
  intro w3 hb3 hs3 hx3
  have hx03 := (hx1.trans hx2).trans hx3
  refine rn ?_
  refine sCall c100 (pieces_ok s [38] w3) ?_
  rintro r w4 ⟨q1, q2, rfl, hq1, hq2, hbq1, hbq2, hx4⟩
  have hx04 := hx03.trans hx4
  have hb1 := ((hb1.to hx2).to hx3).to hx4
  have hb2 := (hb2.to hx3).to hx4
  have hb3 := hb3.to hx4
  have hpl : ∀ p ∈ piecesL s [38], p.length ≤ 10000000 := fun p hp => Nat.le_trans (piecesL_len hp) hs
  have hpc := piecesL_cnt s [38]
  have hM4 := hM.to hx04
  obtain ⟨B, hB⟩ : ∃ B, B = w4.heap.size := ⟨_, rfl⟩
  have hB0 : w.heap.size ≤ B := by rw [hB]; exact hx04.size
  have hB1 := hb1.lt
  have hB2 := hb2.lt
  have hB3 := hb3.lt
  have hBq1 := hbq1.lt
  have hBq2 := hbq2.lt
  rw [← hB] at hB1 hB2 hB3 hBq1 hBq2
  refine rn ?_
  refine G.rangeFunc rfl rfl c133 (pieces1_ok s [38] q1 q2 (by omega)) rfl rfl (by intro x hx; obtain ⟨y, _, rfl⟩ := List.mem_map.1 hx; rfl)
    (fun i W => Ext w W ∧ B ≤ W.heap.size ∧ Bx W q1 [S s] ∧ Bx W q2 [S [38]] ∧ Bx W w.heap.size [.slice none 0 0] ∧ Bx W w1.heap.size [.int .i64 0] ∧ ∃ v acc, Bx W w2.heap.size [v] ∧ LO W B v acc ∧ acc.length ≤ i ∧ parAt (piecesL s [38]) i acc)
    (fun c W => c = .ret ∧ Bx W w.heap.size [.slice none 0 0] ∧ Bx W w1.heap.size [.int .i64 8] ∧ paramsL (piecesL s [38]) = none ∧ Ext w W) ?_ ?_ ?_ ?_ ?_ ?_ ?_
  · rintro l hl i W W' ⟨h1, h2, h3, h4, h5, h6, v, acc, h7, h8, h9⟩ hk
    exact ⟨Below.kept h1 hk (by omega) h1.size, by have := hk.2.size; omega, h3.kept hk, h4.kept hk, h5.kept hk, h6.kept hk, v, acc, h7.kept hk, h8.kept hk, h9⟩
  · rintro l hl c W W' ⟨h1, h2, h3, h4, h5⟩ hk
    exact ⟨h1, h2.kept hk, h3.kept hk, h4, Below.kept h5 hk (by omega) h5.size⟩
  · rintro i W ⟨h1, h2, h3, h4, _⟩
    exact ⟨h3.cells.one, h4.cells.one, hM.to h1⟩
  · exact fun w' h => ⟨hx04.trans h, by rw [hB]; exact h.size, hbq1.to h, hbq2.to h, hb1.to h, hb2.to h, _, [], hb3.to h, Owns.nil _ _ _ _, by simp, by unfold parAt; simp⟩
  · rintro l r rc i x W hl hlr hxi ⟨h1, h2, h3, h4, h5, h6, v, acc, h7, h8, h9, h10⟩ hLp
    simp only [List.getElem?_map, Option.map_eq_some_iff] at hxi
    obtain ⟨p, hpg, rfl⟩ := hxi
    refine rn ?_
    refine G.beg rfl rfl rfl hLp hlr ?_
    intro W2 hk hLp2 hsz
    have h1 : Ext w W2 := Below.kept h1 hk (by omega) h1.size
    have h3 := h3.kept hk
    have h4 := h4.kept hk
    have h5 := h5.kept hk
    have h6 := h6.kept hk
    have h7 := h7.kept hk
    have h8 := h8.kept hk
    have h2 : B ≤ W2.heap.size := by omega
    clear hk hLp
    have hpz := hpl p (List.mem_of_getElem? hpg)
    have hlt : i < (piecesL s [38]).length := (List.getElem?_eq_some_iff.1 hpg).1
    refine rn ?_
    first | refine G.condD rfl (fun hc => ?_) (fun hc => ?_) | refine G.condN rfl (fun hc => ?_) (fun hc => ?_) | refine G.cond rfl (fun hc => ?_) (fun hc => ?_)
    · subst hc
      refine rn ?_
      exact G.nil fun t _ => ⟨hLp2, h1, h2, h3, h4, h5, h6, v, acc, h7, h8, by omega, parAt_skip h10 hpg⟩
    · have hpn : p ≠ [] := hc
      have hcl := cut_len p [61]
      refine rn ?_
      refine sCall c51 (cut_ok p [61] W2 (by omega) (hM.to h1)) ?_
      rintro _ W3 ⟨rfl, hx3⟩
      refine rn ?_
      refine sCall c56 (decode_ok (Lib.cut p [61]).1 true W3 (by omega)) ?_
      rintro r1 W4 ⟨hr1, hx4⟩
      have hx34 := hx3.trans hx4
      cases hd1 : decP true (Lib.cut p [61]).1 with
      | none =>
        rw [hd1] at hr1
        subst hr1
        have hpp : partP p = none := by unfold partP; rw [hd1]
        have hno := parAt_none h10 hpg hpn hpp
        refine rn ?_
        refine sCall c56 (decode_ok (Lib.cut p [61]).2.1 true W4 (by omega)) ?_
        rintro r2 W5 ⟨hr2, hx5⟩
        have hx25 := hx34.trans hx5
        have hr2' : ∃ o e, r2 = .tuple ⟨[S o, .int .i64 e]⟩ := by
          cases hd2 : decP true (Lib.cut p [61]).2.1 with
          | none => rw [hd2] at hr2; exact ⟨_, _, hr2⟩
          | some b => rw [hd2] at hr2; exact ⟨_, _, hr2⟩
        obtain ⟨o, e, rfl⟩ := hr2'
        clear hr2
        refine rn ?_
        refine sSt tb ?_ (hb := h5.to hx25)
        intro W6 hb6 hw6
        refine sSt tb ?_ (hb := (h6.to hx25).wr hw6 (by omega))
        intro W7 hb7 hw7
        refine rn ?_
        refine G.ret fun t _ => ⟨((hLp2.to hx25).wr (h5.to hx25) hw6).wr ((h6.to hx25).wr hw6 (by omega)) hw7, rfl, hb6.wr hw7 (by omega), hb7, hno, ?_⟩
        exact ((h1.trans hx25).wr hw6 (Nat.le_refl _)).wr hw7 (by omega)
      | some a =>
        rw [hd1] at hr1
        subst hr1
        refine rn ?_
        refine sCall c56 (decode_ok (Lib.cut p [61]).2.1 true W4 (by omega)) ?_
        rintro r2 W5 ⟨hr2, hx5⟩
        have hx25 := hx34.trans hx5
        cases hd2 : decP true (Lib.cut p [61]).2.1 with
        | none =>
          rw [hd2] at hr2
          subst hr2
          have hpp : partP p = none := by unfold partP; rw [hd1, hd2]
          have hno := parAt_none h10 hpg hpn hpp
          refine rn ?_
          refine sSt tb ?_ (hb := h5.to hx25)
          intro W6 hb6 hw6
          refine sSt tb ?_ (hb := (h6.to hx25).wr hw6 (by omega))
          intro W7 hb7 hw7
          refine rn ?_
          refine G.ret fun t _ => ⟨((hLp2.to hx25).wr (h5.to hx25) hw6).wr ((h6.to hx25).wr hw6 (by omega)) hw7, rfl, hb6.wr hw7 (by omega), hb7, hno, ?_⟩
          exact ((h1.trans hx25).wr hw6 (Nat.le_refl _)).wr hw7 (by omega)
        | some b =>
          rw [hd2] at hr2
          subst hr2
          have hpp : partP p = some (a, b) := by unfold partP; rw [hd1, hd2]
          have h7 := h7.to hx25
          have h8 := h8.to hx25
          refine rn ?_
          refine sBs' tb [labC (a, b)] ?_ (hkl := labLen [_])
          intro v1 W6 ho1 hs1 hx6
          have hx26 := hx25.trans hx6
          have hz6 := hx26.size
          have h86 := h8.to hx6
          have h1' : Ext w W6 := h1.trans hx26
          refine sApp tb h86 ho1.sli ?_ (h1 := lab1 [_]) (hB := by omega)
          intro v2 W7 ho2 hg7
          have hz7 := hg7.size
          have h7' := (h7.to hx6).grew hg7 (h86.ne hB3)
          refine sSt tb ?_ (hb := h7') (hv := ho2.cells) (h1 := ho2.sli.one)
          intro W8 hb8 hw8
          have hz8 := hw8.size
          refine rn ?_
          have hx67 : Below w.heap.size W6 W7 := (hg7.below _ (Below.refl _ _)).mono hB0
          have hx7 : Ext w W7 := Below.trans (B := w.heap.size) h1' hx67
          refine G.nil fun t _ => ⟨(h86.lp (hLp2.to hx26) hg7).wr h7' hw8, Below.wr hx7 hw8 (by omega), by omega,
            ((h3.to hx26).grew hg7 (h86.ne hBq1)).wr hw8 (by omega), ((h4.to hx26).grew hg7 (h86.ne hBq2)).wr hw8 (by omega), ((h5.to hx26).grew hg7 (h86.ne hB1)).wr hw8 (by omega), ((h6.to hx26).grew hg7 (h86.ne hB2)).wr hw8 (by omega),
            v2, acc ++ [(a, b)], hb8, ?_, by simp only [List.length_append, List.length_cons, List.length_nil]; omega, parAt_add h10 hpg hpn hpp⟩
          unfold LO; rw [List.map_append]; exact ho2.wr hw8 hB3
  · rintro r W hr ⟨h1, h2, h3, h4, h5, h6, v, acc, h7, h8, h9, h10⟩ hD
    rw [List.length_map] at h10
    have he := parAt_end h10 (Nat.le_refl _)
    rw [he]
    refine rn ?_
    refine sSt tb ?_ (hb := h5) (hv := h8.cells) (h1 := h8.sli.one)
    intro W1 hb5 hw5
    refine sSt tb ?_ (hb := h6.wr hw5 (by omega))
    intro W2 hb6 hw6
    have hD1 := hD.wr h5 hw5
    have hD2 := hD1.wr (h6.wr hw5 (by omega)) hw6
    have h82 : LO W2 B v acc := Owns.wr (Owns.wr h8 hw5 hB1) hw6 hB2
    refine rn ?_
    refine G.retM rfl rfl hD2 fun t ht => ⟨_, resC2 ht rfl rfl rfl (tb.ok _ _ rfl) rfl (tb.ok _ _ rfl) rfl ((hb5.wr hw6 (by omega)).out hD2).cells.one (hb6.out hD2).cells.one, ?_, v, rfl, ?_⟩
    · exact ((h1.wr hw5 (Nat.le_refl _)).wr hw6 (by omega)).wr (outW_wr r _) (by omega)
    · exact (Owns.wr2 h82 (outW_wr r _) (hD2.neO h82)).mono hB0
  · rintro r c W hr ⟨rfl, h2, h3, h4, h5⟩ hD
    rw [h4]
    refine G.retM rfl rfl hD fun t ht => ⟨_, resC2 ht rfl rfl rfl (tb.ok _ _ rfl) rfl (tb.ok _ _ rfl) rfl (h2.out hD).cells.one (h3.out hD).cells.one, ?_, rfl⟩
    exact h5.wr (outW_wr r _) (by omega)
end Go.Proofs.YtlaingmhdgpkdaaGreatDoor
end
section
open Go Go.Vg Go.RowKit Go.Proofs Go.Proofs.YtlaingmhdgpkdaaGreatDoor
namespace Go.Proofs.YtlaingmhdgpkdaaGreatDoor

theorem Labs.bound {w : World} {v : Value} {ls : List Lab} (h : Labs w v ls) : ls.length ≤ 9223372036854775807 := by have := Sli.bound h; simpa using this
theorem take_snoc {α : Type} {l : List α} {k : Nat} (h : k < l.length) : l.take (k + 1) = l.take k ++ [l[k]] := by rw [List.take_succ_eq_append_getElem h]
theorem Labs.at {ls : List Lab} {k : Nat} (h : k < ls.length) : ∃ x, x ∈ ls ∧ (ls.map labC)[k]? = some (labC x) ∧ ls.take (k + 1) = ls.take k ++ [x] ∧ ls.drop k = x :: ls.drop (k + 1) ∧ ls[k]? = some x :=
  ⟨ls[k], List.getElem_mem h, by simp [h], by rw [List.take_succ_eq_append_getElem h], List.drop_eq_getElem_cons h, by simp [h]⟩
/-- a request's cells -/
def reqC (m p : List UInt8) (v : Value) : List Value := [S m, S p, v]
def allP (ls : List Lab) (name : List UInt8) : List (List UInt8) := (ls.filter fun x => decide (x.1 = name)).map (·.2)
theorem allP_snoc (ls : List Lab) (name : List UInt8) (x : Lab) : allP (ls ++ [x]) name = if x.1 = name then allP ls name ++ [x.2] else allP ls name := by
  by_cases h : x.1 = name <;> simp [allP, h]
theorem allP_len (ls : List Lab) (name : List UInt8) : (allP ls name).length ≤ ls.length := by
  unfold allP; rw [List.length_map]; exact List.length_filter_le ..

theorem getAll_ok (m p name : List UInt8) (v : Value) (ls : List Lab) (w : World) (hv : Labs w v ls) (hn : ls.length ≤ 1000000000) :
    Ret Tryz.prog 60 ⟨[.agg ⟨reqC m p v⟩, S name]⟩ w fun r w' => SO w' w.heap.size r (allP ls name) ∧ Ext w w' := by
  refine ret_of_G Tryz.func60 rfl Tryz.ntmps60 rfl ?_
  simp only [argEnv]
  refine rn ?_
  refine sBox ?_
  intro w1 hb1 hs1 hx1
  have hv1 := hv.to hx1
  refine rn ?_
  rw [List.length_map]
  refine rn ?_
  refine (G.loop (fun x : Nat × Value => [(1, none, S name), (5, none, x.2), (9, none, v), (10, none, .int .i64 ls.length), (11, none, .int .i64 x.1)]) (fun x W => Ext w1 W ∧ x.1 ≤ ls.length ∧ SO W w1.heap.size x.2 (allP (ls.take x.1) name)) (fun x => ls.length - x.1) (0, .slice none 0 0) (by repeat (first | exact Sub.nil _ | refine Sub.cons rfl ?_)) ⟨Ext.refl _, by simp, Owns.nil _ _ _ _⟩ ?_)
  rintro ⟨k, s⟩ W ⟨hx, hk, ho⟩
  simp only at hk ho ⊢
  have hvW := hv1.to hx
  refine rn ?_
  first | refine G.condD rfl (fun hc => ?_) (fun hc => ?_) | refine G.condN rfl (fun hc => ?_) (fun hc => ?_) | refine G.cond rfl (fun hc => ?_) (fun hc => ?_)
  · have hlt : k < ls.length := by omega
    obtain ⟨x, hmem, hget, htk, -, -⟩ := Labs.at hlt
    have hst := allP_snoc (ls.take k) name x
    rw [← htk] at hst
    have hln := allP_len (ls.take k) name
    rw [List.length_take] at hln
    generalize allP (ls.take k) name = out at ho hst hln
    try (first | refine gl tb ?_ | refine gg tb ?_ | refine ll tb ?_ | refine lg tb ?_); repeat ((first | refine G.condT rfl ?_ | refine G.condF rfl ?_ | refine sFa tb ?_ | refine sLd tb ?_ | refine sLa tb ?_ | refine sLen tb ?_ | refine sFd tb ?_ | refine sBd tb ?_ | refine sIa tb k ?_); try (first | refine gl tb ?_ | refine gg tb ?_ | refine ll tb ?_ | refine lg tb ?_))
    refine sAl tb ?_
    intro w3 hb3 hs3 hx3
    refine sSt tb ?_ (vs := labC x) (hv := rfl) (hb := hb3) (h1 := by simp [Value.oneCell', S, labC])
    intro w4 hb4 hw4
    have hx24 : Ext W w4 := Below.wr hx3 hw4 (Nat.le_refl _)
    have hx4 := hx.trans hx24
    have ho4 := ho.to hx24
    refine rn ?_
    first | refine G.condD rfl (fun hc => ?_) (fun hc => ?_) | refine G.condN rfl (fun hc => ?_) (fun hc => ?_) | refine G.cond rfl (fun hc => ?_) (fun hc => ?_)
    · rw [if_pos hc] at hst
      refine rn ?_
      refine sBs' tb [strC x.2] ?_ (hkl := strC_k [_])
      intro v5 w5 ho5 hs5 hx5
      have hx05 := hx4.trans hx5
      refine sApp tb (ho4.to hx5) ho5.sli ?_ (h1 := str1 [_]) (hB := hx05.size)
      intro v6 w6 ho6 hg6
      refine rn ?_
      refine sAd tb ?_
      refine rn ?_
      refine G.lp (x := (k, s)) (k + 1, v6) (by repeat (first | exact Sub.nil _ | refine Sub.cons rfl ?_)) ⟨hg6.below _ hx05, by simp only; omega, ?_⟩ (by simp only; omega)
      simp only [hst]
      unfold SO; rw [List.map_append]; exact ho6
    · rw [if_neg hc] at hst
      refine rn ?_
      refine sAd tb ?_
      refine rn ?_
      exact G.lp (x := (k, s)) (k + 1, s) (by repeat (first | exact Sub.nil _ | refine Sub.cons rfl ?_)) ⟨hx4, by simp only; omega, by simp only [hst]; exact ho4⟩ (by simp only; omega)
  · refine rn ?_
    refine G.ret1 rfl rfl rfl rfl ?_
    obtain rfl : k = ls.length := by omega
    rw [List.take_length] at ho
    exact ⟨ho.mono hx1.size, hx1.trans hx⟩
end Go.Proofs.YtlaingmhdgpkdaaGreatDoor
end
section
open Go Go.Vg Go.RowKit Go.Proofs Go.Proofs.YtlaingmhdgpkdaaGreatDoor
namespace Go.Proofs.YtlaingmhdgpkdaaGreatDoor

def firstP (ss : List (List UInt8)) : List UInt8 := ss.headD []
theorem get_ok (m p name : List UInt8) (v : Value) (ls : List Lab) (w : World) (hv : Labs w v ls) (hn : ls.length ≤ 1000000000) :
    Ret Tryz.prog 34 ⟨[.agg ⟨reqC m p v⟩, S name]⟩ w fun r w' => r = S (firstP (allP ls name)) ∧ Ext w w' := by
  refine ret_of_G Tryz.func34 rfl Tryz.ntmps34 rfl ?_
  simp only [argEnv]
  refine rn ?_
  refine sBox ?_
  intro w1 hb1 hs1 hx1
  refine rn ?_
  refine sCall c60 (getAll_ok m p name v ls w1 (hv.to hx1) hn) ?_
  rintro q w2 ⟨hq, hx2⟩
  have hq := hq.sli
  have hx02 := hx1.trans hx2
  have hal := allP_len ls name
  generalize allP ls name = ss at hq hal ⊢
  refine rn ?_
  rw [List.length_map]
  refine rn ?_
  refine (G.loop (fun k : Nat => [(9, none, q), (10, none, .int .i64 ss.length), (11, none, .int .i64 k)]) (fun k W => W = w2 ∧ k = 0) (fun k => ss.length - k) 0 (by repeat (first | exact Sub.nil _ | refine Sub.cons rfl ?_)) ⟨rfl, rfl⟩ ?_)
  rintro k W ⟨hW, rfl⟩
  obtain rfl : w2 = W := hW.symm
  refine rn ?_
  first | refine G.condD rfl (fun hc => ?_) (fun hc => ?_) | refine G.condN rfl (fun hc => ?_) (fun hc => ?_) | refine G.cond rfl (fun hc => ?_) (fun hc => ?_)
  · have hlt : 0 < ss.length := by omega
    obtain ⟨x, hget, hmem, hgl⟩ := Strs.at hlt
    have hf : firstP ss = x := by
      cases ss with
      | nil => simp at hlt
      | cons a r => exact Option.some.inj hgl
    try (first | refine gl tb ?_ | refine gg tb ?_ | refine ll tb ?_ | refine lg tb ?_); repeat ((first | refine G.condT rfl ?_ | refine G.condF rfl ?_ | refine sFa tb ?_ | refine sLd tb ?_ | refine sLa tb ?_ | refine sLen tb ?_ | refine sFd tb ?_ | refine sBd tb ?_ | refine sIa tb 0 ?_); try (first | refine gl tb ?_ | refine gg tb ?_ | refine ll tb ?_ | refine lg tb ?_))
    refine G.ret1 rfl rfl rfl rfl ?_
    exact ⟨by rw [hf], hx02⟩
  · have hf : firstP ss = [] := by
      cases ss with
      | nil => rfl
      | cons a r => simp only [List.length_cons] at hc; omega
    refine rn ?_
    refine G.ret1 rfl rfl rfl rfl ?_
    exact ⟨by rw [hf]; rfl, hx02⟩
end Go.Proofs.YtlaingmhdgpkdaaGreatDoor
end
section
open Go Go.Vg Go.RowKit Go.Proofs Go.Proofs.YtlaingmhdgpkdaaGreatDoor
namespace Go.Proofs.YtlaingmhdgpkdaaGreatDoor

def wordP (n : Int) : List UInt8 := if n = 200 then [79, 75] else if n = 400 then [66, 97, 100, 32, 82, 101, 113, 117, 101, 115, 116] else if n = 404 then [78, 111, 116, 32, 70, 111, 117, 110, 100] else if n = 405 then [77, 101, 116, 104, 111, 100, 32, 78, 111, 116, 32, 65, 108, 108, 111, 119, 101, 100] else if n = 413 then [67, 111, 110, 116, 101, 110, 116, 32, 84, 111, 111, 32, 76, 97, 114, 103, 101] else if n = 422 then [85, 110, 112, 114, 111, 99, 101, 115, 115, 97, 98, 108, 101, 32, 67, 111, 110, 116, 101, 110, 116] else if n = 503 then [83, 101, 114, 118, 105, 99, 101, 32, 85, 110, 97, 118, 97, 105, 108, 97, 98, 108, 101] else [85, 110, 107, 110, 111, 119, 110]
theorem word_ok (n : Int) (w : World) : Ret Tryz.prog 36 ⟨[.int .i64 n]⟩ w fun r w' => r = S (wordP n) ∧ w' = w := by
  unfold wordP
  refine ret_of_G Tryz.func36 rfl Tryz.ntmps36 rfl ?_
  simp only [argEnv]
  refine rn ?_
  first | refine G.condD rfl (fun hc => ?_) (fun hc => ?_) | refine G.condN rfl (fun hc => ?_) (fun hc => ?_) | refine G.cond rfl (fun hc => ?_) (fun hc => ?_)
  · rw [if_pos hc]
    refine rn ?_
    refine G.ret1 rfl rfl rfl rfl ?_
    exact ⟨rfl, rfl⟩
  rw [if_neg hc]
  clear hc
  refine rn ?_
  first | refine G.condD rfl (fun hc => ?_) (fun hc => ?_) | refine G.condN rfl (fun hc => ?_) (fun hc => ?_) | refine G.cond rfl (fun hc => ?_) (fun hc => ?_)
  · rw [if_pos hc]
    refine rn ?_
    refine G.ret1 rfl rfl rfl rfl ?_
    exact ⟨rfl, rfl⟩
  rw [if_neg hc]
  clear hc
  refine rn ?_
  first | refine G.condD rfl (fun hc => ?_) (fun hc => ?_) | refine G.condN rfl (fun hc => ?_) (fun hc => ?_) | refine G.cond rfl (fun hc => ?_) (fun hc => ?_)
  · rw [if_pos hc]
    refine rn ?_
    refine G.ret1 rfl rfl rfl rfl ?_
    exact ⟨rfl, rfl⟩
  rw [if_neg hc]
  clear hc
  refine rn ?_
  first | refine G.condD rfl (fun hc => ?_) (fun hc => ?_) | refine G.condN rfl (fun hc => ?_) (fun hc => ?_) | refine G.cond rfl (fun hc => ?_) (fun hc => ?_)
  · rw [if_pos hc]
    refine rn ?_
    refine G.ret1 rfl rfl rfl rfl ?_
    exact ⟨rfl, rfl⟩
  rw [if_neg hc]
  clear hc
  refine rn ?_
  first | refine G.condD rfl (fun hc => ?_) (fun hc => ?_) | refine G.condN rfl (fun hc => ?_) (fun hc => ?_) | refine G.cond rfl (fun hc => ?_) (fun hc => ?_)
  · rw [if_pos hc]
    refine rn ?_
    refine G.ret1 rfl rfl rfl rfl ?_
    exact ⟨rfl, rfl⟩
  rw [if_neg hc]
  clear hc
  refine rn ?_
  first | refine G.condD rfl (fun hc => ?_) (fun hc => ?_) | refine G.condN rfl (fun hc => ?_) (fun hc => ?_) | refine G.cond rfl (fun hc => ?_) (fun hc => ?_)
  · rw [if_pos hc]
    refine rn ?_
    refine G.ret1 rfl rfl rfl rfl ?_
    exact ⟨rfl, rfl⟩
  rw [if_neg hc]
  clear hc
  refine rn ?_
  first | refine G.condD rfl (fun hc => ?_) (fun hc => ?_) | refine G.condN rfl (fun hc => ?_) (fun hc => ?_) | refine G.cond rfl (fun hc => ?_) (fun hc => ?_)
  · rw [if_pos hc]
    refine rn ?_
    refine G.ret1 rfl rfl rfl rfl ?_
    exact ⟨rfl, rfl⟩
  rw [if_neg hc]
  clear hc
  refine rn ?_
  refine G.ret1 rfl rfl rfl rfl ?_
  exact ⟨rfl, rfl⟩
end Go.Proofs.YtlaingmhdgpkdaaGreatDoor
end
section
open Go Go.Vg Go.RowKit Go.Proofs Go.Proofs.YtlaingmhdgpkdaaGreatDoor
namespace Go.Proofs.YtlaingmhdgpkdaaGreatDoor

def digF : Nat → Nat → List UInt8
  | 0, n => [byI (48 + (n : Int))]
  | f + 1, n => if n < 10 then [byI (48 + (n : Int))] else digF f (n / 10) ++ [byI (48 + ((n % 10 : Nat) : Int))]
theorem digF_len : ∀ (f n : Nat), (digF f n).length ≤ f + 1
  | 0, n => by simp [digF]
  | f + 1, n => by
    simp only [digF]
    split
    · simp
    · have := digF_len f (n / 10)
      rw [List.length_append, List.length_cons, List.length_nil]; omega
end Go.Proofs.YtlaingmhdgpkdaaGreatDoor
end
section
open Go Go.Vg Go.RowKit Go.Proofs Go.Proofs.YtlaingmhdgpkdaaGreatDoor
namespace Go.Proofs.YtlaingmhdgpkdaaGreatDoor

/-- a number in decimal digits, at most so many -/
def decN (n : Int) : List UInt8 := if n < 0 then 45 :: digF 19 n.natAbs else digF 19 n.natAbs
theorem digF_fuel : ∀ (f n : Nat), n < 10 ^ (f + 1) → digF (f + 1) n = digF f n
  | 0, n, h => by simp only [digF]; rw [if_pos (by omega)]
  | f + 1, n, h => by
    have ih := digF_fuel f (n / 10) (by rw [Nat.pow_succ] at h; exact Nat.div_lt_of_lt_mul (by rw [Nat.mul_comm]; exact h))
    have e1 : digF (f + 2) n = if n < 10 then [byI (48 + (n : Int))] else digF (f + 1) (n / 10) ++ [byI (48 + ((n % 10 : Nat) : Int))] := rfl
    have e2 : digF (f + 1) n = if n < 10 then [byI (48 + (n : Int))] else digF f (n / 10) ++ [byI (48 + ((n % 10 : Nat) : Int))] := rfl
    rw [e1, e2, ih]
theorem digF_step (n : Nat) (h : n < 10 ^ 20) : digF 19 n = if n < 10 then [byI (48 + (n : Int))] else digF 19 (n / 10) ++ [byI (48 + ((n % 10 : Nat) : Int))] := by
  have h2 : n / 10 < 10 ^ 19 := Nat.div_lt_of_lt_mul (by rw [show 10 * 10 ^ 19 = 10 ^ 20 by decide]; exact h)
  rw [digF_fuel 18 (n / 10) h2]
  rfl
theorem wrap_u64m (n : Int) : IntKind.u64.wrap n = n % 18446744073709551616 := rfl
theorem intText_ok (n : Int) (w : World) (h1 : -9223372036854775808 ≤ n) (h2 : n ≤ 9223372036854775807) :
    Ret Tryz.prog 35 ⟨[.int .i64 n]⟩ w fun r w' => r = S (decN n) ∧ Ext w w' := by
  refine ret_of_G Tryz.func35 rfl Tryz.ntmps35 rfl ?_
  simp only [argEnv]
  refine rn ?_
  refine sCv tb (r := n % 18446744073709551616) ?_ (hr := rfl)
  refine rn ?_
  obtain ⟨N, hN⟩ : ∃ N, N = n.natAbs := ⟨_, rfl⟩
  have hN9 : N ≤ 9223372036854775808 := by omega
  refine G.join (fun _ : Unit => [(0, none, .int .i64 n), (3, none, .int .u64 (N : Int))]) (fun _ w' => w' = w) ?_ ?_
  · rintro _ w_ rfl
    refine rn ?_
    refine sAl tb ?_
    intro w1 hb1 hs1 hx1
    refine rn ?_
    refine (G.loop (fun x : Nat × Nat × Bool => [(0, none, .int .i64 n), (3, none, .int .u64 (x.2.1 : Int)), (4, none, ptr w_.heap.size), (5, none, .int .i64 x.1), (6, none, .bool x.2.2)])
      (fun x W => Ext w_ W ∧ x.1 ≤ 20 ∧ (x.2.1 < 10 ^ x.1) ∧ x.2.1 ≤ N ∧ (x.2.2 = true → x.1 = 20 ∧ x.2.1 = N) ∧ (x.2.2 = false → x.1 < 20) ∧ ∃ arr suf, Bx W w_.heap.size arr ∧ arr.length = 20 ∧ arr.drop x.1 = suf.map U ∧ (if x.2.2 = true ∨ 0 < x.2.1 then digF 19 x.2.1 ++ suf else suf) = digF 19 N)
      (fun x => if x.2.2 = true then x.2.1 + 21 else x.2.1) (20, N, true) (by repeat (first | exact Sub.nil _ | refine Sub.cons rfl ?_)) ⟨hx1, by simp, by simp only; omega, Nat.le_refl _, fun _ => ⟨rfl, rfl⟩, (fun h => by cases h), _, [], hb1, rfl, rfl, by simp⟩ ?_)
    rintro ⟨at_, u, first⟩ W ⟨hx, hat, hu, huN, hf, hf2, arr, suf, hb, hal, hsuf, hdig⟩
    simp only at hat hu huN hf hf2 hb hal hsuf hdig ⊢
    refine rn ?_
    first | refine G.condD rfl (fun hc => ?_) (fun hc => ?_) | refine G.condN rfl (fun hc => ?_) (fun hc => ?_) | refine G.cond rfl (fun hc => ?_) (fun hc => ?_)
    · have hgo : first = true ∨ 0 < u := by
        cases first with
        | true => exact .inl rfl
        | false => right; simpa using hc
      rw [if_pos hgo] at hdig
      have hat1 : 1 ≤ at_ := by
        rcases hgo with h | h
        · have := (hf h).1; omega
        · apply Classical.byContradiction
          intro h0
          have h00 : at_ = 0 := by omega
          rw [h00] at hu
          simp at hu; omega
      have hu20 : u < 10 ^ 20 := Nat.lt_of_lt_of_le hu (Nat.pow_le_pow_right (by omega) hat)
      have hstep := digF_step u hu20
      refine rn ?_
      refine sAr (r := ((at_ - 1 : Nat) : Int)) ?_ (hp := (wrap_i64 (by omega) (by omega)).trans (by omega))
      refine rn ?_
      refine sRem (r := ((u % 10 : Nat) : Int)) rfl ?_
      refine sAr (r := 48 + ((u % 10 : Nat) : Int)) ?_ (hp := wrap_u64 (by omega) (by omega))
      refine sCb tb ?_
      refine sIaA tb (at_ - 1) ?_ (hj := fun _ => ⟨rfl, by omega⟩)
      refine sSf tb ?_ (off := (at_ - 1) * 1) (hb := hb) (hl := by omega)
      intro W1 hb1 hw1
      have hx1 : Ext w_ W1 := Below.wr hx hw1 (Nat.le_refl _)
      refine rn ?_
      refine sQuo (r := ((u / 10 : Nat) : Int)) (by rw [show ((u : Int).tdiv 10) = ((u / 10 : Nat) : Int) from rfl]; exact wrap_u64 (by omega) (by omega)) ?_
      refine rn ?_
      have hu10 : u / 10 < 10 ^ (at_ - 1) := by
        have : at_ = (at_ - 1) + 1 := by omega
        rw [this, Nat.pow_succ] at hu
        exact Nat.div_lt_of_lt_mul (by rw [Nat.mul_comm]; exact hu)
      refine G.lp (x := (at_, u, first)) (at_ - 1, u / 10, false) (by repeat (first | exact Sub.nil _ | refine Sub.cons rfl ?_)) ⟨hx1, by simp only; omega, hu10, by simp only; omega, (fun h => by cases h), (fun _ => by simp only; omega), _, byI (48 + ((u % 10 : Nat) : Int)) :: suf, hb1, ?_, ?_, ?_⟩ ?_
      · simp only [List.length_append, List.length_take, List.length_drop, List.length_cons, List.length_nil]; omega
      · have e1 : (arr.take ((at_ - 1) * 1) ++ [U (byI (48 + ((u % 10 : Nat) : Int)))] ++ arr.drop ((at_ - 1) * 1 + 1)).drop (at_ - 1) = U (byI (48 + ((u % 10 : Nat) : Int))) :: arr.drop at_ := by
          rw [Nat.mul_one, List.append_assoc, List.drop_append, List.drop_of_length_le (l := arr.take (at_ - 1)) (by rw [List.length_take]; omega), List.nil_append, List.length_take, Nat.min_eq_left (by omega), Nat.sub_self, List.drop_zero]
          rw [show at_ - 1 + 1 = at_ by omega]; rfl
        rw [e1, hsuf]; rfl
      · simp only [Bool.false_eq_true, false_or]
        rw [hstep] at hdig
        by_cases h10 : u < 10
        · rw [if_pos h10] at hdig
          rw [if_neg (by omega), ← hdig, Nat.mod_eq_of_lt h10]; rfl
        · rw [if_neg h10] at hdig
          rw [if_pos (by omega), ← hdig]; simp
      · simp only [Bool.false_eq_true, if_false]
        cases first with
        | true => simp only [if_true]; omega
        | false =>
          have : 0 < u := by rcases hgo with h | h; exact absurd h (by simp); exact h
          simp only [Bool.false_eq_true, if_false]; omega
    · have hno : ¬ (first = true ∨ 0 < u) := by
        rintro (h | h)
        · rw [h] at hc; simp at hc
        · rw [decide_eq_true (show (0 : Int) < (u : Int) by omega)] at hc; simp at hc
      rw [if_neg hno] at hdig
      have ha20 := hf2 (by cases first with
        | true => exact absurd (.inl rfl) hno
        | false => rfl)
      have hby : ((arr.drop at_).map fun u => [u]) = bysC suf := by rw [hsuf, List.map_map]; rfl
      have hsl := digF_len 19 N
      rw [← hdig] at hsl
      refine rn ?_
      first | refine G.condD rfl (fun hc => ?_) (fun hc => ?_) | refine G.condN rfl (fun hc => ?_) (fun hc => ?_) | refine G.cond rfl (fun hc => ?_) (fun hc => ?_)
      · have hd : decN n = 45 :: suf := by unfold decN; rw [if_pos hc, ← hN, hdig]
        refine rn ?_
        refine GL.cons (Step.sliceArr tb rfl (Op1.of rfl (by first | exact fun _ => rfl | exact fun h => h | exact fun h => bL h | exact fun h => bL (bL h) | exact fun h => bL (bL (bL h)))) (Op1.of rfl (by first | exact fun _ => rfl | exact fun h => h | exact fun h => bL h | exact fun h => bL (bL h) | exact fun h => bL (bL (bL h)))) rfl rfl hb hal rfl ha20 (by omega) rfl ?_)
        intro v hv
        rw [hby] at hv
        refine sByS tb hv ?_
        refine sCat tb ?_
        refine rn ?_
        refine G.ret1 rfl rfl rfl rfl ?_
        rw [hd]
        exact ⟨rfl, hx⟩
      · have hd : decN n = suf := by unfold decN; rw [if_neg hc, ← hN, hdig]
        refine rn ?_
        refine GL.cons (Step.sliceArr tb rfl (Op1.of rfl (by first | exact fun _ => rfl | exact fun h => h | exact fun h => bL h | exact fun h => bL (bL h) | exact fun h => bL (bL (bL h)))) (Op1.of rfl (by first | exact fun _ => rfl | exact fun h => h | exact fun h => bL h | exact fun h => bL (bL h) | exact fun h => bL (bL (bL h)))) rfl rfl hb hal rfl ha20 (by omega) rfl ?_)
        intro v hv
        rw [hby] at hv
        refine sByS tb hv ?_
        refine rn ?_
        refine G.ret1 rfl rfl rfl rfl ?_
        rw [hd]
        exact ⟨rfl, hx⟩
  · first | refine G.condD rfl (fun hc => ?_) (fun hc => ?_) | refine G.condN rfl (fun hc => ?_) (fun hc => ?_) | refine G.cond rfl (fun hc => ?_) (fun hc => ?_)
    · refine rn ?_
      refine GL.cons (Step.neg (r := (N : Int)) rfl (Op1.of rfl (by first | exact fun _ => rfl | exact fun h => h | exact fun h => bL h | exact fun h => bL (bL h) | exact fun h => bL (bL (bL h)))) (by rw [wrap_u64m]; omega) rfl ?_)
      refine rn ?_
      exact G.met () (by repeat (first | exact Sub.nil _ | refine Sub.cons rfl ?_)) rfl
    · rw [show n % 18446744073709551616 = (N : Int) by omega]
      refine rn ?_
      exact G.met () (by repeat (first | exact Sub.nil _ | refine Sub.cons rfl ?_)) rfl
end Go.Proofs.YtlaingmhdgpkdaaGreatDoor
end
section
open Go Go.Vg Go.RowKit Go.Proofs Go.Proofs.YtlaingmhdgpkdaaGreatDoor
namespace Go.Proofs.YtlaingmhdgpkdaaGreatDoor

theorem decN_len (n : Int) : (decN n).length ≤ 21 := by
  have h := digF_len 19 n.natAbs
  unfold decN
  split
  · rw [List.length_cons]; omega
  · omega
theorem wordP_len (n : Int) : (wordP n).length ≤ 25 := by
  unfold wordP
  repeat' split
  all_goals decide
def headA : List UInt8 := [72, 84, 84, 80, 47, 49, 46, 49, 32]
def midA : List UInt8 := [13, 10, 67, 111, 110, 116, 101, 110, 116, 45, 84, 121, 112, 101, 58, 32, 97, 112, 112, 108, 105, 99, 97, 116, 105, 111, 110, 47, 106, 115, 111, 110, 13, 10, 67, 111, 110, 116, 101, 110, 116, 45, 76, 101, 110, 103, 116, 104, 58, 32]
def answerP (n : Int) (body : List UInt8) : List UInt8 := headA ++ decN n ++ [32] ++ wordP n ++ midA ++ decN body.length ++ [13, 10, 13, 10] ++ body
theorem answer_ok (n : Int) (body : List UInt8) (w : World) (h1 : -9223372036854775808 ≤ n) (h2 : n ≤ 9223372036854775807) (hb : body.length ≤ 1000000000000000000) :
    Ret Tryz.prog 16 ⟨[.int .i64 n, S body]⟩ w fun r w' => By w' r (answerP n body) ∧ Ext w w' := by
  have l1 := decN_len n
  have l2 := decN_len body.length
  have l3 := wordP_len n
  refine ret_of_G Tryz.func16 rfl Tryz.ntmps16 rfl ?_
  simp only [argEnv]
  refine rn ?_
  refine sCall c35 (intText_ok n w h1 h2) ?_
  rintro _ w1 ⟨rfl, hx1⟩
  refine sCat tb ?_
  refine sCat tb ?_
  refine rn ?_
  refine sCall c36 (word_ok n w1) ?_
  rintro _ w2 ⟨rfl, hw2⟩
  obtain rfl : w1 = w2 := hw2.symm
  refine sCat tb ?_
  refine sCat tb ?_
  refine rn ?_
  refine sCall c35 (intText_ok body.length w1 (by omega) (by omega)) ?_
  rintro _ w3 ⟨rfl, hx3⟩
  refine sCat tb ?_
  refine sCat tb ?_
  refine rn ?_
  refine sCat tb ?_
  refine GL.cons (Step.strBytes tb rfl (Op1.of rfl (by first | exact fun _ => rfl | exact fun h => h | exact fun h => bL h | exact fun h => bL (bL h) | exact fun h => bL (bL (bL h)))) rfl rfl rfl (by simp only [List.length_append, List.length_cons, List.length_nil]; omega) rfl ?_)
  intro v w4 hv hs4 hx4
  refine rn ?_
  refine G.ret1 rfl rfl rfl rfl ?_
  refine ⟨?_, hx1.trans (hx3.trans hx4)⟩
  exact hv
end Go.Proofs.YtlaingmhdgpkdaaGreatDoor
end
section
open Go Go.Vg Go.RowKit Go.Proofs Go.Proofs.YtlaingmhdgpkdaaGreatDoor
namespace Go.Proofs.YtlaingmhdgpkdaaGreatDoor

/-- is a text made of bytes of a kind, one at least? -/
def madeP (p : UInt8 → Bool) (s : List UInt8) : Bool := s.all p && !decide (s = [])
theorem all_take {p : UInt8 → Bool} {s : List UInt8} {k : Nat} (h : k < s.length) (ha : (s.take k).all p = true) : (s.take (k + 1)).all p = p (s.getD k 0) := by
  rw [List.take_succ_eq_append_getElem h, List.all_append, ha]
  simp [List.getD, h]
theorem all_not {p : UInt8 → Bool} {s : List UInt8} {k : Nat} (h : k < s.length) (hp : p (s.getD k 0) = false) : s.all p = false := by
  rw [List.all_eq_false]
  exact ⟨s[k], List.getElem_mem h, by simpa [List.getD, h] using hp⟩
theorem made_ok (s : List UInt8) (f : Nat) (p : UInt8 → Bool) (w : World) (hs : s.length ≤ 9223372036854775806) (hcal : Callable Tryz.prog f) (hf : ∀ c w, Ret Tryz.prog f ⟨[U c]⟩ w fun r w' => r = .bool (p c) ∧ w' = w) :
    Ret Tryz.prog 89 ⟨[S s, .func (.func f) #[] #[]]⟩ w fun r w' => r = .bool (madeP p s) ∧ w' = w := by
  refine ret_of_G Tryz.func89 rfl Tryz.ntmps89 rfl ?_
  simp only [argEnv]
  refine rn ?_
  refine (G.loop (fun k : Nat => [(0, none, S s), (1, none, .func (.func f) #[] #[]), (7, none, .int .i64 s.length), (8, none, .int .i64 k)]) (fun k w' => w' = w ∧ k ≤ s.length ∧ (s.take k).all p = true) (fun k => s.length - k) 0 (by repeat (first | exact Sub.nil _ | refine Sub.cons rfl ?_)) ⟨rfl, by omega, by simp⟩ ?_)
  rintro k w1 ⟨rfl, hk, hall⟩
  refine rn ?_
  first | refine G.condD rfl (fun hc => ?_) (fun hc => ?_) | refine G.condN rfl (fun hc => ?_) (fun hc => ?_) | refine G.cond rfl (fun hc => ?_) (fun hc => ?_)
  · have hlt : k < s.length := by omega
    have hst := all_take hlt hall
    refine rn ?_
    refine sBs tb k ?_
    refine GL.cons (Step.callC rfl (Op1.of rfl (by first | exact fun _ => rfl | exact fun h => h | exact fun h => bL h | exact fun h => bL (bL h) | exact fun h => bL (bL (bL h)))) rfl rfl hcal rfl (hf _ w1) ?_)
    rintro _ w2 ⟨rfl, rfl⟩
    refine rn ?_
    first | refine G.condD rfl (fun hc => ?_) (fun hc => ?_) | refine G.condN rfl (fun hc => ?_) (fun hc => ?_) | refine G.cond rfl (fun hc => ?_) (fun hc => ?_)
    · have hn : p (s.getD k 0) = false := by simpa using hc
      refine rn ?_
      refine G.ret1 rfl rfl rfl rfl ?_
      exact ⟨by unfold madeP; rw [all_not hlt hn]; rfl, rfl⟩
    · have hn : p (s.getD k 0) = true := by simpa using hc
      refine rn ?_
      refine sAd tb ?_
      refine rn ?_
      exact G.lp (k + 1) (by repeat (first | exact Sub.nil _ | refine Sub.cons rfl ?_)) ⟨rfl, by omega, by rw [hst, hn]⟩ (by omega)
  · have hk' : k = s.length := by omega
    rw [hk', List.take_length] at hall
    refine rn ?_
    refine G.ret1 rfl rfl rfl rfl ?_
    exact ⟨by unfold madeP; rw [hall]; rfl, rfl⟩

theorem up_ok (c : UInt8) (w : World) : Ret Tryz.prog 90 ⟨[U c]⟩ w fun r w' => r = .bool (rngC 65 90 c) ∧ w' = w := by
  refine ret_of_G Tryz.func90 rfl Tryz.ntmps90 rfl ?_
  simp only [argEnv]
  refine rn ?_
  refine G.ret1 rfl rfl rfl rfl ?_
  exact ⟨rfl, rfl⟩
theorem vis_ok (c : UInt8) (w : World) : Ret Tryz.prog 91 ⟨[U c]⟩ w fun r w' => r = .bool (rngC 33 126 c) ∧ w' = w := by
  refine ret_of_G Tryz.func91 rfl Tryz.ntmps91 rfl ?_
  simp only [argEnv]
  refine rn ?_
  refine G.ret1 rfl rfl rfl rfl ?_
  exact ⟨rfl, rfl⟩
theorem asc_ok (c : UInt8) (w : World) : Ret Tryz.prog 95 ⟨[U c]⟩ w fun r w' => r = .bool (rngC 32 126 c) ∧ w' = w := by
  refine ret_of_G Tryz.func95 rfl Tryz.ntmps95 rfl ?_
  simp only [argEnv]
  refine rn ?_
  refine G.ret1 rfl rfl rfl rfl ?_
  exact ⟨rfl, rfl⟩
def hdC (c : UInt8) : Bool := (rngC 97 122 c || rngC 65 90 c) || rngC 48 57 c || decide ((c.toNat : Int) = 45)
theorem hd_ok (c : UInt8) (w : World) : Ret Tryz.prog 92 ⟨[U c]⟩ w fun r w' => r = .bool (hdC c) ∧ w' = w := by
  refine ret_of_G Tryz.func92 rfl Tryz.ntmps92 rfl ?_
  simp only [argEnv]
  refine rn ?_
  refine sCallq c93 (fun _ => letter_ok c w) ?_
  refine rn ?_
  refine sCallq c94 (fun _ => digit_ok c w) ?_
  refine rn ?_
  refine G.ret1 rfl rfl rfl rfl ?_
  exact ⟨rfl, rfl⟩

theorem hasPrefix_ok (s p : List UInt8) (w : World) : Ret Tryz.prog 88 ⟨[S s, S p]⟩ w fun r w' => r = .bool (Lib.hasPrefix s p) ∧ w' = w :=
  Calls.mono (Any.strings_HasPrefix Tryz.lays99 ⟨⟨s⟩⟩ ⟨⟨p⟩⟩ w) fun _ _ ⟨he, hw⟩ => ⟨_, he, rfl, hw⟩
theorem hasPrefixL_ok (s p : List UInt8) (w : World) : Ret Tryz.prog 129 ⟨[S s, S p]⟩ w fun r w' => r = .bool (Lib.hasPrefix s p) ∧ w' = w :=
  Calls.mono (Any.stringslite_HasPrefix { Tryz.lays99 with } ⟨⟨s⟩⟩ ⟨⟨p⟩⟩ w) fun _ _ ⟨he, hw⟩ => ⟨_, he, rfl, hw⟩

/-- a request's first line -/
def lineA (s : List UInt8) : List UInt8 × List UInt8 × Bool :=
  let c := Lib.cut s [32]
  let d := Lib.cut c.2.1 [32]
  (c.1, d.1, ((c.2.2 && d.2.2) && (decide (d.2.1 = [72, 84, 84, 80, 47, 49, 46, 49]) || decide (d.2.1 = [72, 84, 84, 80, 47, 49, 46, 48])) && Lib.hasPrefix d.1 [47]) && madeP (rngC 65 90) c.1 && madeP (rngC 33 126) d.1)
theorem first_ok (s : List UInt8) (w : World) (hs : s.length ≤ 4000000000) (hM : MaxC w) :
    Ret Tryz.prog 53 ⟨[S s]⟩ w fun r w' => r = .tuple ⟨[S (lineA s).1, S (lineA s).2.1, .bool (lineA s).2.2]⟩ ∧ Ext w w' := by
  have hl1 := cut_len s [32]
  have hl2 := cut_len (Lib.cut s [32]).2.1 [32]
  unfold lineA
  refine ret_of_G Tryz.func53 rfl Tryz.ntmps53 rfl ?_
  simp only [argEnv]
  refine rn ?_
  refine sCall c51 (cut_ok s [32] w hs hM) ?_
  rintro _ w1 ⟨rfl, hx1⟩
  refine rn ?_
  refine sCall c51 (cut_ok (Lib.cut s [32]).2.1 [32] w1 (by omega) (hM.to hx1)) ?_
  rintro _ w2 ⟨rfl, hx2⟩
  refine rn ?_
  refine sCallq c88 (fun _ => hasPrefix_ok _ _ w2) ?_
  refine rn ?_
  refine sCallq c89 (fun _ => made_ok (Lib.cut s [32]).1 _ _ w2 (by omega) c90 up_ok) ?_
  refine rn ?_
  refine sCallq c89 (fun _ => made_ok (Lib.cut (Lib.cut s [32]).2.1 [32]).1 _ _ w2 (by omega) c91 vis_ok) ?_
  refine rn ?_
  refine G.ret3 rfl rfl rfl rfl rfl rfl ?_
  exact ⟨rfl, hx1.trans hx2⟩
end Go.Proofs.YtlaingmhdgpkdaaGreatDoor
end
section
open Go Go.Vg Go.RowKit Go.Proofs Go.Proofs.YtlaingmhdgpkdaaGreatDoor
namespace Go.Proofs.YtlaingmhdgpkdaaGreatDoor

theorem cutPrefixL_ok (s p : List UInt8) (w : World) : Ret Tryz.prog 156 ⟨[S s, S p]⟩ w fun r w' => r = (match Lib.hasPrefix s p with | true => .tuple ⟨[S (s.drop p.length), .bool true]⟩ | false => .tuple ⟨[S s, .bool false]⟩) ∧ w' = w := by
  have hpl : Lib.hasPrefix s p = true → p.length ≤ s.length := fun h => (List.isPrefixOf_iff_prefix.1 h).length_le
  refine ret_of_G Tryz.func156 rfl Tryz.ntmps156 rfl ?_
  simp only [argEnv]
  refine rn ?_
  refine sCallq c129 (fun _ => hasPrefixL_ok s p w) ?_
  refine rn ?_
  cases h : Lib.hasPrefix s p with
  | false =>
    refine rn ?_
    refine G.ret2 rfl rfl rfl rfl rfl ?_
    exact ⟨rfl, rfl⟩
  | true =>
    have := hpl h
    refine rn ?_
    refine GL.cons (Step.sliceSl tb p.length rfl (Op1.of rfl (by first | exact fun _ => rfl | exact fun h => h | exact fun h => bL h | exact fun h => bL (bL h) | exact fun h => bL (bL (bL h)))) (Op1.of rfl (by first | exact fun _ => rfl | exact fun h => h | exact fun h => bL h | exact fun h => bL (bL h) | exact fun h => bL (bL (bL h)))) rfl (fun _ => ⟨rfl, this⟩) rfl ?_)
    refine rn ?_
    refine G.ret2 rfl rfl rfl rfl rfl ?_
    exact ⟨rfl, rfl⟩
theorem cutPrefix_ok (s p : List UInt8) (w : World) : Ret Tryz.prog 132 ⟨[S s, S p]⟩ w fun r w' => r = (match Lib.hasPrefix s p with | true => .tuple ⟨[S (s.drop p.length), .bool true]⟩ | false => .tuple ⟨[S s, .bool false]⟩) ∧ w' = w := by
  have hc := cutPrefixL_ok s p w
  refine ret_of_G Tryz.func132 rfl Tryz.ntmps132 rfl ?_
  simp only [argEnv]
  refine rn ?_
  refine sCall c156 (hc) ?_
  rintro r w1 ⟨rfl, hw⟩
  cases h : Lib.hasPrefix s p with
  | false =>
    refine rn ?_
    refine G.ret2 rfl rfl rfl rfl rfl ?_
    exact ⟨rfl, hw⟩
  | true =>
    refine rn ?_
    refine G.ret2 rfl rfl rfl rfl rfl ?_
    exact ⟨rfl, hw⟩

abbrev dig (c : UInt8) : Bool := rngC 48 57 c
theorem numDigit_ok (c : UInt8) (w : World) : Ret Tryz.prog 122 ⟨[U c]⟩ w fun r w' => r = .bool (dig c) ∧ w' = w := by
  refine ret_of_G Tryz.func122 rfl Tryz.ntmps122 rfl ?_
  simp only [argEnv]
  refine rn ?_
  refine G.ret1 rfl rfl rfl rfl ?_
  exact ⟨rfl, rfl⟩
/-- how many digits a text begins with -/
def runP (s : List UInt8) : Nat := (s.takeWhile dig).length
theorem runP_at {s : List UInt8} {k : Nat} (hk : k ≤ s.length) (ha : (s.take k).all dig = true) (he : ¬ (k < s.length) ∨ dig (s.getD k 0) = false) : runP s = k := by
  have e : s = s.take k ++ s.drop k := (List.take_append_drop k s).symm
  have ha' : ∀ a ∈ s.take k, dig a = true := by simpa using ha
  unfold runP
  rw [e, List.takeWhile_append_of_pos ha', List.length_append, List.length_take, Nat.min_eq_left hk]
  have : (s.drop k).takeWhile dig = [] := by
    rcases he with h | h
    · rw [List.drop_of_length_le (by omega)]; rfl
    · by_cases hlt : k < s.length
      · rw [drop_at hlt, List.takeWhile_cons, h]; rfl
      · rw [List.drop_of_length_le (by omega)]; rfl
  rw [this]; rfl
theorem run_ok (s : List UInt8) (w : World) (hs : s.length ≤ 9223372036854775806) : Ret Tryz.prog 79 ⟨[S s]⟩ w fun r w' => r = .int .i64 (runP s) ∧ w' = w := by
  refine ret_of_G Tryz.func79 rfl Tryz.ntmps79 rfl ?_
  simp only [argEnv]
  refine rn ?_
  refine (G.loop (fun k : Nat => [(0, none, S s), (3, none, .int .i64 k)]) (fun k w' => w' = w ∧ k ≤ s.length ∧ (s.take k).all dig = true) (fun k => s.length - k) 0 (by repeat (first | exact Sub.nil _ | refine Sub.cons rfl ?_)) ⟨rfl, by omega, by simp⟩ ?_)
  rintro k w1 ⟨rfl, hk, hall⟩
  refine rn ?_
  refine sBs tb k ?_
  refine sCallq c122 (fun _ => numDigit_ok _ w1) ?_
  refine rn ?_
  first | refine G.condD rfl (fun hc => ?_) (fun hc => ?_) | refine G.condN rfl (fun hc => ?_) (fun hc => ?_) | refine G.cond rfl (fun hc => ?_) (fun hc => ?_)
  · simp only [Bool.and_eq_true, decide_eq_true_eq] at hc
    obtain ⟨h1, h2⟩ := hc
    have hlt : k < s.length := by omega
    refine rn ?_
    refine sAd tb ?_
    refine rn ?_
    exact G.lp (k + 1) (by repeat (first | exact Sub.nil _ | refine Sub.cons rfl ?_)) ⟨rfl, by omega, by rw [all_take hlt hall, h2]⟩ (by omega)
  · have hr := runP_at hk hall (by
      simp only [Bool.and_eq_false_iff, decide_eq_false_iff_not] at hc
      rcases hc with h | h
      · exact .inl (by omega)
      · exact .inr h)
    refine rn ?_
    refine G.ret1 rfl rfl rfl rfl ?_
    exact ⟨by rw [hr], rfl⟩

/-- digits read below 0 -/
def intL : Int → List UInt8 → Option Int
  | n, [] => some n
  | n, c :: r => if n < (-9223372036854775808 + ((c.toNat : Int) - 48)).tdiv 10 then none else intL (10 * n - ((c.toNat : Int) - 48)) r
def restP (s : List UInt8) : List UInt8 := if Lib.hasPrefix s [45] = true then s.drop 1 else s
def badP (s : List UInt8) : Bool := (decide (restP s = []) || !decide ((runP (restP s) : Int) = (restP s).length)) || (decide (((restP s).getD 0 0).toNat = (48 : Int)) && !decide (s = [48]))
/-- a whole number as it is written -/
def intP (s : List UInt8) : Option Int := if badP s = true then none else match intL 0 (restP s) with
  | none => none
  | some n => if Lib.hasPrefix s [45] = true then some n else if n = -9223372036854775808 then none else some (-n)
theorem runP_all {s : List UInt8} (h : runP s = s.length) : s.all dig = true := by
  have : s.takeWhile dig = s := List.IsPrefix.eq_of_length (List.takeWhile_prefix dig) h
  rw [← this]
  simp
theorem int_ok (s : List UInt8) (w : World) (hs : s.length ≤ 4000000000) : Ret Tryz.prog 97 ⟨[S s]⟩ w fun r w' => r = (match intP s with | some n => .tuple ⟨[.int .i64 n, .int .i64 0]⟩ | none => .tuple ⟨[.int .i64 0, .int .i64 8]⟩) ∧ w' = w := by
  have hrl : (restP s).length ≤ 4000000000 := by
    unfold restP
    split
    · rw [List.length_drop]; omega
    · exact hs
  have hcp : (match Lib.hasPrefix s [45] with | true => Value.tuple ⟨[S (s.drop ([45] : List UInt8).length), .bool true]⟩ | false => .tuple ⟨[S s, .bool false]⟩) = .tuple ⟨[S (restP s), .bool (Lib.hasPrefix s [45])]⟩ := by
    unfold restP
    cases Lib.hasPrefix s [45] <;> rfl
  refine ret_of_G Tryz.func97 rfl Tryz.ntmps97 rfl ?_
  simp only [argEnv]
  refine rn ?_
  refine sCall c132 (cutPrefix_ok s [45] w) ?_
  rintro r w1 ⟨rfl, hw⟩
  obtain rfl : w = w1 := hw.symm
  rw [hcp]
  refine rn ?_
  refine sCallq c79 (fun _ => run_ok (restP s) w (by omega)) ?_
  refine rn ?_
  refine sBs tb 0 ?_ (hj := fun hc => ⟨rfl, by
    simp only [cv, Bool.not_eq_true', Bool.or_eq_false_iff, decide_eq_false_iff_not] at hc
    exact List.length_pos_iff.2 hc.1⟩)
  refine rn ?_
  first | refine G.condD rfl (fun hc => ?_) (fun hc => ?_) | refine G.condN rfl (fun hc => ?_) (fun hc => ?_) | refine G.cond rfl (fun hc => ?_) (fun hc => ?_)
  · have hb : badP s = true := hc
    refine rn ?_
    refine G.ret2 rfl rfl rfl rfl rfl ?_
    exact ⟨by unfold intP; rw [if_pos hb], rfl⟩
  · have hb : badP s = false := hc
    have hall : (restP s).all dig = true := by
      refine runP_all ?_
      unfold badP at hb
      simp only [Bool.or_eq_false_iff, Bool.not_eq_false', decide_eq_true_eq] at hb
      exact_mod_cast hb.1.2
    have hpi : intP s = match intL 0 (restP s) with
        | none => none
        | some n => if Lib.hasPrefix s [45] = true then some n else if n = -9223372036854775808 then none else some (-n) := by
      unfold intP; rw [if_neg (by rw [hb]; simp)]
    clear hc hb hcp
    generalize restP s = rest at hrl hall hpi ⊢
    generalize Lib.hasPrefix s [45] = neg at hpi ⊢
    refine rn ?_
    refine (G.loop (fun x : Nat × Int => [(5, none, .bool neg), (4, none, S rest), (6, none, .int .i64 x.2), (33, none, .int .i64 rest.length), (34, none, .int .i64 x.1)])
      (fun x W => W = w ∧ x.1 ≤ rest.length ∧ -9223372036854775808 ≤ x.2 ∧ x.2 ≤ 0 ∧ intL x.2 (rest.drop x.1) = intL 0 rest) (fun x => rest.length - x.1) (0, 0) (by repeat (first | exact Sub.nil _ | refine Sub.cons rfl ?_)) ⟨rfl, by simp, by simp, by simp, by simp⟩ ?_)
    rintro ⟨k, n⟩ W ⟨rfl, hk, hn1, hn2, hin⟩
    simp only at hk hn1 hn2 hin ⊢
    refine rn ?_
    first | refine G.condD rfl (fun hc => ?_) (fun hc => ?_) | refine G.condN rfl (fun hc => ?_) (fun hc => ?_) | refine G.cond rfl (fun hc => ?_) (fun hc => ?_)
    · have hlt : k < rest.length := by omega
      rw [drop_at hlt] at hin
      have hd : dig (rest.getD k 0) = true := by
        have := List.all_eq_true.1 hall rest[k] (List.getElem_mem hlt)
        simpa [List.getD, hlt] using this
      unfold dig rngC at hd
      simp only [Bool.and_eq_true, decide_eq_true_eq] at hd
      refine rn ?_
      refine sBs tb k ?_
      generalize rest.getD k 0 = c at hin hd ⊢
      have htd : (-9223372036854775808 + ((c.toNat : Int) - 48)).tdiv 10 = -((9223372036854775808 - ((c.toNat : Int) - 48)) / 10) := by
        rw [show (-9223372036854775808 + ((c.toNat : Int) - 48)) = -(9223372036854775808 - ((c.toNat : Int) - 48)) by omega, Int.neg_tdiv, Int.tdiv_eq_ediv_of_nonneg (by omega)]
      simp only [intL] at hin
      rw [htd] at hin
      refine sAr (r := (c.toNat : Int) - 48) ?_ (hp := (wrap_u8 _).trans (by omega))
      refine sCv tb (r := (c.toNat : Int) - 48) ?_
      refine rn ?_
      refine sAr (r := -9223372036854775808 + ((c.toNat : Int) - 48)) ?_ (hp := wrap_i64 (by omega) (by omega))
      refine sQuo (r := -((9223372036854775808 - ((c.toNat : Int) - 48)) / 10)) (by rw [htd]; exact wrap_i64 (by omega) (by omega)) ?_
      refine rn ?_
      first | refine G.condD rfl (fun hc => ?_) (fun hc => ?_) | refine G.condN rfl (fun hc => ?_) (fun hc => ?_) | refine G.cond rfl (fun hc => ?_) (fun hc => ?_)
      · rw [if_pos hc] at hin
        have : intP s = none := by rw [hpi, ← hin]
        refine rn ?_
        refine G.ret2 rfl rfl rfl rfl rfl ?_
        exact ⟨by rw [this], rfl⟩
      · rw [if_neg hc] at hin
        refine rn ?_
        refine sAr (r := 10 * n) ?_ (hp := wrap_i64 (by omega) (by omega))
        refine rn ?_
        refine sAr (r := 10 * n - ((c.toNat : Int) - 48)) ?_ (hp := wrap_i64 (by omega) (by omega))
        refine rn ?_
        refine sAd tb ?_
        refine rn ?_
        exact G.lp (x := (k, n)) (k + 1, 10 * n - ((c.toNat : Int) - 48)) (by repeat (first | exact Sub.nil _ | refine Sub.cons rfl ?_)) ⟨rfl, by simp only; omega, by simp only; omega, by simp only; omega, hin⟩ (by simp only; omega)
    · obtain rfl : k = rest.length := by omega
      rw [List.drop_length] at hin
      have hi2 : intL 0 rest = some n := by rw [← hin]; rfl
      rw [hi2] at hpi
      simp only at hpi
      refine rn ?_
      first | refine G.condD rfl (fun hc => ?_) (fun hc => ?_) | refine G.condN rfl (fun hc => ?_) (fun hc => ?_) | refine G.cond rfl (fun hc => ?_) (fun hc => ?_)
      · subst hc
        refine rn ?_
        refine G.ret2 rfl rfl rfl rfl rfl ?_
        exact ⟨by rw [hpi]; rfl, rfl⟩
      · subst hc
        refine rn ?_
        first | refine G.condD rfl (fun hc => ?_) (fun hc => ?_) | refine G.condN rfl (fun hc => ?_) (fun hc => ?_) | refine G.cond rfl (fun hc => ?_) (fun hc => ?_)
        · refine rn ?_
          refine G.ret2 rfl rfl rfl rfl rfl ?_
          exact ⟨by rw [hpi, if_neg (by simp), if_pos hc], rfl⟩
        · refine rn ?_
          refine sNeg ?_
          refine rn ?_
          refine G.ret2 rfl rfl rfl rfl rfl ?_
          exact ⟨by rw [hpi, if_neg (by simp), if_neg hc]; simp, rfl⟩
end Go.Proofs.YtlaingmhdgpkdaaGreatDoor
end
section
open Go Go.Vg Go.RowKit Go.Proofs Go.Proofs.YtlaingmhdgpkdaaGreatDoor
namespace Go.Proofs.YtlaingmhdgpkdaaGreatDoor

def clS : List UInt8 := [99, 111, 110, 116, 101, 110, 116, 45, 108, 101, 110, 103, 116, 104]
def lineBad (s : List UInt8) : Bool := (!(Lib.cut s [58]).2.2 || !madeP hdC (Lib.cut s [58]).1) || (!decide ((Lib.cut s [58]).2.1 = []) && !madeP (rngC 32 126) (Lib.cut s [58]).2.1)
def nameP (s : List UInt8) : List UInt8 := Lib.toLowerA (Lib.cut s [58]).1
def lineP (out : TT) (s : List UInt8) : Option TT := if lineBad s = true then none else
  if (!(aget out (nameP s)).isSome || !decide (nameP s = clS)) = true then some (aput out (nameP s) (Lib.trimB (Lib.cut s [58]).2.1 32)) else none
/-- a request's headers -/
def headP : TT → List (List UInt8) → Option TT
  | out, [] => some out
  | out, s :: r => match lineP out s with
    | some out' => headP out' r
    | none => none
theorem trim_ok (s : List UInt8) (w : World) (hs : s.length ≤ 9223372036854775807) : Ret Tryz.prog 59 ⟨[S s, S [32]]⟩ w fun r w' => r = S (Lib.trimB s 32) ∧ Ext w w' :=
  Calls.mono (Any.strings_Trim_one Tryz.lays160 ⟨⟨s⟩⟩ 32 (by decide) w hs) fun _ w' ⟨he, hw⟩ => ⟨_, he, rfl, by
    rcases hw with rfl | rfl
    · exact Ext.refl _
    · exact Ext.drew _⟩
theorem lower_ok (s : List UInt8) (w : World) (hs : s.length ≤ 140737488355328) (ha : ∀ b ∈ s, b.toNat < 128) : Ret Tryz.prog 96 ⟨[S s]⟩ w fun r w' => r = S (Lib.toLowerA s) ∧ Ext w w' :=
  Calls.mono (Any.strings_ToLower_ascii Tryz.lays159 Tryz.Builder_Extra_159 ⟨⟨s⟩⟩ w hs (fun j b hb => ha b (List.mem_of_getElem? hb))) fun _ w' ⟨he, hw⟩ => ⟨_, he, rfl, hw⟩
theorem hdC_asc {c : UInt8} (h : hdC c = true) : c.toNat < 128 := by
  unfold hdC rngC at h
  simp only [Bool.or_eq_true, Bool.and_eq_true, decide_eq_true_eq] at h
  omega
theorem made_all {p : UInt8 → Bool} {s : List UInt8} (h : madeP p s = true) : ∀ b ∈ s, p b = true := by
  unfold madeP at h
  simp only [Bool.and_eq_true, List.all_eq_true] at h
  exact h.1
theorem trimB_len (s : List UInt8) (c : UInt8) : (Lib.trimB s c).length ≤ s.length := by
  unfold Lib.trimB Lib.trimLeftB Lib.trimRightB
  refine Nat.le_trans (List.dropWhile_sublist _).length_le ?_
  rw [List.length_reverse]
  refine Nat.le_trans (List.dropWhile_sublist _).length_le ?_
  rw [List.length_reverse]; exact Nat.le_refl _

theorem headers_ok (v : Value) (ls : List (List UInt8)) (w : World) (hv : Strs w v ls) (hl : ∀ s ∈ ls, s.length ≤ 4000000000) (hM : MaxC w) :
    Ret Tryz.prog 54 ⟨[v]⟩ w fun r w' => Ext w w' ∧ (match headP [] ls with
      | some es => ∃ b, r = .tuple ⟨[.map (some b), .bool true]⟩ ∧ Mp w' b es
      | none => r = .tuple ⟨[.map none, .bool false]⟩) := by
  have hbd := hv.bound
  rw [List.length_map] at hbd
  refine ret_of_G Tryz.func54 rfl Tryz.ntmps54 rfl ?_
  simp only [argEnv]
  refine rn ?_
  refine G.scope rfl rfl ?_
  refine rn ?_
  refine sMk ?_
  intro w1 hm1 hs1 hx1
  refine rn ?_
  refine G.label ?_
  have hv1 := hv.to hx1
  refine rn ?_
  rw [List.length_map]
  refine rn ?_
  obtain ⟨B, hB⟩ : ∃ B, B = w.heap.size := ⟨_, rfl⟩
  rw [← hB] at hm1 ⊢
  refine (G.loop (fun k : Nat => [(4, none, .map (some B)), (13, none, v), (14, none, .int .i64 ls.length), (15, none, .int .i64 k)]) (fun k W => Ext w W ∧ k ≤ ls.length ∧ ∃ es, Mp W B es ∧ headP es (ls.drop k) = headP [] ls) (fun k => ls.length - k) 0 (by repeat (first | exact Sub.nil _ | refine Sub.cons rfl ?_)) ⟨hx1, by omega, [], hm1, by simp⟩ ?_)
  rintro k W ⟨hx, hk, es, hm, hh⟩
  have hvW := hv.to hx
  refine rn ?_
  first | refine G.condD rfl (fun hc => ?_) (fun hc => ?_) | refine G.condN rfl (fun hc => ?_) (fun hc => ?_) | refine G.cond rfl (fun hc => ?_) (fun hc => ?_)
  · have hlt : k < ls.length := by omega
    obtain ⟨s, hget, hmem, hsk⟩ := Strs.at hlt
    have hsl := hl s hmem
    have hcl := cut_len s [58]
    have hdk : ls.drop k = s :: ls.drop (k + 1) := by
      rw [List.drop_eq_getElem_cons hlt]
      congr 1
      have := (List.getElem?_eq_some_iff.1 hsk).2
      exact this
    rw [hdk] at hh
    try (first | refine gl tb ?_ | refine gg tb ?_ | refine ll tb ?_ | refine lg tb ?_); repeat ((first | refine G.condT rfl ?_ | refine G.condF rfl ?_ | refine sFa tb ?_ | refine sLd tb ?_ | refine sLa tb ?_ | refine sLen tb ?_ | refine sFd tb ?_ | refine sBd tb ?_ | refine sIa tb k ?_); try (first | refine gl tb ?_ | refine gg tb ?_ | refine ll tb ?_ | refine lg tb ?_))
    refine sCall c51 (cut_ok s [58] W (by omega) (hM.to hx)) ?_
    rintro _ W2 ⟨rfl, hx2⟩
    refine rn ?_
    refine sCallq c89 (fun _ => made_ok (Lib.cut s [58]).1 _ _ W2 (by omega) c92 hd_ok) ?_
    refine rn ?_
    refine sCallq c89 (fun _ => made_ok (Lib.cut s [58]).2.1 _ _ W2 (by omega) c95 asc_ok) ?_
    refine rn ?_
    first | refine G.condD rfl (fun hc => ?_) (fun hc => ?_) | refine G.condN rfl (fun hc => ?_) (fun hc => ?_) | refine G.cond rfl (fun hc => ?_) (fun hc => ?_)
    · have hb : lineBad s = true := hc
      have hno : headP [] ls = none := by rw [← hh]; simp only [headP, lineP, hb, if_true]
      refine rn ?_
      refine G.ret2 rfl rfl rfl rfl rfl ?_
      exact ⟨hx.trans hx2, by rw [hno]⟩
    · have hb : lineBad s = false := hc
      have hasc : ∀ b ∈ (Lib.cut s [58]).1, b.toNat < 128 := by
        have : madeP hdC (Lib.cut s [58]).1 = true := by
          unfold lineBad at hb
          simp only [Bool.or_eq_false_iff, Bool.not_eq_false'] at hb
          exact hb.1.2
        exact fun b hb => hdC_asc (made_all this b hb)
      refine rn ?_
      refine sCall c96 (lower_ok _ W2 (by omega) hasc) ?_
      rintro _ W3 ⟨rfl, hx3⟩
      have hx23 := hx2.trans hx3
      have hm3 := hm.to hx23
      refine rn ?_
      refine sLko tb (es := es) ?_
      refine rn ?_
      have hlp : lineP es s = if (!(aget es (nameP s)).isSome || !decide (nameP s = clS)) = true then some (aput es (nameP s) (Lib.trimB (Lib.cut s [58]).2.1 32)) else none := by
        unfold lineP; rw [hb]; rfl
      first | refine G.condD rfl (fun hc => ?_) (fun hc => ?_) | refine G.condN rfl (fun hc => ?_) (fun hc => ?_) | refine G.cond rfl (fun hc => ?_) (fun hc => ?_)
      · have hc' : (!(aget es (nameP s)).isSome || !decide (nameP s = clS)) = true := hc
        rw [if_pos hc'] at hlp
        refine rn ?_
        refine sCall c59 (trim_ok (Lib.cut s [58]).2.1 W3 (by omega)) ?_
        rintro _ W4 ⟨rfl, hx4⟩
        have hx24 := hx23.trans hx4
        refine sMu tb ?_ (hm.to hx24)
        intro W5 hm5 hw5
        refine rn ?_
        refine sAd tb ?_
        refine rn ?_
        exact G.lp (k + 1) (by repeat (first | exact Sub.nil _ | refine Sub.cons rfl ?_)) ⟨Below.wr (hx.trans hx24) hw5 (by omega), by omega, _, hm5, by rw [← hh]; simp only [headP, hlp]; rfl⟩ (by omega)
      · have hc' : ¬ (!(aget es (nameP s)).isSome || !decide (nameP s = clS)) = true := by rw [show (!(aget es (nameP s)).isSome || !decide (nameP s = clS)) = false from hc]; simp
        rw [if_neg hc'] at hlp
        have hno : headP [] ls = none := by rw [← hh]; simp only [headP, hlp]
        refine rn ?_
        refine G.ret2 rfl rfl rfl rfl rfl ?_
        exact ⟨hx.trans hx23, by rw [hno]⟩
  · have hk' : k = ls.length := by omega
    rw [hk', List.drop_length] at hh
    have hyes : headP [] ls = some es := by rw [← hh]; rfl
    refine rn ?_
    refine G.ret2 rfl rfl rfl rfl rfl ?_
    exact ⟨hx, by rw [hyes]; exact ⟨_, rfl, hm⟩⟩

/-- are a body's bytes as many as the headers say? -/
def lengthP (es : TT) (body : List UInt8) : Bool := match aget es clS with
  | none => decide (body = [])
  | some said => match intP said with
    | some n => decide (n = body.length)
    | none => false
theorem length_ok (b : Nat) (es : TT) (body : List UInt8) (w : World) (hm : Mp w b es) (hb : body.length ≤ 9223372036854775807) (hl : ∀ v, aget es clS = some v → v.length ≤ 4000000000) :
    Ret Tryz.prog 55 ⟨[.map (some b), S body]⟩ w fun r w' => r = .bool (lengthP es body) ∧ w' = w := by
  refine ret_of_G Tryz.func55 rfl Tryz.ntmps55 rfl ?_
  simp only [argEnv]
  refine rn ?_
  refine sLko tb (es := es) ?_
  have hl' := hl
  unfold clS at hl'
  cases ha : aget es clS with
  | none =>
    have hp : lengthP es body = decide (body = []) := by unfold lengthP; rw [ha]
    unfold clS at ha
    rw [ha]
    refine rn ?_
    refine G.ret1 rfl rfl rfl rfl ?_
    exact ⟨by rw [hp], rfl⟩
  | some said =>
    have hsl := hl _ ha
    have hp : lengthP es body = match intP said with | some n => decide (n = body.length) | none => false := by unfold lengthP; rw [ha]
    unfold clS at ha
    rw [ha]
    refine rn ?_
    refine sCall c97 (int_ok said w hsl) ?_
    rintro r w1 ⟨rfl, hw⟩
    obtain rfl : w = w1 := hw.symm
    cases hi : intP said with
    | none =>
      rw [hi] at hp
      refine rn ?_
      refine G.ret1 rfl rfl rfl rfl ?_
      exact ⟨by rw [hp]; rfl, rfl⟩
    | some n =>
      rw [hi] at hp
      refine rn ?_
      refine G.ret1 rfl rfl rfl rfl ?_
      exact ⟨by rw [hp]; rfl, rfl⟩

end Go.Proofs.YtlaingmhdgpkdaaGreatDoor
end
section
namespace Go.Proofs
open Go.Shelf
def Tryz.laysValid_ren : Go.Shelf.Ren := ⟨fun | 196 => 101 | 259 => 134 | n => n, fun | 9 => 9 | 4 => 4 | 3 => 3 | 5 => 5 | 12 => 12 | 119 => 124 | 0 => 0 | 46 => 102 | 139 => 127 | 138 => 126 | 53 => 88 | n => n, fun | 3 => 2 | 4 => 3 | n => n⟩
theorem Tryz.laysValid : Go.Proofs.Lays.n196 Tryz.prog Tryz.laysValid_ren := {
  mixed := by kernel_rfl
  f196 := Tryz.func101.trans (congrArg some (by kernel_rfl))
  f259 := Tryz.func134.trans (congrArg some (by kernel_rfl))
  t0 := Tryz.underlying0
  a0 := Tryz.isAgg0
  z0 := Tryz.sizeOf0
  v0 := Tryz.zeroValue0
  t3 := Tryz.underlying3
  a3 := Tryz.isAgg3
  z3 := Tryz.sizeOf3
  v3 := Tryz.zeroValue3
  t4 := Tryz.underlying4
  a4 := Tryz.isAgg4
  z4 := Tryz.sizeOf4
  v4 := Tryz.zeroValue4
  t5 := Tryz.underlying5
  a5 := Tryz.isAgg5
  z5 := Tryz.sizeOf5
  v5 := Tryz.zeroValue5
  t9 := Tryz.underlying9
  a9 := Tryz.isAgg9
  z9 := Tryz.sizeOf9
  v9 := Tryz.zeroValue9
  t12 := Tryz.underlying12
  a12 := Tryz.isAgg12
  z12 := Tryz.sizeOf12
  v12 := Tryz.zeroValue12
  t46 := Tryz.underlying102
  a46 := Tryz.isAgg102
  z46 := Tryz.sizeOf102
  v46 := Tryz.zeroValue102
  t53 := Tryz.underlying88
  a53 := Tryz.isAgg88
  z53 := Tryz.sizeOf88
  v53 := Tryz.zeroValue88
  t119 := Tryz.underlying124
  a119 := Tryz.isAgg124
  z119 := Tryz.sizeOf124
  t138 := Tryz.underlying126
  a138 := Tryz.isAgg126
  z138 := Tryz.sizeOf126
  v138 := Tryz.zeroValue126
  t139 := Tryz.underlying127
  a139 := Tryz.isAgg127
  z139 := Tryz.sizeOf127
  v139 := Tryz.zeroValue127
  g3 := by kernel_rfl
  g4 := by kernel_rfl }
end Go.Proofs
end
section
open Go Go.Vg Go.RowKit Go.Proofs Go.Proofs.YtlaingmhdgpkdaaGreatDoor
namespace Go.Proofs.YtlaingmhdgpkdaaGreatDoor

abbrev Tabs (w : World) : Prop := Lib.Utf8Tabs (Tryz.laysValid_ren.g 3) (Tryz.laysValid_ren.g 4) w
theorem validS_ok (s : List UInt8) (w : World) (hs : s.length ≤ 9223372036854775807) (hT : Tabs w) :
    Ret Tryz.prog 101 ⟨[S s]⟩ w fun v w' => v = .bool (Lib.validD s) ∧ Ext w w' :=
  Calls.mono (Any.utf8_ValidString Tryz.laysValid ⟨⟨s⟩⟩ w hs hT) fun _ _ ⟨he, hb⟩ => ⟨_, he, rfl, hb⟩
theorem Tabs.to {w w' : World} (h : Tabs w) (hx : Ext w w') : Tabs w' := Utf8Tabs_below h hx
def vLab (x : Lab) : Bool := Lib.validD x.1 && Lib.validD x.2
/-- is all of it UTF-8? -/
def textP (s : List UInt8) (ls : List Lab) : Bool := ls.all vLab && Lib.validD s
theorem text_ok (s : List UInt8) (v : Value) (ls : List Lab) (w : World) (hs : s.length ≤ 4000000000) (hv : Labs w v ls) (hl : ∀ x ∈ ls, x.1.length ≤ 4000000000 ∧ x.2.length ≤ 4000000000) (hT : Tabs w) :
    Ret Tryz.prog 58 ⟨[S s, v]⟩ w fun r w' => r = .bool (textP s ls) ∧ Ext w w' := by
  have hbd := Labs.bound hv
  refine ret_of_G Tryz.func58 rfl Tryz.ntmps58 rfl ?_
  simp only [argEnv]
  refine rn ?_
  rw [List.length_map]
  refine rn ?_
  refine (G.loop (fun k : Nat => [(0, none, S s), (7, none, v), (8, none, .int .i64 ls.length), (9, none, .int .i64 k)]) (fun k W => Ext w W ∧ k ≤ ls.length ∧ (ls.take k).all vLab = true) (fun k => ls.length - k) 0 (by repeat (first | exact Sub.nil _ | refine Sub.cons rfl ?_)) ⟨Ext.refl _, by omega, by simp⟩ ?_)
  rintro k W ⟨hx, hk, hall⟩
  have hvW := hv.to hx
  refine rn ?_
  first | refine G.condD rfl (fun hc => ?_) (fun hc => ?_) | refine G.condN rfl (fun hc => ?_) (fun hc => ?_) | refine G.cond rfl (fun hc => ?_) (fun hc => ?_)
  · have hlt : k < ls.length := by omega
    obtain ⟨x, hmem, hget, htk, hdk, -⟩ := Labs.at hlt
    have hxl := hl x hmem
    have hTW := hT.to hx
    try (first | refine gl tb ?_ | refine gg tb ?_ | refine ll tb ?_ | refine lg tb ?_); repeat ((first | refine G.condT rfl ?_ | refine G.condF rfl ?_ | refine sFa tb ?_ | refine sLd tb ?_ | refine sLa tb ?_ | refine sLen tb ?_ | refine sFd tb ?_ | refine sBd tb ?_ | refine sIa tb k ?_); try (first | refine gl tb ?_ | refine gg tb ?_ | refine ll tb ?_ | refine lg tb ?_))
    refine sAl tb ?_
    intro w3 hb3 hs3 hx3
    refine sSt tb ?_ (vs := labC x) (hv := rfl) (hb := hb3) (h1 := by simp [Value.oneCell', S, labC])
    intro w4 hb4 hw4
    have hx24 : Ext W w4 := Below.wr hx3 hw4 (Nat.le_refl _)
    have hx4 := hx.trans hx24
    refine rn ?_
    refine sCallx c101 (fun hc => validS_ok x.1 w4 (by omega) (hT.to hx4)) ?_
    intro w5 hx5
    have hb5 := hb4.to hx5
    refine rn ?_
    refine sCallx c101 (fun hc => validS_ok x.2 w5 (by omega) (hT.to (hx4.trans hx5))) ?_
    intro w6 hx6
    have hxE := (hx4.trans hx5).trans hx6
    refine rn ?_
    first | refine G.condD rfl (fun hc => ?_) (fun hc => ?_) | refine G.condN rfl (fun hc => ?_) (fun hc => ?_) | refine G.cond rfl (fun hc => ?_) (fun hc => ?_)
    · have hn : vLab x = false := by
        unfold vLab
        simp only [Bool.or_eq_true, Bool.not_eq_true'] at hc
        rcases hc with h | h <;> rw [h] <;> simp
      have hno : textP s ls = false := by
        unfold textP
        have : ls.all vLab = false := by
          rw [List.all_eq_false]
          exact ⟨x, hmem, by rw [hn]; simp⟩
        rw [this]; rfl
      refine rn ?_
      refine G.ret1 rfl rfl rfl rfl ?_
      exact ⟨by rw [hno], hxE⟩
    · have hn : vLab x = true := by
        unfold vLab
        simp only [Bool.or_eq_false_iff, Bool.not_eq_false'] at hc
        rw [hc.1, hc.2]; rfl
      refine rn ?_
      refine sAd tb ?_
      refine rn ?_
      exact G.lp (k + 1) (by repeat (first | exact Sub.nil _ | refine Sub.cons rfl ?_)) ⟨hxE, by omega, by rw [htk, List.all_append, hall]; simp [hn]⟩ (by omega)
  · have hk' : k = ls.length := by omega
    rw [hk', List.take_length] at hall
    refine rn ?_
    refine sCallx c101 (fun hc => validS_ok s W (by omega) (hT.to hx)) ?_
    intro W2 hx2
    refine rn ?_
    refine G.ret1 rfl rfl rfl rfl ?_
    exact ⟨by unfold textP; rw [hall]; rfl, hx.trans hx2⟩
end Go.Proofs.YtlaingmhdgpkdaaGreatDoor
end
