/- FuncsCounter: whatever the numbers, the law of a counter that grows evenly returns true and leaves what came in alone. Conditions: none beyond the statement's own. -/
import Derived.Test.YtbnckhfkkoncbaaP02
import Derived.Recover
import Derived.Lib.OthersKept
import Derived.Laws.RangeString
import Derived.Laws.Runes
set_option linter.unusedSimpArgs false
set_option linter.unusedVariables false
set_option linter.unusedSectionVars false
section
namespace Go.Nm
open Go.Vg Ieee

/-- v stands for p / q, but for k parts in 2 to the 40; u stands for 1 -/
def Ap (u k v p q : Nat) : Prop := 2 ^ 40 * (v * q) ≤ (2 ^ 40 + k) * (p * u) ∧ (2 ^ 40 - k) * (p * u) ≤ 2 ^ 40 * (v * q)
theorem Ap.weak {u k k' v p q : Nat} (h : Ap u k v p q) (hk : k ≤ k') : Ap u k' v p q :=
  ⟨Nat.le_trans h.1 (Nat.mul_le_mul_right _ (by omega)), Nat.le_trans (Nat.mul_le_mul_right _ (by omega)) h.2⟩
theorem Ap.exact (u n : Nat) : Ap u 0 (n * u) n 1 := by
  unfold Ap
  rw [Nat.mul_one]
  exact ⟨Nat.le_refl _, Nat.le_refl _⟩
theorem Ap.scale {u k v p q c : Nat} (hc : 0 < c) (h : Ap u k v (p * c) (q * c)) : Ap u k v p q := by
  obtain ⟨h1, h2⟩ := h
  have e1 : v * (q * c) = v * q * c := by rw [Nat.mul_assoc]
  have e2 : p * c * u = p * u * c := by rw [Nat.mul_assoc, Nat.mul_comm c, ← Nat.mul_assoc]
  rw [e1, e2] at h1 h2
  refine ⟨Nat.le_of_mul_le_mul_right (c := c) ?_ hc, Nat.le_of_mul_le_mul_right (c := c) ?_ hc⟩
  · rw [Nat.mul_assoc (2 ^ 40), Nat.mul_assoc (2 ^ 40 + k)]; exact h1
  · rw [Nat.mul_assoc (2 ^ 40), Nat.mul_assoc (2 ^ 40 - k)]; exact h2
/-- from c1 X ≤ c2 Y -/
theorem to_k {X Y c1 c2 k : Nat} (hc : 0 < c1) (h : c1 * X ≤ c2 * Y) (hn : c2 * 2 ^ 40 ≤ (2 ^ 40 + k) * c1) : 2 ^ 40 * X ≤ (2 ^ 40 + k) * Y := by
  have h1 := Nat.mul_le_mul_left (2 ^ 40) h
  have h2 := Nat.mul_le_mul_right Y hn
  have e1 : 2 ^ 40 * (c1 * X) = c1 * (2 ^ 40 * X) := Nat.mul_left_comm ..
  have e2 : 2 ^ 40 * (c2 * Y) = c2 * 2 ^ 40 * Y := by rw [← Nat.mul_assoc, Nat.mul_comm (2 ^ 40) c2]
  have e3 : (2 ^ 40 + k) * c1 * Y = c1 * ((2 ^ 40 + k) * Y) := by rw [Nat.mul_comm _ c1, Nat.mul_assoc]
  rw [e1, e2] at h1
  rw [e3] at h2
  exact Nat.le_of_mul_le_mul_left (Nat.le_trans h1 h2) hc
theorem from_k {X Y c1 c2 k : Nat} (hc : 0 < c1) (h : c2 * Y ≤ c1 * X) (hn : (2 ^ 40 - k) * c1 ≤ c2 * 2 ^ 40) : (2 ^ 40 - k) * Y ≤ 2 ^ 40 * X := by
  have h1 := Nat.mul_le_mul_left (2 ^ 40) h
  have h2 := Nat.mul_le_mul_right Y hn
  have e1 : 2 ^ 40 * (c1 * X) = c1 * (2 ^ 40 * X) := Nat.mul_left_comm ..
  have e2 : 2 ^ 40 * (c2 * Y) = c2 * 2 ^ 40 * Y := by rw [← Nat.mul_assoc, Nat.mul_comm (2 ^ 40) c2]
  have e3 : (2 ^ 40 - k) * c1 * Y = c1 * ((2 ^ 40 - k) * Y) := by rw [Nat.mul_comm _ c1, Nat.mul_assoc]
  rw [e1, e2] at h1
  rw [e3] at h2
  exact Nat.le_of_mul_le_mul_left (Nat.le_trans h2 h1) hc
theorem Ap.mul {u k1 k2 k r s t p1 q1 p2 q2 : Nat} (hu : 0 < u) (h1 : Ap u k1 r p1 q1) (h2 : Ap u k2 s p2 q2) (h : Rel (t * u) (r * s))
    (n1 : (2 ^ 53 + 1) * (2 ^ 40 + k1) * (2 ^ 40 + k2) * 2 ^ 40 ≤ (2 ^ 40 + k) * 2 ^ 133) (n2 : (2 ^ 40 - k) * 2 ^ 133 ≤ (2 ^ 53 - 1) * (2 ^ 40 - k1) * (2 ^ 40 - k2) * 2 ^ 40) : Ap u k t (p1 * p2) (q1 * q2) := by
  obtain ⟨a1, a2⟩ := h1
  obtain ⟨b1, b2⟩ := h2
  obtain ⟨c1, c2⟩ := h
  have m1 := Nat.mul_le_mul a1 b1
  have m2 := Nat.mul_le_mul a2 b2
  have d1 := Nat.mul_le_mul_right (q1 * q2) c1
  have d2 := Nat.mul_le_mul_right (q1 * q2) c2
  have f1 : 2 ^ 40 * (r * q1) * (2 ^ 40 * (s * q2)) = 2 ^ 80 * (r * s * (q1 * q2)) := by
    rw [show (2 : Nat) ^ 80 = 2 ^ 40 * 2 ^ 40 by decide]
    simp only [Nat.mul_assoc, Nat.mul_left_comm]
  have f2 : ∀ x y : Nat, x * (p1 * u) * (y * (p2 * u)) = x * y * (p1 * p2 * u * u) := fun x y => by
    simp only [Nat.mul_assoc, Nat.mul_left_comm]
  have f3 : ∀ x : Nat, x * (t * u) * (q1 * q2) = x * (t * (q1 * q2) * u) := fun x => by
    simp only [Nat.mul_assoc, Nat.mul_left_comm, Nat.mul_comm]
  have f4 : ∀ x : Nat, x * (r * s) * (q1 * q2) = x * (r * s * (q1 * q2)) := fun x => by rw [Nat.mul_assoc]
  rw [f1, f2] at m1 m2
  rw [f3, f4] at d1 d2
  obtain ⟨Z, hZ⟩ : ∃ Z, Z = r * s * (q1 * q2) := ⟨_, rfl⟩
  rw [← hZ] at m1 m2 d1 d2
  have e1 : 2 ^ 133 * (t * (q1 * q2) * u) ≤ (2 ^ 53 + 1) * (2 ^ 40 + k1) * (2 ^ 40 + k2) * (p1 * p2 * u * u) := by
    have x1 := Nat.mul_le_mul_left (2 ^ 80) d1
    have x2 := Nat.mul_le_mul_left (2 ^ 53 + 1) m1
    have y1 : 2 ^ 80 * (2 ^ 53 * (t * (q1 * q2) * u)) = 2 ^ 133 * (t * (q1 * q2) * u) := by rw [← Nat.mul_assoc]
    have y2 : 2 ^ 80 * ((2 ^ 53 + 1) * Z) = (2 ^ 53 + 1) * (2 ^ 80 * Z) := Nat.mul_left_comm ..
    rw [y1, y2] at x1
    refine Nat.le_trans x1 (Nat.le_trans x2 (Nat.le_of_eq ?_))
    simp only [Nat.mul_assoc]
  have e2 : (2 ^ 53 - 1) * (2 ^ 40 - k1) * (2 ^ 40 - k2) * (p1 * p2 * u * u) ≤ 2 ^ 133 * (t * (q1 * q2) * u) := by
    have x1 := Nat.mul_le_mul_left (2 ^ 80) d2
    have x2 := Nat.mul_le_mul_left (2 ^ 53 - 1) m2
    have y1 : 2 ^ 80 * (2 ^ 53 * (t * (q1 * q2) * u)) = 2 ^ 133 * (t * (q1 * q2) * u) := by rw [← Nat.mul_assoc]
    have y2 : 2 ^ 80 * ((2 ^ 53 - 1) * Z) = (2 ^ 53 - 1) * (2 ^ 80 * Z) := Nat.mul_left_comm ..
    rw [y1, y2] at x1
    refine Nat.le_trans (Nat.le_of_eq ?_) (Nat.le_trans x2 x1)
    simp only [Nat.mul_assoc]
  have g1 : 2 ^ 133 * (t * (q1 * q2)) ≤ (2 ^ 53 + 1) * (2 ^ 40 + k1) * (2 ^ 40 + k2) * (p1 * p2 * u) := by
    refine Nat.le_of_mul_le_mul_right (c := u) ?_ hu
    rw [Nat.mul_assoc (2 ^ 133), Nat.mul_assoc ((2 ^ 53 + 1) * (2 ^ 40 + k1) * (2 ^ 40 + k2))]; exact e1
  have g2 : (2 ^ 53 - 1) * (2 ^ 40 - k1) * (2 ^ 40 - k2) * (p1 * p2 * u) ≤ 2 ^ 133 * (t * (q1 * q2)) := by
    refine Nat.le_of_mul_le_mul_right (c := u) ?_ hu
    rw [Nat.mul_assoc (2 ^ 133), Nat.mul_assoc ((2 ^ 53 - 1) * (2 ^ 40 - k1) * (2 ^ 40 - k2))]; exact e2
  exact ⟨to_k (by decide) g1 n1, from_k (by decide) g2 n2⟩
theorem Ap.div {u k1 k2 k r s t p1 q1 p2 q2 : Nat} (hu : 0 < u) (hk2 : k2 < 2 ^ 40) (h1 : Ap u k1 r p1 q1) (h2 : Ap u k2 s p2 q2) (h : Rel2 (t * s) (r * u))
    (n1 : (2 ^ 50 + 1) * (2 ^ 40 + k1) * 2 ^ 40 ≤ (2 ^ 40 + k) * ((2 ^ 40 - k2) * 2 ^ 50)) (n2 : (2 ^ 40 - k) * ((2 ^ 40 + k2) * 2 ^ 50) ≤ (2 ^ 50 - 1) * (2 ^ 40 - k1) * 2 ^ 40) : Ap u k t (p1 * q2) (q1 * p2) := by
  obtain ⟨a1, a2⟩ := h1
  obtain ⟨b1, b2⟩ := h2
  obtain ⟨c1, c2⟩ := h
  -- t * (q1 * p2), and p1 * q2 * u
  have e1 : (2 ^ 40 - k2) * 2 ^ 50 * (t * (q1 * p2)) * u ≤ (2 ^ 50 + 1) * (2 ^ 40 + k1) * (p1 * q2 * u) * u := by
    have x1 := Nat.mul_le_mul_left (2 ^ 50 * (t * q1)) b2
    have x2 := Nat.mul_le_mul_right (2 ^ 40 * (q1 * q2)) c1
    have x3 := Nat.mul_le_mul_left ((2 ^ 50 + 1) * (u * q2)) a1
    have y1 : 2 ^ 50 * (t * q1) * ((2 ^ 40 - k2) * (p2 * u)) = (2 ^ 40 - k2) * 2 ^ 50 * (t * (q1 * p2)) * u := by
      generalize 2 ^ 40 - k2 = a
      generalize 2 ^ 50 = b
      simp only [Nat.mul_assoc, Nat.mul_left_comm, Nat.mul_comm]
    have y2 : 2 ^ 50 * (t * q1) * (2 ^ 40 * (s * q2)) = 2 ^ 50 * (t * s) * (2 ^ 40 * (q1 * q2)) := by
      generalize 2 ^ 40 = a
      generalize 2 ^ 50 = b
      simp only [Nat.mul_assoc, Nat.mul_left_comm, Nat.mul_comm]
    have y3 : (2 ^ 50 + 1) * (r * u) * (2 ^ 40 * (q1 * q2)) = (2 ^ 50 + 1) * (u * q2) * (2 ^ 40 * (r * q1)) := by
      generalize 2 ^ 40 = a
      generalize 2 ^ 50 + 1 = b
      simp only [Nat.mul_assoc, Nat.mul_left_comm, Nat.mul_comm]
    have y4 : (2 ^ 50 + 1) * (u * q2) * ((2 ^ 40 + k1) * (p1 * u)) = (2 ^ 50 + 1) * (2 ^ 40 + k1) * (p1 * q2 * u) * u := by
      generalize 2 ^ 40 + k1 = a
      generalize 2 ^ 50 + 1 = b
      simp only [Nat.mul_assoc, Nat.mul_left_comm, Nat.mul_comm]
    rw [y1, y2] at x1
    rw [y3] at x2
    rw [y4] at x3
    exact Nat.le_trans x1 (Nat.le_trans x2 x3)
  have e2 : (2 ^ 50 - 1) * (2 ^ 40 - k1) * (p1 * q2 * u) * u ≤ (2 ^ 40 + k2) * 2 ^ 50 * (t * (q1 * p2)) * u := by
    have x1 := Nat.mul_le_mul_left (2 ^ 50 * (t * q1)) b1
    have x2 := Nat.mul_le_mul_right (2 ^ 40 * (q1 * q2)) c2
    have x3 := Nat.mul_le_mul_left ((2 ^ 50 - 1) * (u * q2)) a2
    have y1 : 2 ^ 50 * (t * q1) * ((2 ^ 40 + k2) * (p2 * u)) = (2 ^ 40 + k2) * 2 ^ 50 * (t * (q1 * p2)) * u := by
      generalize 2 ^ 40 + k2 = a
      generalize 2 ^ 50 = b
      simp only [Nat.mul_assoc, Nat.mul_left_comm, Nat.mul_comm]
    have y2 : 2 ^ 50 * (t * q1) * (2 ^ 40 * (s * q2)) = 2 ^ 50 * (t * s) * (2 ^ 40 * (q1 * q2)) := by
      generalize 2 ^ 40 = a
      generalize 2 ^ 50 = b
      simp only [Nat.mul_assoc, Nat.mul_left_comm, Nat.mul_comm]
    have y3 : (2 ^ 50 - 1) * (r * u) * (2 ^ 40 * (q1 * q2)) = (2 ^ 50 - 1) * (u * q2) * (2 ^ 40 * (r * q1)) := by
      generalize 2 ^ 40 = a
      generalize 2 ^ 50 - 1 = b
      simp only [Nat.mul_assoc, Nat.mul_left_comm, Nat.mul_comm]
    have y4 : (2 ^ 50 - 1) * (u * q2) * ((2 ^ 40 - k1) * (p1 * u)) = (2 ^ 50 - 1) * (2 ^ 40 - k1) * (p1 * q2 * u) * u := by
      generalize 2 ^ 40 - k1 = a
      generalize 2 ^ 50 - 1 = b
      simp only [Nat.mul_assoc, Nat.mul_left_comm, Nat.mul_comm]
    rw [y1, y2] at x1
    rw [y3] at x2
    rw [y4] at x3
    exact Nat.le_trans x3 (Nat.le_trans x2 x1)
  have g1 := Nat.le_of_mul_le_mul_right e1 hu
  have g2 := Nat.le_of_mul_le_mul_right e2 hu
  exact ⟨to_k (Nat.mul_pos (by omega) (by decide)) g1 n1, from_k (Nat.mul_pos (by omega) (by decide)) g2 n2⟩
theorem Ap.add {u k r s t p1 p2 q : Nat} (hk : k ≤ 1000) (h1 : Ap u k r p1 q) (h2 : Ap u k s p2 q) (h : Rel t (r + s)) : Ap u (k + 1) t (p1 + p2) q := by
  obtain ⟨a1, a2⟩ := h1
  obtain ⟨b1, b2⟩ := h2
  obtain ⟨c1, c2⟩ := h
  have d1 := Nat.mul_le_mul_right q c1
  have d2 := Nat.mul_le_mul_right q c2
  rw [Nat.mul_assoc, Nat.mul_assoc, Nat.add_mul r] at d1 d2
  unfold Ap
  rw [Nat.add_mul p1]
  obtain ⟨x, hx⟩ : ∃ x, x = r * q := ⟨_, rfl⟩
  obtain ⟨y, hy⟩ : ∃ y, y = s * q := ⟨_, rfl⟩
  obtain ⟨z, hz⟩ : ∃ z, z = t * q := ⟨_, rfl⟩
  obtain ⟨P, hP⟩ : ∃ P, P = p1 * u := ⟨_, rfl⟩
  obtain ⟨Q, hQ⟩ : ∃ Q, Q = p2 * u := ⟨_, rfl⟩
  rw [← hx] at a1 a2 d1 d2
  rw [← hy] at b1 b2 d1 d2
  rw [← hz] at d1 d2 ⊢
  rw [← hP] at a1 a2 ⊢
  rw [← hQ] at b1 b2 ⊢
  obtain ⟨Y, hY⟩ : ∃ Y, Y = P + Q := ⟨_, rfl⟩
  obtain ⟨X, hX⟩ : ∃ X, X = x + y := ⟨_, rfl⟩
  have m1 : 2 ^ 40 * X ≤ (2 ^ 40 + k) * Y := by
    rw [hX, hY, Nat.mul_add, Nat.mul_add]
    exact Nat.add_le_add a1 b1
  have m2 : (2 ^ 40 - k) * Y ≤ 2 ^ 40 * X := by
    rw [hX, hY, Nat.mul_add, Nat.mul_add]
    exact Nat.add_le_add a2 b2
  rw [← hX] at d1 d2
  rw [← hY]
  have kY : k * Y ≤ 1000 * Y := Nat.mul_le_mul_right _ hk
  rw [Nat.add_mul] at m1
  rw [Nat.sub_mul] at m2
  rw [show 2 ^ 40 + (k + 1) = 2 ^ 40 + k + 1 from rfl, Nat.add_mul, Nat.add_mul, Nat.one_mul, Nat.sub_mul, Nat.add_mul, Nat.one_mul]
  obtain ⟨W, hW⟩ : ∃ W, W = k * Y := ⟨_, rfl⟩
  rw [← hW] at m1 m2 kY ⊢
  constructor
  · omega
  · omega
/-- one stands below the other -/
theorem Ap.lt {u k1 k2 r s p1 q1 p2 q2 : Nat} (hu : 0 < u) (hq1 : 0 < q1) (hq2 : 0 < q2) (h1 : Ap u k1 r p1 q1) (h2 : Ap u k2 s p2 q2) (h : (2 ^ 40 + k1) * (p1 * q2) < (2 ^ 40 - k2) * (p2 * q1)) : r < s := by
  refine Decidable.byContradiction fun hn => ?_
  have hsr : s ≤ r := by omega
  have x1 := Nat.mul_le_mul_right q2 h1.1
  have x2 := Nat.mul_le_mul_right q1 h2.2
  have x3 : 2 ^ 40 * (s * q2) * q1 ≤ 2 ^ 40 * (r * q1) * q2 := by
    have := Nat.mul_le_mul_right (2 ^ 40 * (q1 * q2)) hsr
    have y1 : s * (2 ^ 40 * (q1 * q2)) = 2 ^ 40 * (s * q2) * q1 := by
      generalize 2 ^ 40 = a
      simp only [Nat.mul_assoc, Nat.mul_left_comm, Nat.mul_comm]
    have y2 : r * (2 ^ 40 * (q1 * q2)) = 2 ^ 40 * (r * q1) * q2 := by
      generalize 2 ^ 40 = a
      simp only [Nat.mul_assoc, Nat.mul_left_comm, Nat.mul_comm]
    rw [y1, y2] at this
    exact this
  have x4 : (2 ^ 40 - k2) * (p2 * q1) * u ≤ (2 ^ 40 + k1) * (p1 * q2) * u := by
    have y1 : (2 ^ 40 - k2) * (p2 * u) * q1 = (2 ^ 40 - k2) * (p2 * q1) * u := by
      generalize 2 ^ 40 - k2 = a
      simp only [Nat.mul_assoc, Nat.mul_left_comm, Nat.mul_comm]
    have y2 : (2 ^ 40 + k1) * (p1 * u) * q2 = (2 ^ 40 + k1) * (p1 * q2) * u := by
      generalize 2 ^ 40 + k1 = a
      simp only [Nat.mul_assoc, Nat.mul_left_comm, Nat.mul_comm]
    rw [y1] at x2
    rw [y2] at x1
    exact Nat.le_trans x2 (Nat.le_trans x3 x1)
  have := Nat.le_of_mul_le_mul_right x4 hu
  omega
end Go.Nm
end
section
namespace Go.Nm
open Go.Vg Ieee

set_option exponentiation.threshold 4000 in
/-- what stands for 1 -/
@[irreducible] def uV : Nat := 2 ^ 1075
set_option exponentiation.threshold 4000 in
theorem uV_eq : uV = 2 ^ 1075 := by unfold uV; rfl
set_option exponentiation.threshold 4000 in
theorem uV_pos : 0 < uV := by rw [uV_eq]; exact Nat.two_pow_pos _
/-- a float that stands for p / q, but for k parts in 2 to the 40 -/
structure Fp (k R p q : Nat) : Prop where
  rng : Rng R
  ap : Ap uV k (vB R) p q
theorem Fp.weak {k k' R p q : Nat} (h : Fp k R p q) (hk : k ≤ k') : Fp k' R p q := ⟨h.rng, h.ap.weak hk⟩
theorem Fp.scale {k R p q c : Nat} (hc : 0 < c) (h : Fp k R (p * c) (q * c)) : Fp k R p q := ⟨h.rng, h.ap.scale hc⟩
set_option exponentiation.threshold 4000 in
/-- in range, for what it stands is -/
theorem rng_of {R k p q : Nat} (hR : R < infB) (hk : k ≤ 1000) (hq : 0 < q) (hp : 0 < p) (h1 : p ≤ 2 ^ 60 * q) (h2 : q ≤ 2 ^ 60 * p) (h : Ap uV k (vB R) p q) : Rng R := by
  obtain ⟨a1, a2⟩ := h
  have e1 : (2 : Nat) ^ 1075 = 2 ^ 975 * 2 ^ 100 := by rw [← Nat.pow_add]
  have e2 : (2 : Nat) ^ 1175 = 2 ^ 1075 * 2 ^ 100 := by rw [← Nat.pow_add]
  refine ⟨hR, ?_, ?_⟩
  · refine Nat.le_of_mul_le_mul_right (c := 2 ^ 40 * q) ?_ (Nat.mul_pos (by decide) hq)
    have x1 : (2 ^ 40 - 1000) * (p * uV) ≤ 2 ^ 40 * (vB R * q) := Nat.le_trans (Nat.mul_le_mul_right _ (by omega)) a2
    have x2 := Nat.mul_le_mul_left (2 ^ 975 * 2 ^ 40) h2
    rw [uV_eq, e1] at x1
    generalize 2 ^ 975 = z at *
    have y1 : (2 ^ 40 - 1000) * (p * (z * 2 ^ 100)) = (2 ^ 40 - 1000) * 2 ^ 100 * (p * z) := by
      rw [show p * (z * 2 ^ 100) = 2 ^ 100 * (p * z) by rw [← Nat.mul_assoc, Nat.mul_comm]]
      rw [← Nat.mul_assoc]
    have y2 : z * 2 ^ 40 * (2 ^ 60 * p) = 2 ^ 100 * (p * z) := by
      rw [show (2 : Nat) ^ 100 = 2 ^ 40 * 2 ^ 60 by decide]
      generalize 2 ^ 40 = a
      generalize 2 ^ 60 = b
      simp only [Nat.mul_assoc, Nat.mul_left_comm, Nat.mul_comm]
    have y3 : vB R * (2 ^ 40 * q) = 2 ^ 40 * (vB R * q) := Nat.mul_left_comm ..
    rw [y1] at x1
    rw [y2, Nat.mul_assoc] at x2
    rw [y3]
    refine Nat.le_trans x2 (Nat.le_trans ?_ x1)
    exact Nat.mul_le_mul_right _ (by decide)
  · refine Nat.le_of_mul_le_mul_right (c := 2 ^ 40 * q) ?_ (Nat.mul_pos (by decide) hq)
    have x1 : 2 ^ 40 * (vB R * q) ≤ (2 ^ 40 + 1000) * (p * uV) := Nat.le_trans a1 (Nat.mul_le_mul_right _ (by omega))
    have x2 := Nat.mul_le_mul_left ((2 ^ 40 + 1000) * 2 ^ 1075) h1
    rw [e2]
    rw [uV_eq] at x1
    generalize 2 ^ 1075 = z at *
    have y1 : (2 ^ 40 + 1000) * (p * z) = (2 ^ 40 + 1000) * z * p := by
      rw [Nat.mul_comm p, Nat.mul_assoc]
    have y2 : (2 ^ 40 + 1000) * z * (2 ^ 60 * q) = (2 ^ 40 + 1000) * 2 ^ 60 * (z * q) := by
      generalize 2 ^ 40 + 1000 = a
      generalize 2 ^ 60 = b
      simp only [Nat.mul_assoc, Nat.mul_left_comm, Nat.mul_comm]
    have y3 : vB R * (2 ^ 40 * q) = 2 ^ 40 * (vB R * q) := Nat.mul_left_comm ..
    have y4 : z * 2 ^ 100 * (2 ^ 40 * q) = 2 ^ 140 * (z * q) := by
      rw [show (2 : Nat) ^ 140 = 2 ^ 100 * 2 ^ 40 by decide]
      generalize 2 ^ 100 = a
      generalize 2 ^ 40 = b
      simp only [Nat.mul_assoc, Nat.mul_left_comm, Nat.mul_comm]
    rw [y1] at x1
    rw [y2] at x2
    rw [y3, y4]
    exact Nat.le_trans x1 (Nat.le_trans x2 (Nat.mul_le_mul_right _ (by decide)))
theorem nearest_le (m : Nat) (p : Int) : double.nearest false m p ≤ infB := by
  have hs : sgn false = 0 := rfl
  unfold Format.nearest
  split
  · rw [word_rung, hs, Nat.add_zero]; exact Nat.zero_le _
  · simp only
    rw [word_rung, hs, Nat.add_zero, inf_eq, ← d_inf]
    exact Nat.min_le_right _ _
/-- a whole number's float -/
theorem int_fp {n : Nat} (h0 : 0 < n) (h1 : n < 9007199254740992) : IsI (floatOfInt .f64 (n : Int)) n ∧ floatOfInt .f64 (n : Int) ≤ infB := by
  refine ⟨ofInt_isI n (by rw [Int.natAbs_natCast]; exact h1), ?_⟩
  show double.nearest (decide ((n : Int) < 0)) (n : Int).natAbs 0 ≤ infB
  rw [decide_eq_false (by omega)]
  exact nearest_le _ _
set_option exponentiation.threshold 4000 in
theorem isI_val {R n : Nat} (h : IsI R n) (h0 : 0 < n) (hR : R ≤ infB) : R < infB ∧ vB R = n * uV := by
  have hlt : R < infB := by
    refine Nat.lt_of_le_of_ne hR fun e => ?_
    subst e
    obtain ⟨s, m, i, h1, _⟩ := h
    have := read_inf false
    rw [show infB + sgn false = infB from rfl] at this
    rw [this] at h1
    cases h1
  refine ⟨hlt, ?_⟩
  obtain ⟨s, m, i, h1, h2, _⟩ := h
  rw [read_pos hlt] at h1
  injection h1 with _ hm hi
  rw [Int.natAbs_natCast] at h2
  rw [v_pow, uV_eq, hm]
  rcases h2 with ⟨h3, h4⟩ | ⟨h3, h4⟩
  · rw [h4, Nat.mul_assoc, ← Nat.pow_add]
    congr 2
    omega
  · rw [h4, Nat.mul_assoc, ← Nat.pow_add]
    congr 2
    omega
theorem isI_fp {R n : Nat} (h : IsI R n) (h0 : 0 < n) (hn : n ≤ 2 ^ 60) (hR : R ≤ infB) : Fp 0 R n 1 := by
  obtain ⟨h1, h2⟩ := isI_val h h0 hR
  have ha : Ap uV 0 (vB R) n 1 := by rw [h2]; exact Ap.exact uV n
  exact ⟨rng_of h1 (by decide) (by decide) h0 (by omega) (by omega) ha, ha⟩
theorem intF_fp {n : Nat} (h0 : 0 < n) (h1 : n < 9007199254740992) : Fp 0 (floatOfInt .f64 (n : Int)) n 1 :=
  isI_fp (int_fp h0 h1).1 h0 (by omega) (int_fp h0 h1).2
/-- the difference of two whole numbers -/
theorem sub_int {a b : Nat} {n k : Nat} (h1 : IsI a n) (h2 : IsI b k) (hk : k < n) (hn : n < 9007199254740992) : ∃ r, floatBits .sub .f64 a b = some r ∧ IsI r ((n - k : Nat) : Int) ∧ r ≤ infB := by
  obtain ⟨t, l, j, hb, h3, h4⟩ := id h2
  have ho : HasInt (.number (!t) l j) (-(k : Int)) ∨ k = 0 := by
    by_cases h0 : k = 0
    · exact .inr h0
    · refine .inl ⟨!t, l, j, rfl, by simpa using h3, fun _ => ?_⟩
      rw [h4 (by omega), decide_eq_false (by omega), decide_eq_true (by omega)]; rfl
  have ho' : HasInt (.number (!t) l j) (-(k : Int)) := by
    rcases ho with h | h
    · exact h
    · subst h
      exact ⟨!t, l, j, rfl, by simpa using h3, fun h => by simp at h⟩
  obtain ⟨s, m, p, h5, h6⟩ := sum_int (d := double.read a) (e := .number (!t) l j) h1 ho'
  have e : (n : Int) + -(k : Int) = ((n - k : Nat) : Int) := by omega
  rw [e] at h6
  refine ⟨double.nearest s m p, ?_, near_exact _ _ _ _ h6 (by rw [Int.natAbs_natCast]; omega), ?_⟩
  · show ((double.read a).sum (double.read b).opposite).map double.write = _
    rw [hb]
    show (Datum.sum _ (.number (!t) l j)).map double.write = _
    rw [h5]
    rfl
  · obtain ⟨s', m', i', h7, _, h8⟩ := h6
    injection h7 with h9 _ _
    have hs : s = false := by
      rw [h9, h8 (by omega)]
      exact decide_eq_false (by omega)
    rw [hs]
    exact nearest_le _ _
theorem cmp_pos {R Q : Nat} (h1 : R < infB) (h2 : Q < infB) : FloatKind.f64.format.order R Q = some (compare (vB R : Int) (vB Q : Int)) := by
  have h := order_rung false false h1 h2
  rw [show R + sgn false = R from rfl, show Q + sgn false = Q from rfl] at h
  have : sg false = 1 := rfl
  rw [this, Int.one_mul, Int.one_mul] at h
  exact h
theorem lss_pos {R Q : Nat} (h1 : R < infB) (h2 : Q < infB) : fcmpB .lss R Q = some (decide (vB R < vB Q)) := by
  unfold fcmpB
  simp only
  rw [cmp_pos h1 h2]
  congr 1
  rw [Bool.eq_iff_iff, beq_iff_eq, Option.some.injEq, cmp_lt_iff, decide_eq_true_eq]
  omega
theorem gtr_pos {R Q : Nat} (h1 : R < infB) (h2 : Q < infB) : fcmpB .gtr R Q = some (decide (vB Q < vB R)) := by
  unfold fcmpB
  simp only
  rw [cmp_pos h1 h2]
  congr 1
  rw [Bool.eq_iff_iff, beq_iff_eq, Option.some.injEq, cmp_gt_iff, decide_eq_true_eq]
  omega
theorem leq_pos {R Q : Nat} (h1 : R < infB) (h2 : Q < infB) (h : vB R ≤ vB Q) : fcmpB .leq R Q = some true := by
  unfold fcmpB
  simp only
  rw [cmp_pos h1 h2]
  congr 1
  rcases Nat.lt_or_eq_of_le h with h | h
  · rw [cmp_lt_iff.2 (by omega : (vB R : Int) < vB Q)]; rfl
  · rw [cmp_eq_iff.2 (by omega : (vB R : Int) = vB Q)]; rfl
theorem geq_pos {R Q : Nat} (h1 : R < infB) (h2 : Q < infB) (h : vB Q ≤ vB R) : fcmpB .geq R Q = some true := by
  unfold fcmpB
  simp only
  rw [cmp_pos h1 h2]
  congr 1
  rcases Nat.lt_or_eq_of_le h with h | h
  · rw [cmp_gt_iff.2 (by omega : (vB Q : Int) < vB R)]; rfl
  · rw [cmp_eq_iff.2 (by omega : (vB R : Int) = vB Q)]; rfl
/-- products and quotients -/
theorem Fp.mul {k1 k2 k r s p1 q1 p2 q2 : Nat} (h1 : Fp k1 r p1 q1) (h2 : Fp k2 s p2 q2) (hk : k ≤ 1000) (hp : 0 < p1 * p2) (hq : 0 < q1 * q2) (g1 : p1 * p2 ≤ 2 ^ 60 * (q1 * q2)) (g2 : q1 * q2 ≤ 2 ^ 60 * (p1 * p2))
    (n1 : (2 ^ 53 + 1) * (2 ^ 40 + k1) * (2 ^ 40 + k2) * 2 ^ 40 ≤ (2 ^ 40 + k) * 2 ^ 133) (n2 : (2 ^ 40 - k) * 2 ^ 133 ≤ (2 ^ 53 - 1) * (2 ^ 40 - k1) * (2 ^ 40 - k2) * 2 ^ 40) : ∃ t, floatBits .mul .f64 r s = some t ∧ Fp k t (p1 * p2) (q1 * q2) := by
  obtain ⟨t, t1, _, t3, t4⟩ := mul_rel h1.rng h2.rng
  have hap : Ap uV k (vB t) (p1 * p2) (q1 * q2) := Ap.mul uV_pos h1.ap h2.ap (by rw [uV_eq]; exact t4) n1 n2
  exact ⟨t, t1, rng_of t3 hk hq hp g1 g2 hap, hap⟩
theorem Fp.div {k1 k2 k r s p1 q1 p2 q2 : Nat} (h1 : Fp k1 r p1 q1) (h2 : Fp k2 s p2 q2) (hk : k ≤ 1000) (hk2 : k2 < 2 ^ 40) (hp : 0 < p1 * q2) (hq : 0 < q1 * p2) (g1 : p1 * q2 ≤ 2 ^ 60 * (q1 * p2)) (g2 : q1 * p2 ≤ 2 ^ 60 * (p1 * q2))
    (n1 : (2 ^ 50 + 1) * (2 ^ 40 + k1) * 2 ^ 40 ≤ (2 ^ 40 + k) * ((2 ^ 40 - k2) * 2 ^ 50)) (n2 : (2 ^ 40 - k) * ((2 ^ 40 + k2) * 2 ^ 50) ≤ (2 ^ 50 - 1) * (2 ^ 40 - k1) * 2 ^ 40) : ∃ t, floatBits .quo .f64 r s = some t ∧ Fp k t (p1 * q2) (q1 * p2) := by
  obtain ⟨t, t1, _, t3, t4⟩ := div_rel h1.rng h2.rng
  have hap : Ap uV k (vB t) (p1 * q2) (q1 * p2) := Ap.div uV_pos hk2 h1.ap h2.ap (by rw [uV_eq]; exact t4) n1 n2
  exact ⟨t, t1, rng_of t3 hk hq hp g1 g2 hap, hap⟩
theorem Fp.add {k r s p1 p2 q : Nat} (h1 : Fp k r p1 q) (h2 : Fp k s p2 q) (hk : k ≤ 900) (hp : 0 < p1 + p2) (hq : 0 < q) (g1 : p1 + p2 ≤ 2 ^ 60 * q) (g2 : q ≤ 2 ^ 60 * (p1 + p2)) : ∃ t, floatBits .add .f64 r s = some t ∧ Fp (k + 1) t (p1 + p2) q := by
  obtain ⟨t, t1, _, t3, t4⟩ := add_rel h1.rng h2.rng
  have hap : Ap uV (k + 1) (vB t) (p1 + p2) q := Ap.add (by omega) h1.ap h2.ap t4
  exact ⟨t, t1, rng_of t3 (by omega) hq hp g1 g2 hap, hap⟩
theorem Fp.lt {k1 k2 r s p1 q1 p2 q2 : Nat} (h1 : Fp k1 r p1 q1) (h2 : Fp k2 s p2 q2) (hq1 : 0 < q1) (hq2 : 0 < q2) (h : (2 ^ 40 + k1) * (p1 * q2) < (2 ^ 40 - k2) * (p2 * q1)) : vB r < vB s :=
  Ap.lt uV_pos hq1 hq2 h1.ap h2.ap h
/-- 1000, 1.1, 1e-9 -/
theorem kilo_fp : Fp 0 4652007308841189376 1000 1 :=
  isI_fp (n := 1000) ⟨false, 8796093022208000, -43, by decide +kernel, .inr ⟨by decide, by decide⟩, fun _ => by decide⟩ (by decide) (by decide) (by decide)
theorem const_fp {R m k p q : Nat} {K : Nat} (hR : R < infB) (hm : mB R = m) (hK : kB R + 1 = K) (hK2 : K ≤ 1075) (hk : k ≤ 1000) (hq : 0 < q) (hp : 0 < p) (g1 : p ≤ 2 ^ 60 * q) (g2 : q ≤ 2 ^ 60 * p)
    (n1 : 2 ^ 40 * (m * q) ≤ (2 ^ 40 + k) * (p * 2 ^ (1075 - K))) (n2 : (2 ^ 40 - k) * (p * 2 ^ (1075 - K)) ≤ 2 ^ 40 * (m * q)) : Fp k R p q := by
  have ha : Ap uV k (vB R) p q := by
    have e1 : vB R = m * 2 ^ K := by rw [v_pow, hm, hK]
    have e2 : uV = 2 ^ (1075 - K) * 2 ^ K := by rw [uV_eq, ← Nat.pow_add]; congr 1; omega
    unfold Ap
    rw [e1, e2]
    have x1 := Nat.mul_le_mul_right (2 ^ K) n1
    have x2 := Nat.mul_le_mul_right (2 ^ K) n2
    have y1 : ∀ c : Nat, c * (m * 2 ^ K * q) = c * (m * q) * 2 ^ K := fun c => by
      rw [Nat.mul_assoc c (m * q), Nat.mul_assoc m q, Nat.mul_assoc m (2 ^ K) q, Nat.mul_comm q]
    have y2 : ∀ c : Nat, c * (p * (2 ^ (1075 - K) * 2 ^ K)) = c * (p * 2 ^ (1075 - K)) * 2 ^ K := fun c => by
      rw [Nat.mul_assoc c, Nat.mul_assoc p]
    rw [y1, y2, y2]
    exact ⟨x1, x2⟩
  exact ⟨rng_of hR hk hq hp g1 g2 ha, ha⟩
theorem c11_fp : Fp 1 4607632778762754458 11 10 :=
  const_fp (m := 4953959590107546) (K := 1023) (by decide) (by decide +kernel) (by decide +kernel) (by decide) (by decide) (by decide) (by decide) (by decide) (by decide) (by decide +kernel) (by decide +kernel)
theorem cnano_fp : Fp 1 4472406533629990549 1 1000000000 :=
  const_fp (m := 4835703278458517) (K := 993) (by decide) (by decide +kernel) (by decide +kernel) (by decide) (by decide) (by decide) (by decide) (by decide) (by decide) (by decide +kernel) (by decide +kernel)
end Go.Nm
end
section
namespace Go.Nm
open Go.Vg Ieee

theorem Fp.eq {k R p q p' q' : Nat} (h : Fp k R p q) (hp : p = p') (hq : q = q') : Fp k R p' q' := by subst hp hq; exact h
abbrev kF : Nat := 4652007308841189376
abbrev iF (n : Nat) : Nat := floatOfInt .f64 (n : Int)
theorem iF_isI {n : Nat} (h : n < 9007199254740992) : IsI (iF n) n := ofInt_isI n (by rw [Int.natAbs_natCast]; exact h)
theorem le60 {a b : Nat} (h : a ≤ 2 ^ 60) (hb : 0 < b) : a ≤ 2 ^ 60 * b := Nat.le_trans h (Nat.le_mul_of_pos_right _ hb)
/-- a whole number by a whole number of thousandths -/
theorem sec_fp {p : Nat} (h0 : 0 < p) (h1 : p ≤ 1000000) : ∃ s, floatBits .quo .f64 (iF p) kF = some s ∧ Fp 2 s p 1000 := by
  obtain ⟨s, h2, h3⟩ := Fp.div (k := 2) (intF_fp h0 (by omega)) kilo_fp (by decide) (by decide) (by omega) (by decide) (by omega) (by omega) (by decide) (by decide)
  exact ⟨s, h2, h3.eq (by omega) (by decide)⟩
structure Chain (n h B d s b a q0 z c x1 x2 f inc w f2 rt : Nat) : Prop where
  dE : floatBits .sub .f64 (iF (1000000 + (n - 1) * B)) (iF 1000000) = some d
  sE : floatBits .quo .f64 (iF ((n - 1) * (2 * h))) kF = some s
  bE : floatBits .quo .f64 (iF h) kF = some b
  aE : floatBits .quo .f64 s (iF (n - 1)) = some a
  d0E : fcmpB .gtr d 0 = some true
  v0E : fcmpB .geq (iF 1000000) 0 = some true
  q0E : floatBits .quo .f64 (iF 1000000) d = some q0
  zE : floatBits .mul .f64 s q0 = some z
  zbE : fcmpB .lss z b = some false
  cE : floatBits .mul .f64 a 4607632778762754458 = some c
  bcE : fcmpB .lss b c = some true
  x1E : floatBits .add .f64 s b = some x1
  x2E : floatBits .add .f64 x1 b = some x2
  fE : floatBits .quo .f64 x2 s = some f
  incE : floatBits .mul .f64 d f = some inc
  wE : floatBits .quo .f64 (iF (n * (2 * h))) kF = some w
  f2E : floatBits .quo .f64 f w = some f2
  rtE : floatBits .mul .f64 d f2 = some rt
  incF : Fp 9 inc (n * B) 1
  rtF : Fp 13 rt (B * 1000) (2 * h)
theorem zero_ok : (0 : Nat) < infB ∧ vB 0 = 0 := by
  refine ⟨by decide, ?_⟩
  rw [v_pow, show mB 0 = 0 by decide, Nat.zero_mul]
theorem chain {n h B : Nat} (hn : 2 ≤ n) (hn2 : n ≤ 31) (hh : 1 ≤ h) (hh2 : h ≤ 1000) (hB : 1 ≤ B) (hB2 : B ≤ 1000) : ∃ d s b a q0 z c x1 x2 f inc w f2 rt, Chain n h B d s b a q0 z c x1 x2 f inc w f2 rt := by
  obtain ⟨m, hm⟩ : ∃ m, m = n - 1 := ⟨_, rfl⟩
  have hm1 : 1 ≤ m := by omega
  have hm2 : m ≤ 30 := by omega
  have hmB1 : 1 ≤ m * B := Nat.mul_pos hm1 hB
  have hmB2 : m * B ≤ 30 * 1000 := Nat.mul_le_mul hm2 hB2
  have hmh1 : 1 ≤ m * (2 * h) := Nat.mul_pos hm1 (by omega)
  have hmh2 : m * (2 * h) ≤ 30 * 2000 := Nat.mul_le_mul hm2 (by omega)
  have hnh1 : 1 ≤ n * (2 * h) := Nat.mul_pos (by omega) (by omega)
  have hnh2 : n * (2 * h) ≤ 31 * 2000 := Nat.mul_le_mul hn2 (by omega)
  have hnh : n * (2 * h) = m * (2 * h) + h + h := by
    rw [show n = m + 1 by omega, Nat.add_mul, Nat.one_mul]; omega
  have hz := zero_ok
  obtain ⟨d, d1, d2, d3⟩ := sub_int (iF_isI (n := 1000000 + m * B) (by omega)) (iF_isI (n := 1000000) (by decide)) (by omega) (by omega)
  rw [show 1000000 + m * B - 1000000 = m * B by omega] at d2
  have dF : Fp 0 d (m * B) 1 := isI_fp d2 hmB1 (by omega) d3
  obtain ⟨s, s1, sF⟩ := sec_fp hmh1 (by omega)
  obtain ⟨b, b1, bF⟩ := sec_fp (p := h) hh (by omega)
  have iM : Fp 0 (iF m) m 1 := intF_fp hm1 (by omega)
  obtain ⟨a, a1, aF⟩ := Fp.div (k := 4) sF iM (by decide) (by decide) (by omega) (by omega) (le60 (by omega) (by omega)) (le60 (by omega) (by omega)) (by decide) (by decide)
  have aF : Fp 4 a (2 * h) 1000 := Fp.scale (c := m) hm1 (aF.eq (by rw [Nat.mul_one, Nat.mul_comm]) rfl)
  have i6 : Fp 0 (iF 1000000) 1000000 1 := intF_fp (by decide) (by decide)
  obtain ⟨q0, q01, q0F⟩ := Fp.div (k := 2) i6 dF (by decide) (by decide) (by decide) (by omega) (le60 (by decide) (by omega)) (le60 (by omega) (by decide)) (by decide) (by decide)
  have q0F : Fp 2 q0 1000000 (m * B) := q0F.eq (by decide) (by omega)
  have hq : 1000 * (m * B) ≤ 30000000 := by omega
  obtain ⟨z, z1, zF⟩ := Fp.mul (k := 5) sF q0F (by decide) (by omega) (by omega) (le60 (by omega) (by omega)) (le60 (by omega) (by omega)) (by decide) (by decide)
  have zF : Fp 5 z (2 * h * 1000000) (1000 * B) := Fp.scale (c := m) hm1 (zF.eq (by rw [Nat.mul_comm m, Nat.mul_right_comm]) (by rw [Nat.mul_comm m, Nat.mul_assoc]))
  have hbz : vB b < vB z := by
    refine Fp.lt bF zF (by decide) (by omega) ?_
    have h1 : h * (1000 * B) ≤ h * (1000 * 1000) := Nat.mul_le_mul_left _ (by omega)
    omega
  obtain ⟨c, c1, cF⟩ := Fp.mul (k := 6) aF c11_fp (by decide) (by omega) (by decide) (by omega) (by omega) (by decide) (by decide)
  have hbc : vB b < vB c := Fp.lt bF cF (by decide) (by decide) (by omega)
  obtain ⟨x1, x11, x1F⟩ := Fp.add sF bF (by decide) (by omega) (by decide) (by omega) (by omega)
  obtain ⟨x2, x21, x2F⟩ := Fp.add x1F (bF.weak (by decide : 2 ≤ 2 + 1)) (by decide) (by omega) (by decide) (by omega) (by omega)
  rw [← hnh] at x2F
  obtain ⟨f, f1, fF⟩ := Fp.div (k := 8) x2F sF (by decide) (by decide) (by omega) (by omega) (le60 (by omega) (by omega)) (le60 (by omega) (by omega)) (by decide) (by decide)
  have fF : Fp 8 f n m := Fp.scale (c := 1000 * (2 * h)) (by omega) (fF.eq (by rw [Nat.mul_assoc, Nat.mul_comm (2 * h)]) (by rw [Nat.mul_left_comm]))
  obtain ⟨inc, inc1, incF⟩ := Fp.mul (k := 9) dF fF (by decide) (Nat.mul_pos hmB1 (by omega)) (by omega) (le60 (Nat.le_trans (Nat.mul_le_mul hmB2 hn2) (by decide)) (by omega)) (le60 (by omega) (Nat.mul_pos hmB1 (by omega))) (by decide) (by decide)
  have incF : Fp 9 inc (n * B) 1 := Fp.scale (c := m) hm1 (incF.eq (by rw [Nat.mul_assoc, Nat.mul_comm m, Nat.mul_comm B]) rfl)
  obtain ⟨w, w1, wF⟩ := sec_fp hnh1 (by omega)
  have hmn : m * (n * (2 * h)) ≤ 30 * 62000 := Nat.mul_le_mul hm2 (by omega)
  have hmn1 : 0 < m * (n * (2 * h)) := Nat.mul_pos hm1 hnh1
  obtain ⟨f2, f21, f2F⟩ := Fp.div (k := 12) fF wF (by decide) (by decide) (by omega) hmn1 (le60 (by omega) hmn1) (le60 (by omega) (by omega)) (by decide) (by decide)
  have f2F : Fp 12 f2 1000 (m * (2 * h)) := Fp.scale (c := n) (by omega) (f2F.eq (Nat.mul_comm ..) (by rw [Nat.mul_assoc m, Nat.mul_comm n]))
  obtain ⟨rt, rt1, rtF⟩ := Fp.mul (k := 13) dF f2F (by decide) (by omega) (by omega) (le60 (by omega) (by omega)) (le60 (by omega) (by omega)) (by decide) (by decide)
  have rtF : Fp 13 rt (B * 1000) (2 * h) := Fp.scale (c := m) hm1 (rtF.eq (by rw [Nat.mul_comm m, Nat.mul_right_comm]) (by rw [Nat.one_mul, Nat.mul_comm]))
  refine ⟨d, s, b, a, q0, z, c, x1, x2, f, inc, w, f2, rt, ?_⟩
  rw [hm] at d1 s1 a1
  refine ⟨d1, s1, b1, a1, ?_, ?_, q01, z1, ?_, c1, ?_, x11, x21, f1, inc1, w1, f21, rt1, incF, rtF⟩
  · rw [gtr_pos dF.rng.lt hz.1, hz.2, (isI_val d2 hmB1 d3).2, decide_eq_true (Nat.mul_pos hmB1 uV_pos)]
  · exact geq_pos i6.rng.lt hz.1 (by rw [hz.2]; exact Nat.zero_le _)
  · rw [lss_pos zF.rng.lt bF.rng.lt, decide_eq_false (by omega)]
  · rw [lss_pos bF.rng.lt cF.rng.lt, decide_eq_true hbc]
end Go.Nm
end
section
namespace Go.Nm
open Go.Vg Ieee

theorem nearest_sgn (s : Bool) (m : Nat) (p : Int) : double.nearest s m p = double.nearest false m p + sgn s := by
  have hs : sgn false = 0 := rfl
  unfold Format.nearest
  split
  · rw [word_rung, word_rung, hs]
  · simp only
    rw [word_rung, word_rung, hs, Nat.add_zero]
    rfl
set_option exponentiation.threshold 4000 in
/-- the difference of two floats in range -/
theorem sub_rel {R Q : Nat} (hR : Rng R) (hQ : Rng Q) : ∃ (T : Nat) (s : Bool), floatBits .sub .f64 R Q = some (T + sgn s) ∧ T < infB ∧ 2 ^ 53 * vB T ≤ (2 ^ 53 + 1) * ((vB R - vB Q) + (vB Q - vB R)) := by
  obtain ⟨g, hg⟩ : ∃ g, g = min (kB R) (kB Q) := ⟨_, rfl⟩
  have e1 : mB R * 2 ^ (kB R - g) * 2 ^ (g + 1) = vB R := by rw [v_pow, Nat.mul_assoc, ← Nat.pow_add]; congr 2; omega
  have e2 : mB Q * 2 ^ (kB Q - g) * 2 ^ (g + 1) = vB Q := by rw [v_pow, Nat.mul_assoc, ← Nat.pow_add]; congr 2; omega
  obtain ⟨x, hx⟩ : ∃ x, x = mB R * 2 ^ (kB R - g) := ⟨_, rfl⟩
  obtain ⟨y, hy⟩ : ∃ y, y = mB Q * 2 ^ (kB Q - g) := ⟨_, rfl⟩
  rw [← hx] at e1
  rw [← hy] at e2
  have hmin : min ((kB R : Int) - 1074) ((kB Q : Int) - 1074) = (g : Int) - 1074 := by omega
  have hfl : floatBits .sub .f64 R Q = some (double.nearest (if (x : Int) - y = 0 then (false && true) else decide ((x : Int) - y < 0)) ((x : Int) - y).natAbs ((g : Int) - 1074)) := by
    show ((double.read R).sum (double.read Q).opposite).map double.write = _
    rw [read_pos hR.lt, read_pos hQ.lt]
    show (Datum.sum (.number false (mB R) ((kB R : Int) - 1074)) (.number true (mB Q) ((kB Q : Int) - 1074))).map double.write = _
    unfold Datum.sum
    simp only
    have hst : Ieee.signed true (mB Q) (kB Q - g) = -((y : Nat) : Int) := by rw [signed_sg, ← hy]; unfold sg; simp
    rw [hmin, show ((kB R : Int) - 1074 - ((g : Int) - 1074)).toNat = kB R - g by omega, show ((kB Q : Int) - 1074 - ((g : Int) - 1074)).toNat = kB Q - g by omega, signed_pos, hst, ← hx, show (x : Int) + -(y : Int) = (x : Int) - y by omega]
    rfl
  by_cases hxy : x = y
  · refine ⟨0, false, ?_, by decide, ?_⟩
    · rw [hfl, hxy, if_pos (by omega), show ((y : Int) - y).natAbs = 0 by omega]
      have : double.nearest (false && true) 0 ((g : Int) - 1074) = double.word false 0 := by unfold Format.nearest; rw [if_pos rfl]; rfl
      rw [this, word_rung]
    · rw [zero_ok.2, Nat.mul_zero]; exact Nat.zero_le _
  · obtain ⟨mag, hmag⟩ : ∃ mag, mag = ((x : Int) - y).natAbs := ⟨_, rfl⟩
    have hm : mag = (x - y) + (y - x) := by omega
    have hm0 : 0 < mag := by omega
    have hd : mag * 2 ^ (g + 1) = (vB R - vB Q) + (vB Q - vB R) := by
      rw [hm, Nat.add_mul, Nat.sub_mul, Nat.sub_mul, e1, e2]
    -- its range
    have hk : ∀ {Z : Nat}, Rng Z → 922 ≤ kB Z := fun {Z} hZ => by
      refine Decidable.byContradiction fun h => ?_
      have h1 := hZ.lo
      rw [v_pow] at h1
      have h2 := (bits_of Z).2.1
      have h3 : mB Z * 2 ^ (kB Z + 1) ≤ (2 ^ 53 - 1) * 2 ^ 922 := Nat.mul_le_mul (by omega) (Nat.pow_le_pow_right (by decide) (by omega))
      have h4 : (2 ^ 53 - 1) * 2 ^ 922 < 2 ^ 53 * 2 ^ 922 := Nat.mul_lt_mul_of_pos_right (by decide) (Nat.two_pow_pos _)
      rw [← Nat.pow_add] at h4
      omega
    have hg1 : 922 ≤ g := by have := hk hR; have := hk hQ; omega
    obtain ⟨l1, l2⟩ := log2_bd hm0
    have hup : mag.log2 + (g + 1) ≤ 1176 := by
      have h1 : 2 ^ (mag.log2 + (g + 1)) ≤ mag * 2 ^ (g + 1) := by rw [Nat.pow_add]; exact Nat.mul_le_mul_right _ l1
      have h2 : mag * 2 ^ (g + 1) ≤ 2 ^ 1176 := by
        rw [hd, show 1176 = 1175 + 1 from rfl, Nat.pow_succ]
        have := hR.hi
        have := hQ.hi
        omega
      exact pow_le h1 h2
    obtain ⟨T, t1, _, t3, t4⟩ := near_rel (place := (g : Int) - 1074) hm0 (by omega) (by omega)
    refine ⟨T, decide ((x : Int) - y < 0), ?_, t3, ?_⟩
    · rw [hfl, if_neg (by omega), nearest_sgn, ← hmag, t1]
    · have := (t4 0 (g + 1) (by omega)).1
      rw [Nat.pow_zero, Nat.mul_one, hd] at this
      exact this
/-- a thousand-millionth of what is wanted is more than they differ by -/
theorem close {k X W G N : Nat} (hk : k ≤ 20) (hX : Fp k X N 1) (hW : vB W = N * uV) (hWr : Rng W) (hG : Fp 2 G N 1000000000) :
    ∃ (T : Nat) (s : Bool), floatBits .sub .f64 X W = some (T + sgn s) ∧ T < infB ∧ fcmpB .leq T G = some true := by
  obtain ⟨T, s, t1, t2, t3⟩ := sub_rel hX.rng hWr
  refine ⟨T, s, t1, t2, leq_pos t2 hG.rng.lt ?_⟩
  obtain ⟨a1, a2⟩ := hX.ap
  obtain ⟨_, b2⟩ := hG.ap
  rw [Nat.mul_one] at a1 a2
  rw [hW] at t3
  obtain ⟨M, hM⟩ : ∃ M, M = N * uV := ⟨_, rfl⟩
  rw [← hM] at a1 a2 b2 t3
  have kM : k * M ≤ 20 * M := Nat.mul_le_mul_right _ hk
  rw [Nat.add_mul] at a1
  rw [Nat.sub_mul] at a2
  obtain ⟨L, hL⟩ : ∃ L, L = k * M := ⟨_, rfl⟩
  rw [← hL] at a1 a2 kM
  omega
theorem want_ok {N : Nat} (h0 : 0 < N) (h1 : N ≤ 1000000) : vB (iF N) = N * uV ∧ Fp 0 (iF N) N 1 ∧ ∃ G, floatBits .mul .f64 4472406533629990549 (iF N) = some G ∧ Fp 2 G N 1000000000 := by
  have hF : Fp 0 (iF N) N 1 := intF_fp h0 (by omega)
  obtain ⟨G, g1, g2⟩ := Fp.mul (k := 2) cnano_fp hF (by decide) (by omega) (by decide) (by omega) (by omega) (by decide) (by decide)
  exact ⟨(isI_val (int_fp h0 (by omega)).1 h0 (int_fp h0 (by omega)).2).2, hF, G, g1, g2.eq (by omega) (by decide)⟩
end Go.Nm
end
section
open Go Go.Vg Go.RowKit Go.Proofs Go.Proofs.Ytbnckhfkkoncbaa
namespace Go.Proofs.Ytbnckhfkkoncbaa
open Go.Nm (iF kF)

/-- the floats of a growth -/
structure Gr (t0 te to : Int) (v0 ve m : Nat) (d s b a q0 z c x1 x2 f inc w f2 rt : Nat) : Prop where
  dE : floatBits .sub .f64 ve v0 = some d
  sE : ∃ g, floatOfInt .f64 (te - t0) = g ∧ floatBits .quo .f64 g 4652007308841189376 = some s
  bE : ∃ g, floatOfInt .f64 (t0 - 0) = g ∧ floatBits .quo .f64 g 4652007308841189376 = some b
  eE : ∃ g, floatOfInt .f64 (to - te) = g ∧ floatBits .quo .f64 g 4652007308841189376 = some b
  aE : ∃ g, floatOfInt .f64 (m : Int) = g ∧ floatBits .quo .f64 s g = some a
  d0E : fcmpB .gtr d 0 = some true
  v0E : fcmpB .geq v0 0 = some true
  q0E : floatBits .quo .f64 v0 d = some q0
  zE : floatBits .mul .f64 s q0 = some z
  zbE : fcmpB .lss z b = some false
  cE : floatBits .mul .f64 a 4607632778762754458 = some c
  bcE : fcmpB .lss b c = some true
  x1E : floatBits .add .f64 s b = some x1
  x2E : floatBits .add .f64 x1 b = some x2
  fE : floatBits .quo .f64 x2 s = some f
  incE : floatBits .mul .f64 d f = some inc
  wE : ∃ g, floatOfInt .f64 (to - 0) = g ∧ floatBits .quo .f64 g 4652007308841189376 = some w
  f2E : floatBits .quo .f64 f w = some f2
  rtE : floatBits .mul .f64 d f2 = some rt
set_option maxHeartbeats 4000000 in
theorem grownN_ok (nm : List UInt8) (rate : Bool) (hnd : (!decide (nm = [100, 101, 108, 116, 97])) = true) (hrt : decide (nm = [114, 97, 116, 101]) = rate) (v : Value) (xs : List Smp) (n : Nat) (w : World) (hv : Smps w v xs) (hlen0 : xs.length = n) (hn : 2 ≤ n) (hn2 : n ≤ 1000)
    (t0 te to : Int) (v0 ve : Nat) (h0 : xs[0]? = some (t0, v0)) (he : xs[n - 1]? = some (te, ve)) (hrise : ∀ i x y, 1 ≤ i → xs[i]? = some x → xs[i - 1]? = some y → fcmpB .lss x.2 y.2 = some false)
    (ht0 : 0 ≤ t0 ∧ t0 ≤ 1000000) (hte : 0 ≤ te ∧ te ≤ 1000000) (hto : 0 ≤ to ∧ to ≤ 1000000) {d s b a q0 z c x1 x2 f inc wf f2 rt : Nat} (hG : Gr t0 te to v0 ve (n - 1) d s b a q0 z c x1 x2 f inc wf f2 rt) :
    Ret Try.prog 42 ⟨[S nm, v, .int .i64 0, .int .i64 to]⟩ w fun r w' => r = .tuple ⟨[Fl (if rate then rt else inc), .bool true]⟩ ∧ Ext w w' := by
  have hg0 : (xs.map smpC)[0]? = some (smpC (t0, v0)) := by simp [h0]
  have hg1 : (xs.map smpC)[n - 1]? = some (smpC (te, ve)) := by simp [he]
  have hlen : (xs.map smpC).length = n := by rw [List.length_map, hlen0]
  obtain ⟨g1, g11, g12⟩ := hG.sE
  obtain ⟨g2, g21, g22⟩ := hG.bE
  obtain ⟨g3, g31, g32⟩ := hG.eE
  obtain ⟨g4, g41, g42⟩ := hG.aE
  obtain ⟨g5, g51, g52⟩ := hG.wE
  refine ret_of_G Try.func42 rfl Try.ntmps42 rfl ?_
  simp only [argEnv]
  refine rn ?_
  rw [hlen]
  refine rn ?_
  first | refine G.condD rfl (fun hc => ?_) (fun hc => ?_) | refine G.condN rfl (fun hc => ?_) (fun hc => ?_) | refine G.cond rfl (fun hc => ?_) (fun hc => ?_)
  · omega
  refine rn ?_
  refine G.regionG (Ext w) mixed (Ext.drew w) ?_
  refine GD.steps ([(0, true), (1, true), (2, true), (3, true), (4, true), (5, true), (6, true), (7, true)]) (by kernel_rfl) (by kernel_rfl) rfl ?_
  refine rd ?_
  refine dIa tb 0 ?_ (hj := fun _ => ⟨rfl, by rw [hlen]; omega⟩)
  refine rd ?_
  refine dAd tb (r := ((n - 1 : Nat) : Int)) ?_ (hp := (wrap_i64 (n := ((n : Nat) : Int) - 1) (by omega) (by omega)).trans (by omega))
  refine dIa tb (n - 1) ?_ (hj := fun _ => ⟨rfl, by rw [hlen]; omega⟩)
  refine rd ?_
  refine GM.nil ?_
  refine GD.join [0, 1, 2, 3, 4, 5, 6, 7, 8, 9] (fun x : Nat × Nat => [(0, none, S nm), (1, none, v), (2, none, .int .i64 0), (3, none, .int .i64 to), (10, none, .int .i64 n), (31, none, .agg ⟨smpC (t0, v0)⟩), (36, none, .agg ⟨smpC (te, ve)⟩), (11, none, ptr x.1), (12, none, ptr x.2)]) (fun x w' => Ext w w' ∧ w.heap.size ≤ x.1 ∧ w.heap.size ≤ x.2 ∧ x.1 ≠ x.2 ∧ Bx w' x.1 [.int .i64 0, Fl 0] ∧ Bx w' x.2 [.int .i64 0, Fl 0]) ?_ fun meet => ?_
  rotate_left
  · refine GD.two (8) (9) (by kernel_rfl) (by kernel_rfl) rfl rfl ?_ ?_
    · refine (Step.alloc tb rfl rfl rfl rfl ?_)
      intro w1 hb1 hs1 hx1
      have hx1 := (Ext.drew w).trans hx1
      refine ⟨hx1, ?_⟩
      refine GD.steps ([(9, false)]) (by kernel_rfl) (by kernel_rfl) rfl ?_
      refine GM.eff (Step.alloc tb rfl rfl rfl rfl ?_)
      intro w2 hb2 hs2 hx2
      have hz2 := hx1.size
      have hx02 := hx1.trans hx2
      refine ⟨hx02, ?_⟩
      refine GM.nil ?_
      exact meet (_, _) _ _ _ rfl rfl (by repeat (first | exact Sub.nil _ | refine Sub.cons rfl ?_)) ⟨hx02, by simp only; exact (Ext.drew w).size, by simp only; exact hz2, Nat.ne_of_lt (show w.drew.heap.size < w1.heap.size by omega), hb1.to hx2, hb2⟩
    · refine (Step.alloc tb rfl rfl rfl rfl ?_)
      intro w1 hb1 hs1 hx1
      have hx1 := (Ext.drew w).trans hx1
      refine ⟨hx1, ?_⟩
      refine GD.steps ([(8, false)]) (by kernel_rfl) (by kernel_rfl) rfl ?_
      refine GM.eff (Step.alloc tb rfl rfl rfl rfl ?_)
      intro w2 hb2 hs2 hx2
      have hz2 := hx1.size
      have hx02 := hx1.trans hx2
      refine ⟨hx02, ?_⟩
      refine GM.nil ?_
      exact meet (_, _) _ _ _ rfl rfl (by repeat (first | exact Sub.nil _ | refine Sub.cons rfl ?_)) ⟨hx02, by simp only; exact hz2, by simp only; exact (Ext.drew w).size, Nat.ne_of_gt (show w.drew.heap.size < w1.heap.size by omega), hb2, hb1.to hx2⟩
  rintro ⟨b1, b2⟩ w1 ⟨hx1, hz1, hz2, hne, hb1, hb2⟩
  simp only at hz1 hz2 hne hb1 hb2 ⊢
  refine GD.steps ([(10, false), (11, false)]) (by kernel_rfl) (by kernel_rfl) rfl ?_
  refine GM.eff (Step.store0 tb rfl (Op1.of rfl (by first | exact fun _ => rfl | exact fun h => h | exact fun h => bL h | exact fun h => bL (bL h) | exact fun h => bL (bL (bL h)))) (Op1.of rfl (by first | exact fun _ => rfl | exact fun h => h | exact fun h => bL h | exact fun h => bL (bL h) | exact fun h => bL (bL (bL h)))) rfl (rfl) rfl (by simp [Value.oneCell', smpC]) hb1 rfl ?_)
  intro w2 hb1 hw1
  have hx2 : Ext w w2 := Below.wr hx1 hw1 hz1
  have hb2 := hb2.wr hw1 hne.symm
  refine ⟨hx2, ?_⟩
  refine GM.eff (Step.store0 tb rfl (Op1.of rfl (by first | exact fun _ => rfl | exact fun h => h | exact fun h => bL h | exact fun h => bL (bL h) | exact fun h => bL (bL (bL h)))) (Op1.of rfl (by first | exact fun _ => rfl | exact fun h => h | exact fun h => bL h | exact fun h => bL (bL h) | exact fun h => bL (bL (bL h)))) rfl (rfl) rfl (by simp [Value.oneCell', smpC]) hb2 rfl ?_)
  intro w3 hb2 hw2
  have hx3 : Ext w w3 := Below.wr hx2 hw2 hz2
  have hb1 := hb1.wr hw2 hne
  refine ⟨hx3, ?_⟩
  refine GM.nil ?_
  refine GD.done (by kernel_rfl) ?_
  clear hw1 hw2 hx1 hx2
  have hb1 : Bx w3 b1 [.int .i64 t0, Fl v0] := hb1
  have hb2 : Bx w3 b2 [.int .i64 te, Fl ve] := hb2
  clear hz1 hz2 hne
  refine rn ?_
  rw [hnd]
  refine rn ?_
  refine GL.cons (Step.flt (r := d) rfl (Op1.of rfl (by first | exact fun _ => rfl | exact fun h => h | exact fun h => bL h | exact fun h => bL (bL h) | exact fun h => bL (bL (bL h)))) (Op1.of rfl (by first | exact fun _ => rfl | exact fun h => h | exact fun h => bL h | exact fun h => bL (bL h) | exact fun h => bL (bL (bL h)))) hG.dE rfl ?_)
  refine rn ?_
  refine (G.loop (fun i : Nat => [(0, none, S nm), (1, none, v), (2, none, .int .i64 0), (3, none, .int .i64 to), (10, none, .int .i64 n), (11, none, ptr b1), (12, none, ptr b2), (13, none, .bool true), (14, none, Fl d), (15, none, .int .i64 i)]) (fun i W => Ext w3 W ∧ 1 ≤ i ∧ i ≤ n) (fun i => n - i) 1 (by repeat (first | exact Sub.nil _ | refine Sub.cons rfl ?_)) ⟨Ext.refl _, Nat.le_refl _, by omega⟩ ?_)
  rintro i W ⟨hx, hi1, hin⟩
  refine rn ?_
  by_cases hlt : i < n
  · rw [decide_eq_true (show ((i : Nat) : Int) < n by omega)]
    have hvW := hv.to (hx3.trans hx)
    obtain ⟨xa, hxa⟩ : ∃ x, xs[i]? = some x := ⟨_, List.getElem?_eq_getElem (by omega)⟩
    obtain ⟨ya, hya⟩ : ∃ y, xs[i - 1]? = some y := ⟨_, List.getElem?_eq_getElem (by omega)⟩
    have hri := hrise i xa ya hi1 hxa hya
    have hga : (xs.map smpC)[i]? = some [.int .i64 xa.1, Fl xa.2] := by simp [hxa, smpC]
    have hgb : (xs.map smpC)[i - 1]? = some [.int .i64 ya.1, Fl ya.2] := by simp [hya, smpC]
    refine rn ?_
    refine G.regionM [(0, true), (1, true), (2, true), (3, true), (4, true), (5, true), (6, true), (7, true), (8, true), (9, true), (10, true), (11, true)] (Ext W) (by kernel_rfl) (by kernel_rfl) rfl mixed (Ext.drew W) rfl ?_
    refine rd ?_
    refine dIa tb i ?_ (hj := fun _ => ⟨rfl, by rw [hlen]; omega⟩)
    refine rd ?_
    refine dAd tb (r := ((i - 1 : Nat) : Int)) ?_ (hp := (wrap_i64 (n := ((i : Nat) : Int) - 1) (by omega) (by omega)).trans (by omega))
    refine dIa tb (i - 1) ?_ (hj := fun _ => ⟨rfl, by rw [hlen]; omega⟩)
    refine rd ?_
    refine GM.read (fun w' hS => Step.fcmp (r := false) rfl (Op1.of rfl (by first | exact fun _ => rfl | exact fun h => h | exact fun h => bL h | exact fun h => bL (bL h) | exact fun h => bL (bL (bL h)))) (Op1.of rfl (by first | exact fun _ => rfl | exact fun h => h | exact fun h => bL h | exact fun h => bL (bL h) | exact fun h => bL (bL (bL h)))) hri rfl ⟨rfl, rfl⟩) rfl rfl ?_
    refine rd ?_
    refine GM.nil ?_
    refine rn ?_
    refine sAd tb ?_
    refine rn ?_
    exact G.lp (x := i) (i + 1) (by repeat (first | exact Sub.nil _ | refine Sub.cons rfl ?_)) ⟨hx.drew', by omega, by omega⟩ (by omega)
  · rw [decide_eq_false (show ¬ ((i : Nat) : Int) < n by omega)]
    have hb1 := hb1.to hx
    have hb2 := hb2.to hx
    have hx0 := hx3.trans hx
    refine rn ?_
    refine sCall c86 (seconds_ok t0 te g1 s W ht0 hte g11 g12) ?_
    rintro _ w4 ⟨rfl, hw4⟩
    obtain rfl : W = w4 := hw4.symm
    refine rn ?_
    refine G.regionM [(0, true), (1, true), (2, true), (3, true), (4, true), (5, true), (6, true), (7, true), (8, true), (9, true)] (Ext W) (by kernel_rfl) (by kernel_rfl) rfl mixed (Ext.drew W) rfl ?_
    refine rd ?_
    refine dCallq c86 (fun w' _ _ => seconds_ok 0 t0 g2 b w' (by omega) ht0 g21 g22) ?_
    refine rd ?_
    refine dCallq c86 (fun w' _ _ => seconds_ok te to g3 b w' hte hto g31 g32) ?_
    refine rd ?_
    refine GM.nil ?_
    have hx4 := hx0.drew'
    have hb1 := hb1.drew
    have hb2 := hb2.drew
    generalize W.drew = W4 at hx4 hb1 hb2 ⊢
    refine rn ?_
    refine sAd tb (r := ((n - 1 : Nat) : Int)) ?_ (hp := (wrap_i64 (n := ((n : Nat) : Int) - 1) (by omega) (by omega)).trans (by omega))
    refine GL.cons (Step.i2f (r := g4) tb rfl (Op1.of rfl (by first | exact fun _ => rfl | exact fun h => h | exact fun h => bL h | exact fun h => bL (bL h) | exact fun h => bL (bL (bL h)))) rfl rfl g41 rfl ?_)
    refine GL.cons (Step.flt (r := a) rfl (Op1.of rfl (by first | exact fun _ => rfl | exact fun h => h | exact fun h => bL h | exact fun h => bL (bL h) | exact fun h => bL (bL (bL h)))) (Op1.of rfl (by first | exact fun _ => rfl | exact fun h => h | exact fun h => bL h | exact fun h => bL (bL h) | exact fun h => bL (bL (bL h)))) g42 rfl ?_)
    refine rn ?_
    refine GL.cons (Step.fcmp (r := true) rfl (Op1.of rfl (by first | exact fun _ => rfl | exact fun h => h | exact fun h => bL h | exact fun h => bL (bL h) | exact fun h => bL (bL (bL h)))) (Op1.of rfl (by first | exact fun _ => rfl | exact fun h => h | exact fun h => bL h | exact fun h => bL (bL h) | exact fun h => bL (bL (bL h)))) hG.d0E rfl ?_)
    refine rn ?_
    refine GL.cons (Step.fcmp (r := true) rfl (Op1.of rfl (by first | exact fun _ => rfl | exact fun h => h | exact fun h => bL h | exact fun h => bL (bL h) | exact fun h => bL (bL (bL h)))) (Op1.of rfl (by first | exact fun _ => rfl | exact fun h => h | exact fun h => bL h | exact fun h => bL (bL h) | exact fun h => bL (bL (bL h)))) hG.v0E rfl ?_)
    refine rn ?_
    refine GL.cons (Step.flt (r := q0) rfl (Op1.of rfl (by first | exact fun _ => rfl | exact fun h => h | exact fun h => bL h | exact fun h => bL (bL h) | exact fun h => bL (bL (bL h)))) (Op1.of rfl (by first | exact fun _ => rfl | exact fun h => h | exact fun h => bL h | exact fun h => bL (bL h) | exact fun h => bL (bL (bL h)))) hG.q0E rfl ?_)
    refine GL.cons (Step.flt (r := z) rfl (Op1.of rfl (by first | exact fun _ => rfl | exact fun h => h | exact fun h => bL h | exact fun h => bL (bL h) | exact fun h => bL (bL (bL h)))) (Op1.of rfl (by first | exact fun _ => rfl | exact fun h => h | exact fun h => bL h | exact fun h => bL (bL h) | exact fun h => bL (bL (bL h)))) hG.zE rfl ?_)
    refine rn ?_
    refine GL.cons (Step.fcmp (r := false) rfl (Op1.of rfl (by first | exact fun _ => rfl | exact fun h => h | exact fun h => bL h | exact fun h => bL (bL h) | exact fun h => bL (bL (bL h)))) (Op1.of rfl (by first | exact fun _ => rfl | exact fun h => h | exact fun h => bL h | exact fun h => bL (bL h) | exact fun h => bL (bL (bL h)))) hG.zbE rfl ?_)
    refine rn ?_
    refine (G.loop (fun x : Nat × Nat => [(0, none, S nm), (2, none, .int .i64 0), (3, none, .int .i64 to), (14, none, Fl d), (16, none, Fl s), (19, none, Fl a), (21, none, Fl x.2), (113, none, .agg ⟨[Fl b, Fl b]⟩), (114, none, .int .i64 x.1)]) (fun x W => Ext w W ∧ (x = (0, s) ∨ x = (1, x1) ∨ x = (2, x2))) (fun x => 2 - x.1) (0, s) (by repeat (first | exact Sub.nil _ | refine Sub.cons rfl ?_)) ⟨hx4, .inl rfl⟩ ?_)
    rintro x W5 ⟨hx5, rfl | rfl | rfl⟩
    · refine rn ?_
      refine sIx tb (n := 2) 0 (fun _ => ⟨rfl, by decide, rfl⟩) ?_
      refine rn ?_
      refine GL.cons (Step.flt (r := c) rfl (Op1.of rfl (by first | exact fun _ => rfl | exact fun h => h | exact fun h => bL h | exact fun h => bL (bL h) | exact fun h => bL (bL (bL h)))) (Op1.of rfl (by first | exact fun _ => rfl | exact fun h => h | exact fun h => bL h | exact fun h => bL (bL h) | exact fun h => bL (bL (bL h)))) hG.cE rfl ?_)
      refine GL.cons (Step.fcmp (r := true) rfl (Op1.of rfl (by first | exact fun _ => rfl | exact fun h => h | exact fun h => bL h | exact fun h => bL (bL h) | exact fun h => bL (bL (bL h)))) (Op1.of rfl (by first | exact fun _ => rfl | exact fun h => h | exact fun h => bL h | exact fun h => bL (bL h) | exact fun h => bL (bL (bL h)))) hG.bcE rfl ?_)
      refine rn ?_
      refine GL.cons (Step.flt (r := x1) rfl (Op1.of rfl (by first | exact fun _ => rfl | exact fun h => h | exact fun h => bL h | exact fun h => bL (bL h) | exact fun h => bL (bL (bL h)))) (Op1.of rfl (by first | exact fun _ => rfl | exact fun h => h | exact fun h => bL h | exact fun h => bL (bL h) | exact fun h => bL (bL (bL h)))) hG.x1E rfl ?_)
      refine rn ?_
      refine sAd tb ?_
      refine rn ?_
      exact G.lp (x := (0, s)) (1, x1) (by repeat (first | exact Sub.nil _ | refine Sub.cons rfl ?_)) ⟨hx5, .inr (.inl rfl)⟩ (by simp only; omega)
    · refine rn ?_
      refine sIx tb (n := 2) 1 (fun _ => ⟨rfl, by decide, rfl⟩) ?_
      refine rn ?_
      refine GL.cons (Step.flt (r := c) rfl (Op1.of rfl (by first | exact fun _ => rfl | exact fun h => h | exact fun h => bL h | exact fun h => bL (bL h) | exact fun h => bL (bL (bL h)))) (Op1.of rfl (by first | exact fun _ => rfl | exact fun h => h | exact fun h => bL h | exact fun h => bL (bL h) | exact fun h => bL (bL (bL h)))) hG.cE rfl ?_)
      refine GL.cons (Step.fcmp (r := true) rfl (Op1.of rfl (by first | exact fun _ => rfl | exact fun h => h | exact fun h => bL h | exact fun h => bL (bL h) | exact fun h => bL (bL (bL h)))) (Op1.of rfl (by first | exact fun _ => rfl | exact fun h => h | exact fun h => bL h | exact fun h => bL (bL h) | exact fun h => bL (bL (bL h)))) hG.bcE rfl ?_)
      refine rn ?_
      refine GL.cons (Step.flt (r := x2) rfl (Op1.of rfl (by first | exact fun _ => rfl | exact fun h => h | exact fun h => bL h | exact fun h => bL (bL h) | exact fun h => bL (bL (bL h)))) (Op1.of rfl (by first | exact fun _ => rfl | exact fun h => h | exact fun h => bL h | exact fun h => bL (bL h) | exact fun h => bL (bL (bL h)))) hG.x2E rfl ?_)
      refine rn ?_
      refine sAd tb ?_
      refine rn ?_
      exact G.lp (x := (1, x1)) (2, x2) (by repeat (first | exact Sub.nil _ | refine Sub.cons rfl ?_)) ⟨hx5, .inr (.inr rfl)⟩ (by simp only; omega)
    · refine rn ?_
      refine GL.cons (Step.flt (r := f) rfl (Op1.of rfl (by first | exact fun _ => rfl | exact fun h => h | exact fun h => bL h | exact fun h => bL (bL h) | exact fun h => bL (bL (bL h)))) (Op1.of rfl (by first | exact fun _ => rfl | exact fun h => h | exact fun h => bL h | exact fun h => bL (bL h) | exact fun h => bL (bL (bL h)))) hG.fE rfl ?_)
      refine rn ?_
      rw [hrt]
      cases rate
      · refine rn ?_
        refine GL.cons (Step.flt (r := inc) rfl (Op1.of rfl (by first | exact fun _ => rfl | exact fun h => h | exact fun h => bL h | exact fun h => bL (bL h) | exact fun h => bL (bL (bL h)))) (Op1.of rfl (by first | exact fun _ => rfl | exact fun h => h | exact fun h => bL h | exact fun h => bL (bL h) | exact fun h => bL (bL (bL h)))) hG.incE rfl ?_)
        refine rn ?_
        refine G.ret2 rfl rfl rfl rfl rfl ?_
        exact ⟨rfl, hx5⟩
      · refine rn ?_
        refine sCall c86 (seconds_ok 0 to g5 wf W5 (by omega) hto g51 g52) ?_
        rintro _ w6 ⟨rfl, hw6⟩
        obtain rfl : W5 = w6 := hw6.symm
        refine rn ?_
        refine GL.cons (Step.flt (r := f2) rfl (Op1.of rfl (by first | exact fun _ => rfl | exact fun h => h | exact fun h => bL h | exact fun h => bL (bL h) | exact fun h => bL (bL (bL h)))) (Op1.of rfl (by first | exact fun _ => rfl | exact fun h => h | exact fun h => bL h | exact fun h => bL (bL h) | exact fun h => bL (bL (bL h)))) hG.f2E rfl ?_)
        refine rn ?_
        refine GL.cons (Step.flt (r := rt) rfl (Op1.of rfl (by first | exact fun _ => rfl | exact fun h => h | exact fun h => bL h | exact fun h => bL (bL h) | exact fun h => bL (bL (bL h)))) (Op1.of rfl (by first | exact fun _ => rfl | exact fun h => h | exact fun h => bL h | exact fun h => bL (bL h) | exact fun h => bL (bL (bL h)))) hG.rtE rfl ?_)
        refine rn ?_
        refine G.ret2 rfl rfl rfl rfl rfl ?_
        exact ⟨rfl, hx5⟩
end Go.Proofs.Ytbnckhfkkoncbaa
end
section
open Go Go.Vg Go.RowKit Go.Proofs Go.Proofs.Ytbnckhfkkoncbaa
namespace Go.Proofs.Ytbnckhfkkoncbaa

theorem less2_ok (a b : Nat) (w : World) (h : fcmpB .lss b a = some false) : Ret Try.prog 40 ⟨[Fl a, Fl b]⟩ w fun v w' => v = .bool false ∧ Ext w w' := by
  refine ret_of_G Try.func40 rfl Try.ntmps40 rfl ?_
  simp only [argEnv]
  refine rn ?_
  refine GL.cons (Step.fcmp (r := false) rfl (Op1.of rfl (by first | exact fun _ => rfl | exact fun h => h | exact fun h => bL h | exact fun h => bL (bL h) | exact fun h => bL (bL (bL h)))) (Op1.of rfl (by first | exact fun _ => rfl | exact fun h => h | exact fun h => bL h | exact fun h => bL (bL h) | exact fun h => bL (bL (bL h)))) h rfl ?_)
  refine rn ?_
  refine G.ret1 rfl rfl rfl rfl ?_
  exact ⟨rfl, Ext.refl _⟩
set_option maxHeartbeats 4000000 in
theorem turns_ok (v : Value) (xs : List Smp) (n : Nat) (w : World) (hv : Smps w v xs) (hlen0 : xs.length = n) (hn : 1 ≤ n) (hn2 : n ≤ 1000)
    (hrise : ∀ i x y, 1 ≤ i → xs[i]? = some x → xs[i - 1]? = some y → fcmpB .lss x.2 y.2 = some false) :
    Ret Try.prog 38 ⟨[v, .func (.func 40) #[] #[]]⟩ w fun r w' => r = Fl 0 ∧ Ext w w' := by
  have hlen : (xs.map smpC).length = n := by rw [List.length_map, hlen0]
  have hi0 : floatOfInt .f64 0 = 0 := by kernel_rfl
  refine ret_of_G Try.func38 rfl Try.ntmps38 rfl ?_
  simp only [argEnv]
  refine rn ?_
  refine (G.loop (fun i : Nat => [(0, none, v), (1, none, .func (.func 40) #[] #[]), (5, none, .int .i64 0), (6, none, .int .i64 i)]) (fun i W => Ext w W ∧ 1 ≤ i ∧ i ≤ n) (fun i => n - i) 1 (by repeat (first | exact Sub.nil _ | refine Sub.cons rfl ?_)) ⟨Ext.refl _, Nat.le_refl _, hn⟩ ?_)
  rintro i W ⟨hx, hi1, hin⟩
  have hvW := hv.to hx
  refine rn ?_
  rw [hlen]
  refine rn ?_
  first | refine G.condD rfl (fun hc => ?_) (fun hc => ?_) | refine G.condN rfl (fun hc => ?_) (fun hc => ?_) | refine G.cond rfl (fun hc => ?_) (fun hc => ?_)
  · have hlt : i < n := by omega
    obtain ⟨xa, hxa⟩ : ∃ x, xs[i]? = some x := ⟨_, List.getElem?_eq_getElem (by omega)⟩
    obtain ⟨ya, hya⟩ : ∃ y, xs[i - 1]? = some y := ⟨_, List.getElem?_eq_getElem (by omega)⟩
    have hri := hrise i xa ya hi1 hxa hya
    have hga : (xs.map smpC)[i]? = some [.int .i64 xa.1, Fl xa.2] := by simp [hxa, smpC]
    have hgb : (xs.map smpC)[i - 1]? = some [.int .i64 ya.1, Fl ya.2] := by simp [hya, smpC]
    refine rn ?_
    refine G.regionM [(0, true), (1, true), (2, true), (3, true), (4, true), (5, true), (6, true), (7, true), (8, true), (9, true), (10, true), (11, true), (12, false)] (Ext W) (by kernel_rfl) (by kernel_rfl) rfl mixed (Ext.drew W) rfl ?_
    refine rd ?_
    refine dAd tb (r := ((i - 1 : Nat) : Int)) ?_ (hp := (wrap_i64 (n := ((i : Nat) : Int) - 1) (by omega) (by omega)).trans (by omega))
    refine dIa tb (i - 1) ?_ (hj := fun _ => ⟨rfl, by rw [hlen]; omega⟩)
    refine rd ?_
    refine dIa tb i ?_ (hj := fun _ => ⟨rfl, by rw [hlen]; omega⟩)
    refine rd ?_
    refine GM.eff (Step.callXC rfl (Op1.of rfl (by first | exact fun _ => rfl | exact fun h => h | exact fun h => bL h | exact fun h => bL (bL h) | exact fun h => bL (bL (bL h)))) rfl (by repeat (first | exact OpL.nil | refine OpL.cons (Op1.of rfl (by first | exact fun _ => rfl | exact fun h => h | exact fun h => bL h | exact fun h => bL (bL h) | exact fun h => bL (bL (bL h)))) ?_)) c40 rfl (fun _ => less2_ok ya.2 xa.2 _ hri) ?_ (vs := [Fl ya.2, Fl xa.2]))
    intro w1 hx1
    have hx1 := (Ext.drew W).trans hx1
    refine ⟨hx1, ?_⟩
    refine rd ?_
    refine GM.nil ?_
    refine rn ?_
    refine sAd tb ?_
    refine rn ?_
    exact G.lp (x := i) (i + 1) (by repeat (first | exact Sub.nil _ | refine Sub.cons rfl ?_)) ⟨hx.trans hx1, by omega, by omega⟩ (by omega)
  · refine rn ?_
    refine GL.cons (Step.i2f (r := 0) tb rfl (Op1.of rfl (by first | exact fun _ => rfl | exact fun h => h | exact fun h => bL h | exact fun h => bL (bL h) | exact fun h => bL (bL (bL h)))) rfl rfl hi0 rfl ?_)
    refine rn ?_
    refine G.ret1 rfl rfl rfl rfl ?_
    exact ⟨rfl, hx⟩
/-- increase, rate -/
theorem overG_ok (nm : List UInt8) (rate : Bool) (hnm : nm = [114, 97, 116, 101] ∧ rate = true ∨ nm = [105, 110, 99, 114, 101, 97, 115, 101] ∧ rate = false) (v : Value) (xs : List Smp) (n : Nat) (w : World) (hv : Smps w v xs) (hlen0 : xs.length = n) (hn : 2 ≤ n) (hn2 : n ≤ 1000)
    (t0 te to : Int) (v0 ve : Nat) (h0 : xs[0]? = some (t0, v0)) (he : xs[n - 1]? = some (te, ve)) (hrise : ∀ i x y, 1 ≤ i → xs[i]? = some x → xs[i - 1]? = some y → fcmpB .lss x.2 y.2 = some false)
    (ht0 : 0 ≤ t0 ∧ t0 ≤ 1000000) (hte : 0 ≤ te ∧ te ≤ 1000000) (hto : 0 ≤ to ∧ to ≤ 1000000) {d s b a q0 z c x1 x2 f inc wf f2 rt : Nat} (hG : Gr t0 te to v0 ve (n - 1) d s b a q0 z c x1 x2 f inc wf f2 rt)
    (hfr : xs.filter (freshB 0 to) = xs) :
    Ret Try.prog 10 ⟨[S nm, v, Fl 0, .int .i64 0, .int .i64 to]⟩ w fun r w' => r = .tuple ⟨[Fl (if rate then rt else inc), .bool true]⟩ ∧ Ext w w' := by
  have hlen : (xs.map smpC).length = n := by rw [List.length_map, hlen0]
  have hnd : (!decide (nm = [100, 101, 108, 116, 97])) = true := by rcases hnm with ⟨rfl, _⟩ | ⟨rfl, _⟩ <;> decide
  have hrt : decide (nm = [114, 97, 116, 101]) = rate := by rcases hnm with ⟨rfl, rfl⟩ | ⟨rfl, rfl⟩ <;> decide
  have hg := fun u W hu => grownN_ok nm rate hnd hrt u xs n W hu hlen0 hn hn2 t0 te to v0 ve h0 he hrise ht0 hte hto hG
  clear hnd hrt
  rcases hnm with ⟨rfl, rfl⟩ | ⟨rfl, rfl⟩
  · (refine ret_of_G Try.func10 rfl Try.ntmps10 rfl ?_; simp only [argEnv])
    refine rn ?_
    refine sCall c37 (fresh_ok v xs 0 to w hv (by omega)) ?_
    rintro u w1 ⟨ho, hx1⟩
    rw [hfr] at ho
    have hu : Smps w1 u xs := ho.sli
    refine rn ?_
    rw [hlen]
    refine rn ?_
    first | refine G.condD rfl (fun hc => ?_) (fun hc => ?_) | refine G.condN rfl (fun hc => ?_) (fun hc => ?_) | refine G.cond rfl (fun hc => ?_) (fun hc => ?_)
    · omega
    refine rn ?_
    refine sCall c42 (hg u w1 hu) ?_
    rintro _ w2 ⟨rfl, hx2⟩
    refine rn ?_
    refine G.ret2 rfl rfl rfl rfl rfl ?_
    exact ⟨rfl, hx1.trans hx2⟩
  · (refine ret_of_G Try.func10 rfl Try.ntmps10 rfl ?_; simp only [argEnv])
    refine rn ?_
    refine sCall c37 (fresh_ok v xs 0 to w hv (by omega)) ?_
    rintro u w1 ⟨ho, hx1⟩
    rw [hfr] at ho
    have hu : Smps w1 u xs := ho.sli
    refine rn ?_
    rw [hlen]
    refine rn ?_
    first | refine G.condD rfl (fun hc => ?_) (fun hc => ?_) | refine G.condN rfl (fun hc => ?_) (fun hc => ?_) | refine G.cond rfl (fun hc => ?_) (fun hc => ?_)
    · omega
    refine rn ?_
    refine sCall c42 (hg u w1 hu) ?_
    rintro _ w2 ⟨rfl, hx2⟩
    refine rn ?_
    refine G.ret2 rfl rfl rfl rfl rfl ?_
    exact ⟨rfl, hx1.trans hx2⟩
theorem overR_ok (v : Value) (xs : List Smp) (n : Nat) (w : World) (hv : Smps w v xs) (hlen0 : xs.length = n) (hn : 1 ≤ n) (hn2 : n ≤ 1000) (to : Int)
    (hrise : ∀ i x y, 1 ≤ i → xs[i]? = some x → xs[i - 1]? = some y → fcmpB .lss x.2 y.2 = some false) (hfr : xs.filter (freshB 0 to) = xs) :
    Ret Try.prog 10 ⟨[S [114, 101, 115, 101, 116, 115], v, Fl 0, .int .i64 0, .int .i64 to]⟩ w fun r w' => r = .tuple ⟨[Fl 0, .bool true]⟩ ∧ Ext w w' := by
  have hlen : (xs.map smpC).length = n := by rw [List.length_map, hlen0]
  refine ret_of_G Try.func10 rfl Try.ntmps10 rfl ?_
  simp only [argEnv]
  refine rn ?_
  refine sCall c37 (fresh_ok v xs 0 to w hv (by omega)) ?_
  rintro u w1 ⟨ho, hx1⟩
  rw [hfr] at ho
  have hu : Smps w1 u xs := ho.sli
  refine rn ?_
  rw [hlen]
  refine rn ?_
  first | refine G.condD rfl (fun hc => ?_) (fun hc => ?_) | refine G.condN rfl (fun hc => ?_) (fun hc => ?_) | refine G.cond rfl (fun hc => ?_) (fun hc => ?_)
  · omega
  refine rn ?_
  refine sCall c38 (turns_ok u xs n w1 hu hlen0 hn hn2 hrise) ?_
  rintro _ w2 ⟨rfl, hx2⟩
  refine rn ?_
  refine G.ret2 rfl rfl rfl rfl rfl ?_
  exact ⟨rfl, hx1.trans hx2⟩
end Go.Proofs.Ytbnckhfkkoncbaa
end
section
namespace Go.Nm
open Go.Vg Ieee

theorem perm4 (a b c d : Nat) : a * b * (c * d) = c * a * b * d := by
  simp only [Nat.mul_assoc, Nat.mul_left_comm]
set_option maxRecDepth 20000 in
theorem rate_back {n h B rt : Nat} (hn : 2 ≤ n) (hn2 : n ≤ 31) (hh : 1 ≤ h) (hh2 : h ≤ 1000) (hB : 1 ≤ B) (hB2 : B ≤ 1000) (h1 : Fp 13 rt (B * 1000) (2 * h)) : ∃ m1 m2, floatBits .mul .f64 rt (iF (n * (2 * h))) = some m1 ∧ floatBits .quo .f64 m1 4652007308841189376 = some m2 ∧ Fp 16 m2 (n * B) 1 := by
  have hnh1 : 1 ≤ n * (2 * h) := Nat.mul_pos (by omega) (by omega)
  have hnh2 : n * (2 * h) ≤ 31 * 2000 := Nat.mul_le_mul hn2 (by omega)
  have hp1 : 0 < B * 1000 * (n * (2 * h)) := Nat.mul_pos (by omega) hnh1
  have hp2 : B * 1000 * (n * (2 * h)) ≤ 62000000000 := Nat.le_trans (Nat.mul_le_mul (show B * 1000 ≤ 1000000 by omega) hnh2) (by decide)
  have hnB1 : 1 ≤ n * B := Nat.mul_pos (by omega) hB
  have hnB2 : n * B ≤ 31 * 1000 := Nat.mul_le_mul hn2 hB2
  obtain ⟨m1, a1, a2⟩ := Fp.mul (k := 14) h1 (intF_fp hnh1 (by omega)) (by decide) hp1 (by omega) (le60 (Nat.le_trans hp2 (by decide)) (by omega)) (le60 (by omega) hp1) (by decide) (by decide)
  have a2 : Fp 14 m1 (n * B * 1000) 1 := Fp.scale (c := 2 * h) (by omega) (a2.eq (perm4 B 1000 n (2 * h)) (by rw [Nat.mul_comm]))
  obtain ⟨m2, b1, b2⟩ := Fp.div (k := 16) a2 kilo_fp (by decide) (by decide) (by omega) (by decide) (le60 (by omega) (by decide)) (le60 (by decide) (by omega)) (by decide) (by decide)
  exact ⟨m1, m2, a1, b1, Fp.scale (c := 1000) (by decide) (b2.eq (by omega) rfl)⟩
/-- what is checked at the end -/
structure End (n h B inc rt : Nat) (Wt tF T1 G m1 m2 T2 : Nat) (s1 s2 : Bool) : Prop where
  sub1 : floatBits .sub .f64 inc Wt = some (T1 + sgn s1)
  lt1 : T1 < infB
  mulG : floatBits .mul .f64 4472406533629990549 Wt = some G
  leq1 : fcmpB .leq T1 G = some true
  mul1 : floatBits .mul .f64 rt tF = some m1
  quo1 : floatBits .quo .f64 m1 4652007308841189376 = some m2
  sub2 : floatBits .sub .f64 m2 Wt = some (T2 + sgn s2)
  lt2 : T2 < infB
  leq2 : fcmpB .leq T2 G = some true
theorem end_ok {n h B inc rt : Nat} (hn : 2 ≤ n) (hn2 : n ≤ 31) (hh : 1 ≤ h) (hh2 : h ≤ 1000) (hB : 1 ≤ B) (hB2 : B ≤ 1000) (h1 : Fp 9 inc (n * B) 1) (h2 : Fp 13 rt (B * 1000) (2 * h)) : ∃ T1 G m1 m2 T2 s1 s2, End n h B inc rt (iF (n * B)) (iF (n * (2 * h))) T1 G m1 m2 T2 s1 s2 := by
  have hnB1 : 1 ≤ n * B := Nat.mul_pos (by omega) hB
  have hnB2 : n * B ≤ 31 * 1000 := Nat.mul_le_mul hn2 hB2
  obtain ⟨w1, w2, G, g1, g2⟩ := want_ok (N := n * B) hnB1 (by omega)
  obtain ⟨T1, s1, a1, a2, a3⟩ := close (by decide) h1 w1 w2.rng g2
  obtain ⟨m1, m2, b1, b2, b3⟩ := rate_back hn hn2 hh hh2 hB hB2 h2
  obtain ⟨T2, s2, c1, c2, c3⟩ := close (by decide) b3 w1 w2.rng g2
  exact ⟨T1, G, m1, m2, T2, s1, s2, a1, a2, g1, a3, b1, b2, c1, c2, c3⟩
/-- one more is no less -/
theorem rise_ok {a b : Nat} (h : a ≤ b) (ha : 0 < a) (hb : b < 9007199254740992) : fcmpB .lss (iF b) (iF a) = some false := by
  have hA := isI_val (int_fp ha (by omega)).1 ha (int_fp ha (by omega)).2
  have hB := isI_val (int_fp (n := b) (by omega) hb).1 (by omega) (int_fp (n := b) (by omega) hb).2
  rw [lss_pos hB.1 hA.1, hA.2, hB.2, decide_eq_false]
  have := Nat.mul_le_mul_right uV h
  omega
theorem int_lt {a : Nat} (ha : 0 < a) (hb : a < 9007199254740992) : iF a < infB := (isI_val (int_fp ha hb).1 ha (int_fp ha hb).2).1
end Go.Nm
end
section
namespace Go.Vg
open Go.RowKit Ieee Go.Nm
/-- a word that is no number -/
def NanW (r : Nat) : Prop := ∃ R s, infB < R ∧ R < 2 ^ 63 ∧ r = R + sgn s
theorem NanW.read {r : Nat} (h : NanW r) : ∃ s f, double.read r = .nan s f := by
  obtain ⟨R, s, h1, h2, rfl⟩ := h
  rw [inf_eq] at h1
  rw [← word_rung]
  refine ⟨s, R - 9218868437227405312, ?_⟩
  unfold Format.read Format.word
  rw [d_bin, d_inf, d_sw]
  have e1 : (if s then 9223372036854775808 + R else R) % 9223372036854775808 = R := by cases s <;> simp <;> omega
  have e2 : (((if s then 9223372036854775808 + R else R) / 9223372036854775808 % 2 == 1)) = s := by
    cases s
    · rw [if_neg (by simp), Nat.div_eq_of_lt (by omega)]; rfl
    · rw [if_pos rfl, show (9223372036854775808 + R) / 9223372036854775808 = 1 by omega]; rfl
  dsimp only
  rw [e1, e2, if_neg (by omega), if_neg (by omega), if_neg (by omega)]
section
variable {X : Cx} {ops : Array Oper} {e : Env} {w : World} {N : Env → World → Prop} {d : Nat} {ty : TypeId} {pos : String} {af : Array Edge} {g : Option (Nat × Bool)}
end
end Go.Vg
end
section
namespace Go.Vg
open Go.RowKit

abbrev TV := List (List UInt8 × Value)
def mvC (es : TV) : List (Value × Value) := es.map fun p => (S p.1, p.2)
/-- block b is a map of texts by texts -/
def Mv (w : World) (b : Nat) (es : TV) : Prop := ∃ ms clock, w.heap[b]? = some (.map ⟨ms⟩ clock) ∧ ms.map (fun e => (e.key, e.val)) = mvC es
theorem Mv.lt {w : World} {b : Nat} {es : TV} (h : Mv w b es) : b < w.heap.size := by
  obtain ⟨ms, clock, h, _⟩ := h; exact (Array.getElem?_eq_some_iff.1 h).1
theorem Mv.to {w w' : World} {b : Nat} {es : TV} (h : Mv w b es) (hx : Ext w w') : Mv w' b es := by
  obtain ⟨ms, clock, h, h2⟩ := h
  exact ⟨ms, clock, by rw [hx.block b (Array.getElem?_eq_some_iff.1 h).1]; exact h, h2⟩
theorem Mv.wr {w w' : World} {b b' : Nat} {es : TV} (h : Mv w b es) (hw : Wr b' w w') (hne : b ≠ b') : Mv w' b es := by
  obtain ⟨ms, clock, h, h2⟩ := h
  exact ⟨ms, clock, by rw [hw.block b hne]; exact h, h2⟩

section
variable {X : Cx} {ops : Array Oper} {e : Env} {w : World} {N : Env → World → Prop} {d : Nat} {c : Option Bool} {ty : TypeId} {pos : String} {af : Array Edge} {g : Option (Nat × Bool)}
end
section
variable {X : Cx} {ops : Array Oper} {l : List Oper} {k : List Kt} {e : Env} {w : World} {d : Nat} {c : Option Bool} {ty : TypeId} {pos : String} {af : Array Edge} {g : Option (Nat × Bool)}
end
end Go.Vg
end
section
namespace Go.Vg
open Go.RowKit

/-- it returns, and S holds; or it panics, and Z holds -/
def RetP (P : Program) (f : FuncId) (args : Array Value) (w : World) (S : Value → World → Prop) (Z : List PanicEntry → World → Prop) : Prop :=
  Calls P f args w fun en w' => (∃ v, en = .returned v ∧ S v w') ∨ (∃ ch, en = .panicked ch ∧ Z ch w')
theorem RetP.mono {P : Program} {f : FuncId} {args : Array Value} {w : World} {S S' : Value → World → Prop} {Z Z' : List PanicEntry → World → Prop} (h : RetP P f args w S Z) (hs : ∀ v w', S v w' → S' v w') (hz : ∀ c w', Z c w' → Z' c w') : RetP P f args w S' Z' :=
  Calls.mono h fun _ _ h => h.elim (fun ⟨v, he, hv⟩ => .inl ⟨v, he, hs _ _ hv⟩) (fun ⟨c, he, hv⟩ => .inr ⟨c, he, hz _ _ hv⟩)

section steps
variable {X : Cx} {ops : Array Oper} {e : Env} {w : World} {N : Env → World → Prop} {d : Nat} {c : Option Bool} {ty : TypeId} {pos : String} {af : Array Edge} {g : Option (Nat × Bool)} {l : List Oper} {k : List Kt} {lb : List (Oper × Bool)} {W : World → Prop}

theorem StepP.callF {f : FuncId} {args : Array Operand} {ats : Array TypeId} {lo : List Operand} {vs : List Value} {S : Value → World → Prop} {Z : List PanicEntry → World → Prop}
    (hg : guardE ops e ⟨some d, .call { callee := .value (.func f), args := args, argTypes := ats }, ty, pos, af, g⟩ = some none)
    (ha : args = ⟨lo⟩) (hvs : evs e lo = some vs) (hf : Callable X.P f)
    (hn : Nat.blt d X.n = true) (hc : RetP X.P f ⟨vs⟩ w S Z) (hz : ∀ ch w', Z ch w' → X.px ch w')
    (h : ∀ v w', S v w' → N ((d, none, v) :: e) w') : StepP X ops ⟨some d, .call { callee := .value (.func f), args := args, argTypes := ats }, ty, pos, af, g⟩ e w N := by
  intro t K Q hft hK hP
  rw [guardE_wanted hft hg, if_pos (by rfl)]
  refine ⟨fun _ _ => trivial, ?_⟩
  rw [Oper.semAt_eq _ _ _ (fun _ hh => by cases hh)]
  have := evs_map (ds := X.ds) hft hvs
  subst ha
  have h2 : (Array.mk lo).map (Act.mk t X.ds).eval = ⟨vs⟩ := by simp [this]
  have hrun : (execOp (Act.mk t X.ds).eval ⟨some d, .call { callee := .value (.func f), args := ⟨lo⟩, argTypes := ats }, ty, pos, af, g⟩).run X.P w = .ok (.enter f ⟨vs⟩) w := by
    simp only [execOp, resolve, h2, Act.eval, Deferred.ofValue, Sem.run_bind, Sem.run_pure, Result.andThen_ok, invoke, Array.empty_append, Array.append_empty, run_callFunc hf]
  show Oper.uponIn _ _ _ _ _ _ _ ((execOp (Act.mk t X.ds).eval _).run X.P w)
  rw [hrun]
  refine ⟨fun h => by simp [Fence.wide] at h, callsW (Calls.mono hc ?_)⟩
  rintro en w' (⟨v, rfl, hS⟩ | ⟨ch, rfl, hZ⟩)
  · show K (Act.put _ (some d) v) w'
    exact hK _ _ _ (h v w' hS) (hft.put (by simpa [Nat.blt_eq] using hn) none v)
  · exact hP ch t w' (hz ch w' hZ)
theorem StepP.panic {x : Operand} {t : TypeId} {v : Value} (hg : guardE ops e ⟨none, .panic x, ty, pos, af, g⟩ = some none) (hx : Op1 e none x (.iface t v))
    (hz : X.px [{ v := .iface t v, recovered := false }] w) : StepP X ops ⟨none, .panic x, ty, pos, af, g⟩ e w N := by
  intro t' K Q hft hK hP
  rw [guardE_wanted hft hg, if_pos (by rfl)]
  refine ⟨fun _ _ => trivial, ?_⟩
  rw [Oper.semAt_eq _ _ _ (fun _ hh => by cases hh)]
  have hrun : (execOp (Act.mk t' X.ds).eval ⟨none, .panic x, ty, pos, af, g⟩).run X.P w = .halt (.panic (.iface t v)) w := by
    simp only [execOp, hx.val hft rfl, Instr.panic]
    rfl
  show Oper.uponIn _ _ _ _ _ _ _ ((execOp (Act.mk t' X.ds).eval _).run X.P w)
  rw [hrun]
  exact hP _ t' w hz
/-- a guarded call that may panic -/
theorem StepP.on {o : Oper} {c : Bool} (hg : guardE ops e o = some (some c)) (hc : c = true) (h : StepP X ops { o with guard := none } e w N) : StepP X ops o e w N := by
  intro t K Q hf hK hP
  have := h t K Q hf hK hP
  rw [guardE_wanted hf hg]
  subst hc
  rw [if_pos (by rfl)] at this ⊢
  exact this

end steps

/-! ### A world changed at one block, with more behind it -/
structure Kp (b : Nat) (w w' : World) : Prop where
  os : w'.os = w.os
  tape : w'.tape = w.tape
  output : w'.output = w.output
  size : w.heap.size ≤ w'.heap.size
  block : ∀ k, k < w.heap.size → k ≠ b → w'.heap[k]? = w.heap[k]?
theorem Kp.refl (b : Nat) (w : World) : Kp b w w := ⟨rfl, rfl, rfl, Nat.le_refl _, fun _ _ _ => rfl⟩
theorem Kp.trans {b : Nat} {w w1 w2 : World} (h : Kp b w w1) (k : Kp b w1 w2) : Kp b w w2 :=
  ⟨k.os.trans h.os, k.tape.trans h.tape, k.output.trans h.output, Nat.le_trans h.size k.size, fun i hi hne => (k.block i (Nat.lt_of_lt_of_le hi h.size) hne).trans (h.block i hi hne)⟩
/-- a change of a block that was not there before -/
theorem Kp.new {b c : Nat} {w w1 w2 : World} (h : Kp b w w1) (k : Kp c w1 w2) (hc : w.heap.size ≤ c) : Kp b w w2 :=
  ⟨k.os.trans h.os, k.tape.trans h.tape, k.output.trans h.output, Nat.le_trans h.size k.size, fun i hi hne => (k.block i (Nat.lt_of_lt_of_le hi h.size) (by omega)).trans (h.block i hi hne)⟩
end Go.Vg
end
section
namespace Go.Vg
open Go.RowKit

theorem Owns.same {w w' : World} {B : Nat} {v : Value} {et k : Nat} {xs : List (List Value)} (h : Owns w B v et k xs) (hs : ∀ g, g < w.heap.size → v.ownBlock = some g → w'.heap[g]? = w.heap[g]?) : Owns w' B v et k xs := by
  obtain ⟨⟨hl, h⟩, h0⟩ := h
  refine ⟨⟨hl, ?_⟩, h0⟩
  rcases h with h | ⟨g, cap, cur, rfl, h2, h3, h4⟩
  · exact .inl h
  · exact .inr ⟨g, cap, cur, rfl, h2, by rw [hs g (Array.getElem?_eq_some_iff.1 h3).1 rfl]; exact h3, h4⟩
theorem Bx.same {w w' : World} {b : Nat} {us : List Value} (h : Bx w b us) (hs : w'.heap[b]? = w.heap[b]?) : Bx w' b us := by
  obtain ⟨t, h⟩ := h
  exact ⟨t, by rw [hs]; exact h⟩
theorem Owns.lt {w : World} {B : Nat} {v : Value} {et k : Nat} {xs : List (List Value)} (h : Owns w B v et k xs) : ∀ g, v.ownBlock = some g → B ≤ g ∧ g < w.heap.size := by
  intro g hg
  rcases h.1.2 with ⟨rfl, _⟩ | ⟨g', cap, cur, rfl, h2, h3, _⟩
  · simp [Value.ownBlock] at hg
  · simp only [Value.ownBlock, Option.some.injEq] at hg
    subst hg
    exact ⟨h2, (Array.getElem?_eq_some_iff.1 h3).1⟩
end Go.Vg
end
section
namespace Go.Vg
open Go.RowKit
theorem Mv.kept {w w' : World} {b : Nat} {es : TV} (h : Mv w b es) (hx : w'.heap[b]? = w.heap[b]?) : Mv w' b es := by
  obtain ⟨ms, clock, h, h2⟩ := h
  exact ⟨ms, clock, by rw [hx]; exact h, h2⟩
theorem Mv.below {w w' : World} {b B : Nat} {es : TV} (h : Mv w b es) (hx : Below B w w') (hb : b < B) : Mv w' b es := h.kept (hx.block b hb)
theorem Bx.below {w w' : World} {b B : Nat} {us : List Value} (h : Bx w b us) (hx : Below B w w') (hb : b < B) : Bx w' b us := by
  obtain ⟨t, h⟩ := h
  exact ⟨t, by rw [hx.block b hb]; exact h⟩
end Go.Vg
end
section
open Go Go.Vg Go.RowKit Go.Proofs Go.Proofs.Ytbnckhfkkoncbaa
namespace Go.Proofs.Ytbnckhfkkoncbaa
open Go.Nm (iF kF infB sgn)

theorem within_ok (n m : Int) (w : World) (hm : 1 ≤ m) (hm2 : m ≤ 9223372036854775807) : Ret Try.prog 9 ⟨[.int .i64 n, .int .i64 m]⟩ w fun r w' => r = .int .i64 (n % m) ∧ w' = w := by
  have h1 := Int.tmod_eq_emod (a := n) (b := m)
  have h2 := Int.emod_nonneg n (b := m) (by omega)
  have h3 := Int.emod_lt_of_pos n (b := m) (by omega)
  obtain ⟨r, hr⟩ : ∃ r, r = n.tmod m := ⟨_, rfl⟩
  have hr1 : r < 0 → r + m = n % m := by
    intro h; rw [← hr] at h1; split at h1 <;> omega
  have hr2 : ¬ r < 0 → r = n % m := by
    intro h; rw [← hr] at h1; split at h1 <;> omega
  refine ret_of_G Try.func9 rfl Try.ntmps9 rfl ?_
  simp only [argEnv]
  refine rn ?_
  refine sRem hr.symm ?_
  refine rn ?_
  first | refine G.condD rfl (fun hc => ?_) (fun hc => ?_) | refine G.condN rfl (fun hc => ?_) (fun hc => ?_) | refine G.cond rfl (fun hc => ?_) (fun hc => ?_)
  · refine rn ?_
    have := hr1 hc
    refine sAd tb ?_
    refine rn ?_
    refine G.ret1 rfl rfl rfl rfl ?_
    exact ⟨by rw [this], rfl⟩
  · refine rn ?_
    refine G.ret1 rfl rfl rfl rfl ?_
    exact ⟨by rw [hr2 hc], rfl⟩
theorem abs_bits {R : Nat} (s : Bool) (h : R < 2 ^ 63) : bits .andNot .u64 ((R + sgn s : Nat) : Int) 9223372036854775808 = (R : Int) := by
  have hs : sgn s ≤ 2 ^ 63 := by cases s <;> decide
  have hm : (R + sgn s) % 2 ^ 63 = R := by cases s <;> simp only [sgn, if_true, Bool.false_eq_true, if_false] <;> omega
  have h1 : BitVec.ofInt 64 ((R + sgn s : Nat) : Int) = BitVec.ofNat 64 (R + sgn s) := BitVec.ofInt_natCast ..
  have h2 : ~~~ BitVec.ofInt 64 (9223372036854775808 : Int) = BitVec.ofNat 64 (2 ^ 63 - 1) := by decide
  have h3 : (BitVec.ofNat 64 (R + sgn s) &&& BitVec.ofNat 64 (2 ^ 63 - 1)).toNat = R := by
    rw [BitVec.toNat_and, BitVec.toNat_ofNat, BitVec.toNat_ofNat, Nat.mod_eq_of_lt (by omega), Nat.mod_eq_of_lt (by decide), Nat.and_two_pow_sub_one_eq_mod, hm]
  show IntKind.u64.wrap ((BitVec.ofInt 64 ((R + sgn s : Nat) : Int) &&& ~~~ BitVec.ofInt 64 (9223372036854775808 : Int)).toNat : Int) = _
  rw [h1, h2, h3]
  show (R : Int) % 18446744073709551616 = R
  omega
theorem absR_ok (s : Bool) (R : Nat) (h : R < infB) (w : World) : Ret Try.prog 11 ⟨[Fl (R + sgn s)]⟩ w fun r w' => r = Fl R ∧ Ext w w' := by
  have hinf : infB = 9218868437227405312 := by decide
  have habs := abs_bits s (R := R) (by omega)
  refine ret_of_G Try.func11 rfl Try.ntmps11 rfl ?_
  simp only [argEnv]
  refine rn ?_
  refine GL.cons (Step.ext rfl rfl (by repeat (first | exact OpL.nil | refine OpL.cons (Op1.of rfl (by first | exact fun _ => rfl | exact fun h => h | exact fun h => bL h | exact fun h => bL (bL h) | exact fun h => bL (bL (bL h)))) ?_)) (run_fbits Try.func45 (by kernel_rfl) (by kernel_rfl) (by kernel_rfl) (by kernel_rfl) (R + sgn s) _) rfl ?_)
  refine GL.cons (Step.andNot rfl (Op1.of rfl (by first | exact fun _ => rfl | exact fun h => h | exact fun h => bL h | exact fun h => bL (bL h) | exact fun h => bL (bL (bL h)))) (Op1.of rfl (by first | exact fun _ => rfl | exact fun h => h | exact fun h => bL h | exact fun h => bL (bL h) | exact fun h => bL (bL (bL h)))) habs rfl ?_)
  refine GL.cons (Step.ext rfl rfl (by repeat (first | exact OpL.nil | refine OpL.cons (Op1.of rfl (by first | exact fun _ => rfl | exact fun h => h | exact fun h => bL h | exact fun h => bL (bL h) | exact fun h => bL (bL (bL h)))) ?_)) (run_ofbits Try.func44 (by kernel_rfl) (by kernel_rfl) (by kernel_rfl) (by kernel_rfl) R _) rfl ?_)
  refine rn ?_
  refine G.ret1 rfl rfl rfl rfl ?_
  exact ⟨rfl, Ext.refl _⟩
/-- the samples -/
def smpL (h : Nat) (V : Nat → Nat) (k : Nat) : List Smp := (List.range k).map fun i => (((h + i * (2 * h) : Nat) : Int), V i)
theorem smpL_succ (h : Nat) (V : Nat → Nat) (k : Nat) : smpL h V (k + 1) = smpL h V k ++ [(((h + k * (2 * h) : Nat) : Int), V k)] := by
  unfold smpL
  rw [List.range_succ, List.map_append]; rfl
theorem smpL_len (h : Nat) (V : Nat → Nat) (k : Nat) : (smpL h V k).length = k := by unfold smpL; simp
theorem smpL_at {h : Nat} {V : Nat → Nat} {k i : Nat} {x : Smp} (hx : (smpL h V k)[i]? = some x) : i < k ∧ x = (((h + i * (2 * h) : Nat) : Int), V i) := by
  have hi : i < k := by have := (List.getElem?_eq_some_iff.1 hx).1; rwa [smpL_len] at this
  refine ⟨hi, ?_⟩
  unfold smpL at hx
  simp only [List.getElem?_map, List.getElem?_range hi, Option.map_some, Option.some.injEq] at hx
  exact hx.symm
theorem smpL_get (h : Nat) (V : Nat → Nat) {k i : Nat} (hi : i < k) : (smpL h V k)[i]? = some (((h + i * (2 * h) : Nat) : Int), V i) := by
  unfold smpL
  simp [List.getElem?_range hi]
set_option maxHeartbeats 4000000 in
theorem counter_law (n0 s0 b0 : Int) (w : World) :
    Ret Try.prog 3 ⟨[.int .i64 n0, .int .i64 s0, .int .i64 b0]⟩ w fun r w' => r = .bool true ∧ Ext w w' := by
  refine ret_of_G Try.func3 rfl Try.ntmps3 rfl ?_
  simp only [argEnv]
  refine rn ?_
  refine sCall c9 (within_ok n0 30 w (by decide) (by decide)) ?_
  rintro _ wa ⟨rfl, hwa⟩
  obtain rfl : w = wa := hwa.symm
  have a1 := Int.emod_nonneg n0 (b := 30) (by decide)
  have a2 := Int.emod_lt_of_pos n0 (b := 30) (by decide)
  obtain ⟨n, hn⟩ : ∃ n : Nat, (n : Int) = 2 + n0 % 30 := ⟨(2 + n0 % 30).toNat, by omega⟩
  refine sAd tb (r := (n : Int)) ?_ (hp := by rw [hn]; exact wrap_i64 (by omega) (by omega))
  refine rn ?_
  refine sCall c9 (within_ok s0 1000 w (by decide) (by decide)) ?_
  rintro _ wa ⟨rfl, hwa⟩
  obtain rfl : w = wa := hwa.symm
  have b1 := Int.emod_nonneg s0 (b := 1000) (by decide)
  have b2 := Int.emod_lt_of_pos s0 (b := 1000) (by decide)
  obtain ⟨h, hh⟩ : ∃ h : Nat, (h : Int) = 1 + s0 % 1000 := ⟨(1 + s0 % 1000).toNat, by omega⟩
  refine sAd tb (r := (h : Int)) ?_ (hp := by rw [hh]; exact wrap_i64 (by omega) (by omega))
  refine sAd tb (r := ((2 * h : Nat) : Int)) ?_ (hp := (wrap_i64 (n := 2 * ((h : Nat) : Int)) (by omega) (by omega)).trans (by omega))
  refine rn ?_
  refine sCall c9 (within_ok b0 1000 w (by decide) (by decide)) ?_
  rintro _ wa ⟨rfl, hwa⟩
  obtain rfl : w = wa := hwa.symm
  have c1 := Int.emod_nonneg b0 (b := 1000) (by decide)
  have c2 := Int.emod_lt_of_pos b0 (b := 1000) (by decide)
  obtain ⟨B, hB⟩ : ∃ B : Nat, (B : Int) = 1 + b0 % 1000 := ⟨(1 + b0 % 1000).toNat, by omega⟩
  refine sAd tb (r := (B : Int)) ?_ (hp := by rw [hB]; exact wrap_i64 (by omega) (by omega))
  have hn1 : 2 ≤ n := by omega
  have hn2 : n ≤ 31 := by omega
  have hh1 : 1 ≤ h := by omega
  have hh2 : h ≤ 1000 := by omega
  have hB1 : 1 ≤ B := by omega
  have hB2 : B ≤ 1000 := by omega
  clear hn hh hB a1 a2 b1 b2 c1 c2
  obtain ⟨V, hV⟩ : ∃ V : Nat → Nat, ∀ i : Nat, floatOfInt .f64 ((1000000 + i * B : Nat) : Int) = V i := ⟨fun i => iF (1000000 + i * B), fun _ => rfl⟩
  refine rn ?_
  refine (G.loop (fun x : Nat × Value => [(0, none, .int .i64 n), (1, none, .int .i64 ((2 * h : Nat) : Int)), (2, none, .int .i64 B), (7, none, x.2), (8, none, .int .i64 x.1)]) (fun x W => Ext w W ∧ x.1 ≤ n ∧ SmpO W w.heap.size x.2 (smpL h V x.1)) (fun x => n - x.1) (0, .slice none 0 0) (by repeat (first | exact Sub.nil _ | refine Sub.cons rfl ?_)) ⟨Ext.refl _, Nat.zero_le _, Owns.nil _ _ _ _⟩ ?_)
  rintro ⟨i, u⟩ W ⟨hx, hin, ho⟩
  simp only at hin ho ⊢
  have hsl := smpL_len h V i
  refine rn ?_
  first | refine G.condD rfl (fun hc => ?_) (fun hc => ?_) | refine G.condN rfl (fun hc => ?_) (fun hc => ?_) | refine G.cond rfl (fun hc => ?_) (fun hc => ?_)
  · have hlt : i < n := by omega
    have hm1 : ((i : Int) * ((2 * h : Nat) : Int)) = ((i * (2 * h) : Nat) : Int) := (Int.natCast_mul ..).symm
    have hm2 : ((i : Int) * ((B : Nat) : Int)) = ((i * B : Nat) : Int) := (Int.natCast_mul ..).symm
    have hp1 : i * (2 * h) ≤ 31 * 2000 := Nat.mul_le_mul (by omega) (by omega)
    have hp2 : i * B ≤ 31 * 1000 := Nat.mul_le_mul (by omega) hB2
    have hsu := smpL_succ h V i
    have hVi := hV i
    generalize i * (2 * h) = p at hm1 hp1 hsu
    generalize i * B = q at hm2 hp2 hVi
    refine rn ?_
    refine sQuo (r := ((h : Nat) : Int)) (by rw [show (((2 * h : Nat) : Int)).tdiv 2 = h by rw [Int.tdiv_eq_ediv_of_nonneg (by omega)]; omega]; exact wrap_i64 (by omega) (by omega)) ?_
    refine rn ?_
    refine sAd tb (r := ((p : Nat) : Int)) ?_ (hp := by rw [hm1]; exact wrap_i64 (by omega) (by omega))
    refine sAd tb (r := ((h + p : Nat) : Int)) ?_ (hp := (wrap_i64 (n := ((h : Nat) : Int) + ((p : Nat) : Int)) (by omega) (by omega)).trans (by omega))
    refine rn ?_
    refine sAd tb (r := ((q : Nat) : Int)) ?_ (hp := by rw [hm2]; exact wrap_i64 (by omega) (by omega))
    refine sAd tb (r := ((1000000 + q : Nat) : Int)) ?_ (hp := (wrap_i64 (n := 1000000 + ((q : Nat) : Int)) (by omega) (by omega)).trans (by omega))
    refine GL.cons (Step.i2f (r := V i) tb rfl (Op1.of rfl (by first | exact fun _ => rfl | exact fun h => h | exact fun h => bL h | exact fun h => bL (bL h) | exact fun h => bL (bL (bL h)))) rfl rfl hVi rfl ?_)
    refine rn ?_
    refine sBs' tb ([(((h + p : Nat) : Int), V i)].map smpC) (fun v1 w1 ho1 hs1 hx1 => ?_) (hkl := smpLen _)
    have hx01 := hx.trans hx1
    refine sApp tb (ho.to hx1) ho1.sli (fun v2 w2 ho2 hg2 => ?_) (h1 := smp1 _) (hB := hx01.size) (hb := by rw [List.length_map, hsl]; simp only [List.length_map, List.length_cons, List.length_nil]; omega) (hl := by rw [List.length_map, hsl]; simp only [List.length_map, List.length_cons, List.length_nil]; omega)
    rw [← List.map_append, ← hsu] at ho2
    refine rn ?_
    refine sAd tb ?_
    refine rn ?_
    exact G.lp (x := (i, u)) (i + 1, v2) (by repeat (first | exact Sub.nil _ | refine Sub.cons rfl ?_)) ⟨hg2.below _ hx01, hlt, ho2⟩ (by show n - (i + 1) < n - i; omega)
  have ho : SmpO W w.heap.size u (smpL h V n) := by rw [show n = i by omega]; exact ho
  have hsl := smpL_len h V n
  have hu : Smps W u (smpL h V n) := ho.sli
  obtain ⟨d, s, b, a, q0, z, c, x1, x2, f, inc, wf, f2, rt, hC⟩ := Go.Nm.chain hn1 hn2 hh1 hh2 hB1 hB2
  obtain ⟨T1, Gv, m1, m2, T2, s1, s2, hE⟩ := Go.Nm.end_ok hn1 hn2 hh1 hh2 hB1 hB2 hC.incF hC.rtF
  have hnh : n * (2 * h) ≤ 31 * 2000 := Nat.mul_le_mul hn2 (by omega)
  have hnB : n * B ≤ 31 * 1000 := Nat.mul_le_mul hn2 hB2
  have hmh : (n - 1) * (2 * h) + 2 * h = n * (2 * h) := by
    obtain ⟨m, rfl⟩ : ∃ m, n = m + 1 := ⟨n - 1, by omega⟩
    rw [Nat.add_sub_cancel, Nat.add_mul, Nat.one_mul]
  have hG : Gr (((h + 0 * (2 * h) : Nat) : Int)) (((h + (n - 1) * (2 * h) : Nat) : Int)) ((n * (2 * h) : Nat) : Int) (V 0) (V (n - 1)) (n - 1) d s b a q0 z c x1 x2 f inc wf f2 rt := by
    have hV0 : V 0 = iF 1000000 := by rw [← hV 0, Nat.zero_mul, Nat.add_zero]
    have hVe : V (n - 1) = iF (1000000 + (n - 1) * B) := (hV (n - 1)).symm
    rw [hV0, hVe]
    refine ⟨hC.dE, ⟨_, ?_, hC.sE⟩, ⟨_, ?_, hC.bE⟩, ⟨_, ?_, hC.bE⟩, ⟨_, rfl, hC.aE⟩, hC.d0E, hC.v0E, hC.q0E, hC.zE, hC.zbE, hC.cE, hC.bcE, hC.x1E, hC.x2E, hC.fE, hC.incE, ⟨_, ?_, hC.wE⟩, hC.f2E, hC.rtE⟩
    · exact congrArg (floatOfInt .f64) (by omega)
    · exact congrArg (floatOfInt .f64) (by omega)
    · exact congrArg (floatOfInt .f64) (by omega)
    · exact congrArg (floatOfInt .f64) (by omega)
  have hrise : ∀ i x y, 1 ≤ i → (smpL h V n)[i]? = some x → (smpL h V n)[i - 1]? = some y → fcmpB .lss x.2 y.2 = some false := by
    intro i x y hi hx hy
    obtain ⟨hin, rfl⟩ := smpL_at hx
    obtain ⟨_, rfl⟩ := smpL_at hy
    have h1 := Nat.mul_le_mul_right B (show i - 1 ≤ i by omega)
    have h2 : i * B ≤ 31 * 1000 := Nat.mul_le_mul (by omega) hB2
    show fcmpB .lss (V i) (V (i - 1)) = some false
    rw [← hV i, ← hV (i - 1)]
    exact Go.Nm.rise_ok (by omega) (by omega) (by omega)
  have hfr : (smpL h V n).filter (freshB 0 ((n * (2 * h) : Nat) : Int)) = smpL h V n := by
    rw [List.filter_eq_self]
    intro x hx
    obtain ⟨i, hi⟩ := List.getElem?_of_mem hx
    obtain ⟨hin, rfl⟩ := smpL_at hi
    have h1 : i * (2 * h) ≤ (n - 1) * (2 * h) := Nat.mul_le_mul_right _ (by omega)
    have h2 : i * B ≤ 31 * 1000 := Nat.mul_le_mul (by omega) hB2
    have h3 : V i < infB := by rw [← hV i]; exact Go.Nm.int_lt (by omega) (by omega)
    have hinf : infB = 9218868437227405312 := by decide
    unfold freshB
    simp only
    rw [decide_eq_true (by omega), decide_eq_true (by omega), decide_eq_false (by omega)]
    rfl
  have h0 := smpL_get h V (k := n) (i := 0) (by omega)
  have he := smpL_get h V (k := n) (i := n - 1) (by omega)
  have hwt : floatOfInt .f64 ((n * B : Nat) : Int) = iF (n * B) := rfl
  have htf : floatOfInt .f64 ((n * (2 * h) : Nat) : Int) = iF (n * (2 * h)) := rfl
  obtain ⟨Wt, hWt⟩ : ∃ Wt, Wt = iF (n * B) := ⟨_, rfl⟩
  obtain ⟨tF, htF⟩ : ∃ tF, tF = iF (n * (2 * h)) := ⟨_, rfl⟩
  rw [← hWt] at hwt hE
  rw [← htF] at htf hE
  clear hWt htF hC
  have hm1 : ((n : Int) * ((2 * h : Nat) : Int)) = ((n * (2 * h) : Nat) : Int) := (Int.natCast_mul ..).symm
  have hm2 : ((n : Int) * ((B : Nat) : Int)) = ((n * B : Nat) : Int) := (Int.natCast_mul ..).symm
  have ht0b : (0 : Int) ≤ ((h + 0 * (2 * h) : Nat) : Int) ∧ ((h + 0 * (2 * h) : Nat) : Int) ≤ 1000000 := by omega
  have hteb : (0 : Int) ≤ ((h + (n - 1) * (2 * h) : Nat) : Int) ∧ ((h + (n - 1) * (2 * h) : Nat) : Int) ≤ 1000000 := by omega
  generalize ((h + 0 * (2 * h) : Nat) : Int) = t0 at h0 hG ht0b
  generalize ((h + (n - 1) * (2 * h) : Nat) : Int) = te at he hG hteb
  clear hmh hV
  generalize smpL h V n = xs at hu hsl hrise hfr h0 he ho
  generalize V 0 = v0 at h0 hG
  generalize V (n - 1) = ve at he hG
  generalize hto : n * (2 * h) = to at hnh hfr hG htf hm1
  generalize hnb : n * B = nb at hnB hwt hm2
  clear ho
  have htob : (0 : Int) ≤ ((to : Nat) : Int) ∧ ((to : Nat) : Int) ≤ 1000000 := by omega
  have hov1 := fun W (hu : Smps W u xs) => overG_ok [105, 110, 99, 114, 101, 97, 115, 101] false (.inr ⟨rfl, rfl⟩) u xs n W hu hsl hn1 (by omega) t0 te to v0 ve h0 he hrise ht0b hteb htob hG hfr
  have hov2 := fun W (hu : Smps W u xs) => overG_ok [114, 97, 116, 101] true (.inl ⟨rfl, rfl⟩) u xs n W hu hsl hn1 (by omega) t0 te to v0 ve h0 he hrise ht0b hteb htob hG hfr
  have hov3 := fun W (hu : Smps W u xs) => overR_ok u xs n W hu hsl (by omega) (by omega) to hrise hfr
  simp only [Bool.false_eq_true, if_false] at hov1
  simp only [if_true] at hov2
  clear hG h0 he hrise hfr
  refine rn ?_
  refine sAd tb (r := ((to : Nat) : Int)) ?_ (hp := by rw [hm1]; exact wrap_i64 (by omega) (by omega))
  refine rn ?_
  refine sCall c10 (hov1 W hu) ?_
  rintro _ W1 ⟨rfl, hx1⟩
  refine rn ?_
  refine sCall c10 (hov2 W1 (hu.to hx1)) ?_
  rintro _ W2 ⟨rfl, hx2⟩
  refine rn ?_
  refine sCall c10 (hov3 W2 ((hu.to hx1).to hx2)) ?_
  rintro _ W3 ⟨rfl, hx3⟩
  have hx03 := ((hx.trans hx1).trans hx2).trans hx3
  clear hov1 hov2 hov3
  refine rn ?_
  refine sAd tb (r := ((nb : Nat) : Int)) ?_ (hp := by rw [hm2]; exact wrap_i64 (by omega) (by omega))
  refine GL.cons (Step.i2f (r := Wt) tb rfl (Op1.of rfl (by first | exact fun _ => rfl | exact fun h => h | exact fun h => bL h | exact fun h => bL (bL h) | exact fun h => bL (bL (bL h)))) rfl rfl hwt rfl ?_)
  refine rn ?_
  refine GL.cons (Step.fcmp (r := true) rfl (Op1.of rfl (by first | exact fun _ => rfl | exact fun h => h | exact fun h => bL h | exact fun h => bL (bL h) | exact fun h => bL (bL (bL h)))) (Op1.of rfl (by first | exact fun _ => rfl | exact fun h => h | exact fun h => bL h | exact fun h => bL (bL h) | exact fun h => bL (bL (bL h)))) (by kernel_rfl) rfl ?_)
  refine rn ?_
  refine GL.cons (Step.flt (r := T1 + sgn s1) rfl (Op1.of rfl (by first | exact fun _ => rfl | exact fun h => h | exact fun h => bL h | exact fun h => bL (bL h) | exact fun h => bL (bL (bL h)))) (Op1.of rfl (by first | exact fun _ => rfl | exact fun h => h | exact fun h => bL h | exact fun h => bL (bL h) | exact fun h => bL (bL (bL h)))) hE.sub1 rfl ?_)
  refine sCallx c11 (fun hc => absR_ok s1 T1 hE.lt1 W3) ?_
  intro W4 hx4
  refine rn ?_
  refine GL.cons (Step.flt (r := Gv) rfl (Op1.of rfl (by first | exact fun _ => rfl | exact fun h => h | exact fun h => bL h | exact fun h => bL (bL h) | exact fun h => bL (bL (bL h)))) (Op1.of rfl (by first | exact fun _ => rfl | exact fun h => h | exact fun h => bL h | exact fun h => bL (bL h) | exact fun h => bL (bL (bL h)))) hE.mulG rfl ?_)
  refine GL.cons (Step.fcmp (r := true) rfl (Op1.of rfl (by first | exact fun _ => rfl | exact fun h => h | exact fun h => bL h | exact fun h => bL (bL h) | exact fun h => bL (bL (bL h)))) (Op1.of rfl (by first | exact fun _ => rfl | exact fun h => h | exact fun h => bL h | exact fun h => bL (bL h) | exact fun h => bL (bL (bL h)))) hE.leq1 rfl ?_)
  refine rn ?_
  refine GL.cons (Step.i2f (r := tF) tb rfl (Op1.of rfl (by first | exact fun _ => rfl | exact fun h => h | exact fun h => bL h | exact fun h => bL (bL h) | exact fun h => bL (bL (bL h)))) rfl rfl htf rfl ?_)
  refine GL.cons (Step.flt (r := m1) rfl (Op1.of rfl (by first | exact fun _ => rfl | exact fun h => h | exact fun h => bL h | exact fun h => bL (bL h) | exact fun h => bL (bL (bL h)))) (Op1.of rfl (by first | exact fun _ => rfl | exact fun h => h | exact fun h => bL h | exact fun h => bL (bL h) | exact fun h => bL (bL (bL h)))) hE.mul1 rfl ?_)
  refine GL.cons (Step.flt (r := m2) rfl (Op1.of rfl (by first | exact fun _ => rfl | exact fun h => h | exact fun h => bL h | exact fun h => bL (bL h) | exact fun h => bL (bL (bL h)))) (Op1.of rfl (by first | exact fun _ => rfl | exact fun h => h | exact fun h => bL h | exact fun h => bL (bL h) | exact fun h => bL (bL (bL h)))) hE.quo1 rfl ?_)
  refine rn ?_
  refine GL.cons (Step.flt (r := T2 + sgn s2) rfl (Op1.of rfl (by first | exact fun _ => rfl | exact fun h => h | exact fun h => bL h | exact fun h => bL (bL h) | exact fun h => bL (bL (bL h)))) (Op1.of rfl (by first | exact fun _ => rfl | exact fun h => h | exact fun h => bL h | exact fun h => bL (bL h) | exact fun h => bL (bL (bL h)))) hE.sub2 rfl ?_)
  refine sCallx c11 (fun hc => absR_ok s2 T2 hE.lt2 W4) ?_
  intro W5 hx5
  refine rn ?_
  refine GL.cons (Step.flt (r := Gv) rfl (Op1.of rfl (by first | exact fun _ => rfl | exact fun h => h | exact fun h => bL h | exact fun h => bL (bL h) | exact fun h => bL (bL (bL h)))) (Op1.of rfl (by first | exact fun _ => rfl | exact fun h => h | exact fun h => bL h | exact fun h => bL (bL h) | exact fun h => bL (bL (bL h)))) hE.mulG rfl ?_)
  refine GL.cons (Step.fcmp (r := true) rfl (Op1.of rfl (by first | exact fun _ => rfl | exact fun h => h | exact fun h => bL h | exact fun h => bL (bL h) | exact fun h => bL (bL (bL h)))) (Op1.of rfl (by first | exact fun _ => rfl | exact fun h => h | exact fun h => bL h | exact fun h => bL (bL h) | exact fun h => bL (bL (bL h)))) hE.leq2 rfl ?_)
  refine rn ?_
  refine sCallx c12 (fun hc => wakes_ok W5) ?_
  intro W6 hx6
  refine rn ?_
  refine G.ret1 rfl rfl rfl rfl ?_
  exact ⟨rfl, ((hx03.trans hx4).trans hx5).trans hx6⟩
end Go.Proofs.Ytbnckhfkkoncbaa
end
section
open Go Go.Vg Go.RowKit Go.Proofs Go.Proofs.Ytbnckhfkkoncbaa
namespace Go.Proofs.Ytbnckhfkkoncbaa
open Go.Lib Go.Shelf Go.ChangeShapes Go.WideShapes Go.ChangeAt

set_option maxRecDepth 100000 in
theorem contract_funcsCounter (H : Type) (enc : TypeId × Value → H) (W : World) (base : Nat) (args : Array Value) (ds gs : List (DataW H)) (before : List MemPlace)
    (hval : ∀ (j : Nat) t v, Try.f3.params[j]? = some t → args[j]? = some v → Value.okWide Try.prog W .any base t v)
    (hW : DataW.Whole enc Try.prog Try.f3.params.toList Rows.funcsCounterSpec.vars false W args.toList ds gs before) (hL : laidMetH Try.prog Rows.funcsCounterRow.laid W) :
    Calls Try.prog 3 args W fun e W' => ∃ v, e = .returned v ∧ Rows.funcsCounterSpec.post enc Try.prog Try.f3 false true false false W args v W' := by
  have hW' := hW
  obtain ⟨p, q, hA0, hV, rfl, hfz, hnd⟩ := hW
  have hA : DataW.TrodAll enc Try.prog W 0 (fun _ => true) true Try.f3.params.toList args.toList ds p := hA0
  rw [Try.params3] at hA hval
  obtain ⟨v0, vs0, d0, ds0, p0, q0, hargs, rfl, rfl, h0, r0⟩ := trodAll_cons hA
  obtain ⟨v1, vs1, d1, ds1, p1, q1, hargs1, rfl, rfl, h1, r1⟩ := trodAll_cons r0
  obtain ⟨v2, vs2, d2, ds2, p2, q2, hargs2, rfl, rfl, h2, r2⟩ := trodAll_cons r1
  obtain ⟨rfl, rfl, rfl⟩ := trodAll_nil r2
  obtain rfl : args = #[v0, v1, v2] := by cases args; simp_all
  have k0 := OkW.mk (hval 0 _ v0 rfl rfl)
  have k1 := OkW.mk (hval 1 _ v1 rfl rfl)
  have k2 := OkW.mk (hval 2 _ v2 rfl rfl)
  obtain ⟨n0, rfl, hn0⟩ := openI (tb.ok _ _ rfl) k0 h0
  obtain ⟨n1, rfl, hn1⟩ := openI (tb.ok _ _ rfl) k1 h1
  obtain ⟨n2, rfl, hn2⟩ := openI (tb.ok _ _ rfl) k2 h2
  refine Calls.mono (counter_law n0 n1 n2 W) ?_
  rintro e W' ⟨v, rfl, rfl, hx⟩
  exact ⟨_, rfl, law_post laidOut (by kernel_rfl) (tb := 4) rfl (tb.ok _ _ rfl) rfl hW' rfl hx⟩
theorem reads_funcsCounter (os : Os) {H : Type} (enc : TypeId × Value → H) : ∃ places, DataW.whole enc Try.prog ((laidWorld os).forCall (fun _ _ => 0) ⟨#[], #[.int .i64 0, .int .i64 0, .int .i64 0], []⟩).memory Try.f3.params.toList Rows.funcsCounterSpec.vars false #[.int .i64 0, .int .i64 0, .int .i64 0].toList 8 = some ([.lit (.int .i64 0), .lit (.int .i64 0), .lit (.int .i64 0)], [], places) :=
  ⟨[], by kernel_rfl⟩
set_option maxRecDepth 100000 in
theorem lifted_funcsCounter (os : Os) (started : os.Started) (H : Type) (enc : TypeId × Value → H) (F : Stop.Interp) :
    ReturnsInHanded {} Try.checked os 3 .any ((OpenSpec.ofChange Rows.funcsCounterSpec).preRow enc Try.prog Try.f3 Rows.funcsCounterRow.domain false Rows.funcsCounterRow.laid) (((OpenSpec.ofChange Rows.funcsCounterSpec).at F).post enc Try.prog Try.f3 false true false false) := by
  obtain ⟨places, hx⟩ := reads_funcsCounter os enc
  refine returnsInHanded_of_row (C := Try.checked) (s := OpenSpec.ofChange Rows.funcsCounterSpec) own started (by kernel_rfl) Try.func3
    (witness_row_at (enc := enc) (C := Try.checked) false (laidWorld os) #[.int .i64 0, .int .i64 0, .int .i64 0] rfl (by kernel_rfl) (by kernel_rfl) (by kernel_rfl)
      (OpenSpec.preRow_of_cond 8 hx (by kernel_rfl) (fun k hk => by cases hk) (by kernel_rfl) (laid_met os _))) ?_
  intro W base args ds gs before hval hW _ _ _ hL _ _
  exact contract_funcsCounter H enc W base args ds gs before hval hW hL
theorem said_funcsCounter : Rows.FuncsCounterSaid :=
  OpenClaim.holds_of_cond 3 Try.f3 rfl rfl rfl rfl rfl rfl rfl ⟨rfl, rfl, rfl, rfl, rfl⟩ rfl rfl rfl rfl rfl (by kernel_rfl) Try.func3 (by kernel_rfl)
    (of_decide_eq_true (by kernel_rfl)) (by unfold Func.isWrapper; first | (rw [if_pos (by decide +kernel)]; kernel_rfl) | (rw [if_neg (by decide +kernel)]; exact ⟨rfl, rfl⟩))
    (fun os started H enc _ F => by rw [OpenClaim.pre_eq_preRow]; exact lifted_funcsCounter os started H enc F)
/-- FuncsCounter: whatever the numbers, the law of a counter that grows evenly returns true and leaves what came in alone. -/
theorem FuncsCounter_holds : Rows.FuncsCounterSaid := said_funcsCounter
end Go.Proofs.Ytbnckhfkkoncbaa
end
