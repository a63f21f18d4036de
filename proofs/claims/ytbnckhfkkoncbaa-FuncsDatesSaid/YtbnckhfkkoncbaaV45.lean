/- Order and floor of floats of whole numbers. -/
import Derived.Test.YtbnckhfkkoncbaaV44
namespace Go.Vg
open Go.RowKit Ieee

theorem cmp_mul {a b c : Int} (hc : 0 < c) : compare (a * c) (b * c) = compare a b := by
  simp only [compare, compareOfLessAndEq]
  have h1 : a * c < b * c ↔ a < b := ⟨fun h => Int.lt_of_mul_lt_mul_right h (Int.le_of_lt hc), fun h => Int.mul_lt_mul_of_pos_right h hc⟩
  have h2 : a * c = b * c ↔ a = b := ⟨fun h => Int.eq_of_mul_eq_mul_right (by omega) h, fun h => by rw [h]⟩
  simp only [h1, h2]
theorem order_int {d e : Datum} {n k : Int} (h1 : HasInt d n) (h2 : HasInt e k) : d.order e = some (compare n k) := by
  obtain ⟨s, m, i, rfl, _⟩ := id h1
  obtain ⟨t, l, j, rfl, _⟩ := id h2
  show some (compare (signed s m (i - min i j).toNat) (signed t l (j - min i j).toNat)) = _
  rcases Int.lt_or_le 0 (min i j) with hb | hb
  · have a1 := val_hi h1 hb (Int.min_le_left _ _)
    have a2 := val_hi h2 hb (Int.min_le_right _ _)
    have hp : (0 : Int) < ((2 ^ (min i j).toNat : Nat) : Int) := by exact_mod_cast Nat.pow_pos (by decide)
    rw [← cmp_mul hp, a1, a2]
  · have a1 := val_lo h1 hb (Int.min_le_left _ _)
    have a2 := val_lo h2 hb (Int.min_le_right _ _)
    have hp : (0 : Int) < ((2 ^ (-(min i j)).toNat : Nat) : Int) := by exact_mod_cast Nat.pow_pos (by decide)
    rw [a1, a2, cmp_mul hp]
theorem in_isI {lo hi b : Nat} {L H n : Int} (h1 : IsI lo L) (h2 : IsI hi H) (h : IsI b n) (hl : L ≤ n) (hh : n ≤ H) : inR lo hi b = true := by
  have e1 : FloatKind.f64.format.order b lo = some (compare n L) := order_int h h1
  have e2 : FloatKind.f64.format.order b hi = some (compare n H) := order_int h h2
  unfold inR
  rw [e1, e2]
  simp only [compare, compareOfLessAndEq]
  rcases Int.lt_or_eq_of_le hl with a | a <;> rcases Int.lt_or_eq_of_le hh with b | b
  · rw [if_neg (show ¬ n < L by omega), if_neg (show ¬ n = L by omega), if_pos b]; rfl
  · rw [if_neg (show ¬ n < L by omega), if_neg (show ¬ n = L by omega), if_neg (show ¬ n < H by omega), if_pos b]; rfl
  · rw [if_neg (show ¬ n < L by omega), if_pos a.symm, if_pos b]; rfl
  · rw [if_neg (show ¬ n < L by omega), if_pos a.symm, if_neg (show ¬ n < H by omega), if_pos b]; rfl
theorem floor_isI {b : Nat} {n : Int} (h : IsI b n) (hn : n.natAbs < 9007199254740992) :
    ∃ r, (∀ (P : Program) (w : World), (Extern.MathFloor.toIntegral "math.archFloor" .down #[Fl b]).run P w = .ok (Fl r) w) ∧ IsI r n := by
  obtain ⟨s, m, i, hr, _⟩ := id h
  have hh : HasInt (.number s m i) n := by rw [← hr]; exact h
  have hb : min i 0 ≤ 0 := Int.min_le_right _ _
  have hs := floor_scale s m i (min i 0) hb (Int.min_le_left _ _)
  rw [val_lo hh hb (Int.min_le_left _ _)] at hs
  have hp : (0 : Int) < ((2 ^ (-(min i 0)).toNat : Nat) : Int) := by exact_mod_cast Nat.pow_pos (by decide)
  have k1 := Int.le_of_mul_le_mul_right hs.1 hp
  have k2 := Int.lt_of_mul_lt_mul_right hs.2 (Int.le_of_lt hp)
  have hf : floorI s m i = n := by omega
  refine ⟨double.nearest s (Toward.down.cut s (m <<< i.toNat) (-i).toNat) 0, fun P w => ?_, ?_⟩
  · have hd : FloatKind.f64.decode b = .number s m i := hr
    delta Extern.MathFloor.toIntegral
    show Sem.run P (Extern.MathFloor.toIntegral.match_1 (fun _ => Sem Value) (FloatKind.f64.decode b) _ _) w = _
    rw [hd]
    rfl
  · have hc : (floorI s m i).natAbs = Toward.down.cut s (m <<< i.toNat) (-i).toNat := by
      unfold floorI
      rw [signed_zero]
      cases s <;> simp
    rw [← hf]
    exact near_exact _ _ _ _ (isI_mk s _ (by rw [← hc, hf]; exact hn)) (by
      show (floorI s m i).natAbs < _
      rw [hf]; exact hn)
end Go.Vg
