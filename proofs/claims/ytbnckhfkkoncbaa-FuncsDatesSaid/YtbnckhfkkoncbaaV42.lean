/- math.Floor of a float between two whole bounds. -/
import Derived.Test.YtbnckhfkkoncbaaV41
namespace Go.Vg
open Go.RowKit Ieee

/-- is it no less than lo, and no more than hi? -/
def inR (lo hi b : Nat) : Bool := (FloatKind.f64.format.order b lo == some .gt || FloatKind.f64.format.order b lo == some .eq) && (FloatKind.f64.format.order b hi == some .lt || FloatKind.f64.format.order b hi == some .eq)
theorem isI_mk (s : Bool) (c : Nat) (hn : c < 9007199254740992) : HasInt (.number s c 0) (signed s c 0) := by
  refine ⟨s, c, 0, rfl, .inl ⟨Int.le_refl _, ?_⟩, ?_⟩
  · rw [signed_zero]; cases s <;> simp
  · rw [signed_zero]
    cases s with
    | false =>
      simp only [Bool.false_eq_true, if_false]
      intro _
      exact (decide_eq_false (by omega)).symm
    | true =>
      simp only [if_true]
      intro h
      exact (decide_eq_true (by omega)).symm
/-- a float between two numbers that are whole after so many binary digits -/
theorem floor_in (lo hi b : Nat) (L H : Int) (t1 t2 : Bool) (n1 n2 : Nat) (h1 : double.read lo = .number t1 n1 (-16)) (h2 : double.read hi = .number t2 n2 (-16)) (e1 : signed t1 n1 0 = L * 65536) (e2 : signed t2 n2 0 = H * 65536)
    (hb : inR lo hi b = true) (hL : -4503599627370496 ≤ L) (hH : H ≤ 4503599627370496) :
    ∃ r m, (∀ (P : Program) (w : World), (Extern.MathFloor.toIntegral "math.archFloor" .down #[Fl b]).run P w = .ok (Fl r) w) ∧ IsI r m ∧ L ≤ m ∧ m ≤ H := by
  unfold inR at hb
  simp only [Bool.and_eq_true, Bool.or_eq_true, beq_iff_eq] at hb
  obtain ⟨hb1, hb2⟩ := hb
  have hb1 : (double.read b).order (double.read lo) = some .gt ∨ (double.read b).order (double.read lo) = some .eq := hb1
  have hb2 : (double.read b).order (double.read hi) = some .lt ∨ (double.read b).order (double.read hi) = some .eq := hb2
  rw [h1] at hb1
  rw [h2] at hb2
  cases hr : double.read b with
  | nan s f => rw [hr] at hb1; simp [Datum.order] at hb1
  | infinity s =>
    rw [hr] at hb1 hb2
    cases s <;> simp [Datum.order] at hb1 hb2
  | number s m i =>
    rw [hr] at hb1 hb2
    have k1 := (order_floor (s := s) (m := m) (i := i) (t := t1) (n := n1) (j := -16) (C := L) (by decide) (by rw [show ((2 ^ (- (-16 : Int)).toNat : Nat) : Int) = 65536 by decide]; exact e1)).1 hb1
    have k2 := (order_floor (s := s) (m := m) (i := i) (t := t2) (n := n2) (j := -16) (C := H) (by decide) (by rw [show ((2 ^ (- (-16 : Int)).toNat : Nat) : Int) = 65536 by decide]; exact e2)).2 hb2
    refine ⟨double.nearest s (Toward.down.cut s (m <<< i.toNat) (-i).toNat) 0, floorI s m i, fun P w => ?_, ?_, k1, k2⟩
    · have hd : FloatKind.f64.decode b = .number s m i := hr
      delta Extern.MathFloor.toIntegral
      show Sem.run P (Extern.MathFloor.toIntegral.match_1 (fun _ => Sem Value) (FloatKind.f64.decode b) _ _) w = _
      rw [hd]
      rfl
    · have hc : (floorI s m i).natAbs = Toward.down.cut s (m <<< i.toNat) (-i).toNat := by
        unfold floorI
        rw [signed_zero]
        cases s <;> simp
      refine near_exact _ _ _ _ (isI_mk s _ (by omega)) (by
        show (floorI s m i).natAbs < _
        omega)
theorem f2i_isI {r : Nat} {m : Int} (h : IsI r m) (h1 : -9223372036854775808 ≤ m) (h2 : m ≤ 9223372036854775807) : floatToIntVal .f64 r .i64 = some m := by
  unfold floatToIntVal
  have : (FloatKind.f64.decode r).toInt .zero = some m := toInt_isI h
  rw [this]
  simp only
  have e1 : IntKind.i64.min = -9223372036854775808 := by decide
  have e2 : IntKind.i64.max = 9223372036854775807 := by decide
  rw [if_pos (by rw [e1, e2]; exact ⟨h1, h2⟩)]
end Go.Vg
