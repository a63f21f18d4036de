/- math.Floor at any float: walked; the sums of days of the week. -/
import Derived.Test.YtbnckhfkkoncbaaFV
import Derived.Test.YtbnckhfkkoncbaaV48
open Go Go.Vg Go.RowKit Go.Proofs Go.Proofs.Ytbnckhfkkoncbaa
namespace Go.Proofs.Ytbnckhfkkoncbaa
set_option linter.unusedSimpArgs false
open Ieee

theorem in_isI' {lo hi b : Nat} {L H n : Int} (h1 : IsI lo L) (h2 : IsI hi H) (h : IsI b n) (hb : inR lo hi b = true) : L ≤ n ∧ n ≤ H := by
  have e1 : FloatKind.f64.format.order b lo = some (compare n L) := order_int h h1
  have e2 : FloatKind.f64.format.order b hi = some (compare n H) := order_int h h2
  unfold inR at hb
  rw [e1, e2] at hb
  simp only [Bool.and_eq_true, Bool.or_eq_true, beq_iff_eq, Option.some.injEq] at hb
  exact ⟨cmp_ge hb.1, cmp_le hb.2⟩
theorem floorAny_ok (b : Nat) (w : World) :
    Ret Try.prog 29 ⟨[Fl b]⟩ w fun v w' => (∃ r, v = Fl r ∧ (inR lo9 hi9 r = true → ∃ m, IsI r m ∧ -90000000000 ≤ m ∧ m ≤ 90000000000)) ∧ Ext w w' := by
  obtain ⟨r, w', h, hx, hm⟩ := floor_any Try.prog b w lo9 hi9 5898240000000000 (by kernel_rfl) (by kernel_rfl) (by omega)
  have iL : IsI lo9 (-90000000000) := isI_c true lo9 5898240000000000 _ (by kernel_rfl) (by decide) (by decide)
  have iH : IsI hi9 90000000000 := isI_c false hi9 5898240000000000 _ (by kernel_rfl) (by decide) (by decide)
  have hm' : inR lo9 hi9 r = true → ∃ m, IsI r m ∧ -90000000000 ≤ m ∧ m ≤ 90000000000 := fun hr => by
    obtain ⟨m, hi⟩ := hm hr
    exact ⟨m, hi, in_isI' iL iH hi hr⟩
  have hrun : (callFunc 73 #[Fl b]).run Try.prog w = .ok (.value (Fl r)) w' := by
    rw [run_callFunc_extern Try.func73 (by kernel_rfl) (by kernel_rfl) (by kernel_rfl) (e := Extern.MathFloor.toIntegral "math.archFloor" .down) (by kernel_rfl), h]; rfl
  refine ret_of_G Try.func29 rfl Try.ntmps29 rfl ?_
  simp only [argEnv]
  try (first | refine gl tb ?_ | refine gg tb ?_ | refine ll tb ?_ | refine lg tb ?_); repeat ((first | refine G.condT rfl ?_ | refine G.condF rfl ?_ | refine sFa tb ?_ | refine sLd tb ?_ | refine sLa tb ?_ | refine sLen tb ?_ | refine sFd tb ?_ | refine sBd tb ?_ | refine sBa tb ?_); try (first | refine gl tb ?_ | refine gg tb ?_ | refine ll tb ?_ | refine lg tb ?_))
  refine GL.cons (Step.extW (vs := [Fl b]) (v := Fl r) (w' := w') rfl rfl (by repeat (first | exact OpL.nil | refine OpL.cons (Op1.of rfl (by first | exact fun _ => rfl | exact fun h => h | exact fun h => bL h | exact fun h => bL (bL h) | exact fun h => bL (bL (bL h)))) ?_)) hrun rfl ?_)
  try (first | refine gl tb ?_ | refine gg tb ?_ | refine ll tb ?_ | refine lg tb ?_); repeat ((first | refine G.condT rfl ?_ | refine G.condF rfl ?_ | refine sFa tb ?_ | refine sLd tb ?_ | refine sLa tb ?_ | refine sLen tb ?_ | refine sFd tb ?_ | refine sBd tb ?_ | refine sBa tb ?_); try (first | refine gl tb ?_ | refine gg tb ?_ | refine ll tb ?_ | refine lg tb ?_))
  refine G.ret1 rfl rfl rfl rfl ?_
  exact ⟨⟨r, rfl, hm'⟩, hx⟩
theorem plus_one (k : Nat) (hk : k < 7) : floatBits .add .f64 (floatOfInt .f64 (k : Int)) 4607182418800017408 = some (fl7 k) := by
  rcases (show k = 0 ∨ k = 1 ∨ k = 2 ∨ k = 3 ∨ k = 4 ∨ k = 5 ∨ k = 6 by omega) with rfl | rfl | rfl | rfl | rfl | rfl | rfl <;> kernel_rfl
theorem same_day (j : Nat) (hj : j < 7) : fcmpB .neq (floatOfInt .f64 (j : Int)) (floatOfInt .f64 (j : Int)) = some false := by
  rcases (show j = 0 ∨ j = 1 ∨ j = 2 ∨ j = 3 ∨ j = 4 ∨ j = 5 ∨ j = 6 by omega) with rfl | rfl | rfl | rfl | rfl | rfl | rfl <;> kernel_rfl
end Go.Proofs.Ytbnckhfkkoncbaa
