/- Part on both sides at any float. -/
import Derived.Test.YtbnckhfkkoncbaaFU
import Derived.Test.YtbnckhfkkoncbaaV46
open Go Go.Vg Go.RowKit Go.Proofs Go.Proofs.Ytbnckhfkkoncbaa
namespace Go.Proofs.Ytbnckhfkkoncbaa
set_option linter.unusedSimpArgs false
open Ieee

theorem both_ok (b : Nat) : ∃ q : List UInt8 → Nat, (∀ s w, Ret Try.prog 27 ⟨[S s, Fl b]⟩ w fun v w' => v = Fl (q s) ∧ Ext w w') ∧ (∀ s w, Ret Try.prog 28 ⟨[S s, Fl b]⟩ w fun v w' => v = Fl (q s) ∧ Ext w w') := by
  cases h : inR cN cP b with
  | false => exact ⟨fun _ => nanB, fun s w => part_out s b w h, fun s w => refPart_out s b w h⟩
  | true =>
    obtain ⟨r, m, hf, hr, h1, h2⟩ := floor_in cN cP b (-100000000000) 100000000000 true false 6553600000000000 6553600000000000 (by kernel_rfl) (by kernel_rfl) (by kernel_rfl) (by kernel_rfl) h (by omega) (by omega)
    exact ⟨fun s => partB s m, fun s w => part_in s b r m w h hf hr h1 h2, fun s w => refPart_in s b r m w h hf hr h1 h2⟩
abbrev lo9 : Nat := 13994078682612760576
abbrev hi9 : Nat := 4770706645757984768
abbrev dowS : List UInt8 := [100, 97, 121, 95, 111, 102, 95, 119, 101, 101, 107]
theorem part_dow (m : Int) : partB dowS m = floatOfInt .f64 ((m / 86400 + 4) % 7) := by
  unfold partB partF dowS
  simp
theorem isI_c (s : Bool) (b n : Nat) (K : Int) (h : double.read b = .number s n (-16)) (e : n = K.natAbs * 65536) (hs : K ≠ 0 → s = decide (K < 0)) : IsI b K :=
  ⟨s, n, -16, h, .inr ⟨by decide, e⟩, hs⟩
theorem dow_ok (b : Nat) (m : Int) (hm : IsI b m) (h1 : -90000000000 ≤ m) (h2 : m ≤ 90000000000) : ∃ r k, k < 7 ∧ floatBits .add .f64 b 4680673776000565248 = some r
    ∧ (∀ w, Ret Try.prog 27 ⟨[S dowS, Fl r]⟩ w fun v w' => v = Fl (floatOfInt .f64 (((k : Nat) + 1 : Int) % 7)) ∧ Ext w w')
    ∧ (∀ w, Ret Try.prog 27 ⟨[S dowS, Fl b]⟩ w fun v w' => v = Fl (floatOfInt .f64 (k : Int)) ∧ Ext w w') := by
  have iN : IsI cN (-100000000000) := isI_c true cN 6553600000000000 _ (by kernel_rfl) (by decide) (by decide)
  have iP : IsI cP 100000000000 := isI_c false cP 6553600000000000 _ (by kernel_rfl) (by decide) (by decide)
  have iD : IsI 4680673776000565248 86400 := ⟨false, 5937362789990400, -36, by kernel_rfl, .inr ⟨by decide, by decide⟩, by decide⟩
  obtain ⟨r, hr, hri⟩ := add_isI hm iD (by omega)
  obtain ⟨r1, hf1, hr1⟩ := floor_isI hm (by omega)
  obtain ⟨r2, hf2, hr2⟩ := floor_isI hri (by omega)
  have h0 := Int.emod_nonneg (m / 86400 + 4) (b := 7) (by omega)
  have h7 := Int.emod_lt_of_pos (m / 86400 + 4) (b := 7) (by omega)
  refine ⟨r, ((m / 86400 + 4) % 7).toNat, by omega, hr, fun w => ?_, fun w => ?_⟩
  · have := part_in dowS r r2 (m + 86400) w (in_isI iN iP hri (by omega) (by omega)) hf2 hr2 (by omega) (by omega)
    rw [part_dow, show ((m + 86400) / 86400 + 4) % 7 = (((((m / 86400 + 4) % 7).toNat : Nat) : Int) + 1) % 7 by omega] at this
    exact this
  · have := part_in dowS b r1 m w (in_isI iN iP hm (by omega) (by omega)) hf1 hr1 (by omega) (by omega)
    rw [part_dow, show (m / 86400 + 4) % 7 = (((m / 86400 + 4) % 7).toNat : Int) by omega] at this
    exact this
end Go.Proofs.Ytbnckhfkkoncbaa
