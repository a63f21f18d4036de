/- The order of names: plain. -/
import Derived.Test.YtfffblopkaandaaDoorLO
open Go Go.Vg Go.RowKit Go.Proofs Go.Proofs.YtfffblopkaandaaDoor
namespace Go.Proofs.YtfffblopkaandaaDoor
set_option linter.unusedSimpArgs false
open Go.Sort

abbrev bl (a b : List UInt8) : Bool := Op.bytesLess a b
theorem bl_cons (a b : UInt8) (x y : List UInt8) : Op.bytesLess (a :: x) (b :: y) = true ↔ a.toNat < b.toNat ∨ a = b ∧ Op.bytesLess x y = true := by
  simp only [Op.bytesLess, Bool.or_eq_true, Bool.and_eq_true, decide_eq_true_eq, beq_iff_eq, UInt8.lt_iff_toNat_lt]
theorem bl_irrefl : ∀ a : List UInt8, Op.bytesLess a a = false
  | [] => rfl
  | a :: x => by
    rw [Bool.eq_false_iff]
    intro h
    rcases (bl_cons _ _ _ _).1 h with h | ⟨_, h⟩
    · omega
    · rw [bl_irrefl x] at h; cases h
theorem bl_trans : ∀ {a b c : List UInt8}, Op.bytesLess a b = true → Op.bytesLess b c = true → Op.bytesLess a c = true
  | _, _, [], _, h => by unfold Op.bytesLess at h; cases h
  | [], _, _ :: _, _, _ => rfl
  | _ :: _, [], _, h, _ => by unfold Op.bytesLess at h; cases h
  | a :: x, b :: y, c :: z, h1, h2 => by
    rw [bl_cons] at h1 h2 ⊢
    rcases h1 with h1 | ⟨rfl, h1⟩
    · rcases h2 with h2 | ⟨rfl, h2⟩
      · exact .inl (by omega)
      · exact .inl h1
    · rcases h2 with h2 | ⟨rfl, h2⟩
      · exact .inl h2
      · exact .inr ⟨rfl, bl_trans h1 h2⟩
theorem bl_tri : ∀ (a b : List UInt8), Op.bytesLess a b = true ∨ a = b ∨ Op.bytesLess b a = true
  | [], [] => .inr (.inl rfl)
  | [], _ :: _ => .inl rfl
  | _ :: _, [] => .inr (.inr rfl)
  | a :: x, b :: y => by
    rw [bl_cons, bl_cons]
    rcases Nat.lt_trichotomy a.toNat b.toNat with h | h | h
    · exact .inl (.inl h)
    · obtain rfl := UInt8.toNat_inj.1 h
      rcases bl_tri x y with h | rfl | h
      · exact .inl (.inr ⟨rfl, h⟩)
      · exact .inr (.inl rfl)
      · exact .inr (.inr (.inr ⟨rfl, h⟩))
    · exact .inr (.inr (.inl h))
theorem bl_asymm {a b : List UInt8} (h : Op.bytesLess a b = true) : Op.bytesLess b a = false := by
  rw [Bool.eq_false_iff]
  intro h2
  have := bl_trans h h2
  rw [bl_irrefl] at this; cases this
theorem bl_not {a b : List UInt8} (h : Op.bytesLess a b = false) : b = a ∨ Op.bytesLess b a = true := by
  rcases bl_tri a b with h1 | h1 | h1
  · rw [h1] at h; cases h
  · exact .inl h1.symm
  · exact .inr h1
def cfL (x y : Lab) : Int := cmpB x.1 y.1
theorem ltL (x y : Lab) : ltOf cfL x y = Op.bytesLess x.1 y.1 := by
  unfold ltOf cfL cmpB
  cases Op.bytesLess x.1 y.1 with
  | true => rfl
  | false =>
    simp only [Bool.false_eq_true, if_false]
    split <;> rfl
theorem swoL : SWO (ltOf cfL) where
  irrefl x := by rw [ltL]; exact bl_irrefl _
  trans x y z h1 h2 := by rw [ltL] at *; exact bl_trans h1 h2
  ntrans x y z h1 h2 := by
    rw [ltL] at *
    rw [Bool.eq_false_iff]
    intro h
    rcases bl_not h1 with e | e
    · rw [e] at h2; rw [h] at h2; cases h2
    · have := bl_trans e h
      rw [this] at h2; cases h2
end Go.Proofs.YtfffblopkaandaaDoor
