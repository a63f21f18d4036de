/- Texts cut at a separator, walked. -/
import Derived.Test.YtlaingmhdgpkdaaGreatDoorZC
import Derived.Lib.IndexLaws
import Derived.Lib.IndexMore
open Go Go.Vg Go.RowKit Go.Proofs Go.Proofs.YtlaingmhdgpkdaaGreatDoor
namespace Go.Proofs.YtlaingmhdgpkdaaGreatDoor
set_option linter.unusedSimpArgs false

def MaxC (w : World) : Prop := ∃ m, w.cell? ⟨(Tryz.lays145_ren.g 1), 0, none⟩ = some (.int .i64 m)
theorem MaxC.to {w w' : World} (h : MaxC w) (hx : Ext w w') : MaxC w' := by
  obtain ⟨m, hm⟩ := h
  refine ⟨m, ?_⟩
  rw [Below.cell hx (block_lt_of_cell hm)]; exact hm
theorem cut_ok (s sep : List UInt8) (w : World) (hs : s.length ≤ 4000000000) (hM : MaxC w) :
    Ret Tryz.prog 51 ⟨[S s, S sep]⟩ w fun r w' => r = .tuple ⟨[S (Lib.cut s sep).1, S (Lib.cut s sep).2.1, .bool (Lib.cut s sep).2.2]⟩ ∧ Ext w w' := by
  obtain ⟨m, hm⟩ := hM
  refine Calls.mono (Any.strings_Cut Tryz.lays145 ⟨⟨s⟩⟩ ⟨⟨sep⟩⟩ m w (by show s.length < _; omega) hm) ?_
  rintro e w' ⟨he, n, rfl⟩
  exact ⟨_, he, rfl, ⟨rfl, rfl, rfl, Nat.le_refl _, fun _ _ => rfl⟩⟩

/-- a text's pieces between separators -/
def piecesF (sep : List UInt8) : Nat → List UInt8 → List (List UInt8)
  | 0, s => [s]
  | n + 1, s => if Lib.index s sep < 0 then [s] else s.take (Lib.index s sep).toNat :: piecesF sep n (s.drop ((Lib.index s sep).toNat + sep.length))
def piecesL (s sep : List UInt8) : List (List UInt8) := if sep = [] then [s] else piecesF sep s.length s
theorem index_nil {sep : List UInt8} (h : sep ≠ []) : Lib.index [] sep = -1 := by
  cases sep with
  | nil => exact absurd rfl h
  | cons a r => rfl
theorem piecesF_fuel {sep : List UInt8} (hsep : sep ≠ []) : ∀ (n m : Nat) (s : List UInt8), s.length ≤ n → s.length ≤ m → piecesF sep n s = piecesF sep m s := by
  have hl : 0 < sep.length := List.length_pos_iff.2 hsep
  intro n
  induction n with
  | zero =>
    intro m s h1 h2
    obtain rfl : s = [] := List.eq_nil_of_length_eq_zero (by omega)
    cases m with
    | zero => rfl
    | succ m => simp [piecesF, index_nil hsep]
  | succ n ih =>
    intro m s h1 h2
    cases m with
    | zero =>
      obtain rfl : s = [] := List.eq_nil_of_length_eq_zero (by omega)
      simp [piecesF, index_nil hsep]
    | succ m =>
      simp only [piecesF]
      by_cases h : Lib.index s sep < 0
      · rw [if_pos h, if_pos h]
      · rw [if_neg h, if_neg h]
        have hr := Lib.index_room s sep (by omega)
        rw [ih m _ (by rw [List.length_drop]; omega) (by rw [List.length_drop]; omega)]
theorem piecesL_step {s sep : List UInt8} (hsep : sep ≠ []) : piecesL s sep = if Lib.index s sep < 0 then [s] else s.take (Lib.index s sep).toNat :: piecesL (s.drop ((Lib.index s sep).toNat + sep.length)) sep := by
  have hl : 0 < sep.length := List.length_pos_iff.2 hsep
  have h1 : piecesL s sep = piecesF sep (s.length + 1) s := by
    unfold piecesL
    rw [if_neg hsep]
    exact piecesF_fuel hsep _ _ s (Nat.le_refl _) (by omega)
  rw [h1]
  simp only [piecesF]
  by_cases h : Lib.index s sep < 0
  · rw [if_pos h, if_pos h]
  · rw [if_neg h, if_neg h]
    unfold piecesL
    rw [if_neg hsep]
    rw [piecesF_fuel hsep _ _ _ (by rw [List.length_drop]; omega) (Nat.le_refl _)]
theorem piecesL_cut {s sep : List UInt8} (hsep : sep ≠ []) : piecesL s sep = (Lib.cut s sep).1 :: (if (Lib.cut s sep).2.2 = true then piecesL (Lib.cut s sep).2.1 sep else []) := by
  rw [piecesL_step hsep]
  unfold Lib.cut
  by_cases h : Lib.index s sep < 0
  · rw [if_pos h, if_neg (by omega)]; rfl
  · rw [if_neg h, if_pos (by omega)]; rfl
theorem cut_len (s sep : List UInt8) : (Lib.cut s sep).1.length ≤ s.length ∧ (Lib.cut s sep).2.1.length ≤ s.length := by
  unfold Lib.cut
  split
  · simp only [List.length_take, List.length_drop]; omega
  · simp
theorem cut_less {s sep : List UInt8} (hsep : sep ≠ []) (h : (Lib.cut s sep).2.2 = true) : (Lib.cut s sep).2.1.length < s.length := by
  have hl : 0 < sep.length := List.length_pos_iff.2 hsep
  unfold Lib.cut at h ⊢
  split at h
  · rename_i h0
    have hr := Lib.index_room s sep h0
    rw [if_pos h0]
    simp only [List.length_drop]; omega
  · cases h

end Go.Proofs.YtlaingmhdgpkdaaGreatDoor
