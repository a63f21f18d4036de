/- The reference's Params, walked. -/
import Derived.Test.YtlaingmhdgpkdaaGreatDoorZF
open Go Go.Vg Go.RowKit Go.Proofs Go.Proofs.YtlaingmhdgpkdaaGreatDoor
namespace Go.Proofs.YtlaingmhdgpkdaaGreatDoor
set_option linter.unusedSimpArgs false

theorem Strs.at {ns : List (List UInt8)} {k : Nat} (h : k < ns.length) : ∃ s, (ns.map strC)[k]? = some (strC s) ∧ s ∈ ns ∧ ns[k]? = some s := ⟨ns[k], by simp [h], List.getElem_mem h, by simp [h]⟩
theorem piecesF_len (sep : List UInt8) : ∀ (n : Nat) (s p : List UInt8), p ∈ piecesF sep n s → p.length ≤ s.length
  | 0, s, p, h => by simp only [piecesF, List.mem_cons, List.not_mem_nil, or_false] at h; subst h; exact Nat.le_refl _
  | n + 1, s, p, h => by
    simp only [piecesF] at h
    split at h
    · simp only [List.mem_cons, List.not_mem_nil, or_false] at h; subst h; exact Nat.le_refl _
    · rcases List.mem_cons.1 h with h | h
      · subst h; rw [List.length_take]; omega
      · have := piecesF_len sep n _ p h
        rw [List.length_drop] at this; omega
theorem piecesL_len {s sep p : List UInt8} (h : p ∈ piecesL s sep) : p.length ≤ s.length := by
  unfold piecesL at h
  split at h
  · simp only [List.mem_cons, List.not_mem_nil, or_false] at h; subst h; exact Nat.le_refl _
  · exact piecesF_len _ _ _ _ h
theorem piecesF_cnt {sep : List UInt8} (hsep : sep ≠ []) : ∀ (n : Nat) (s : List UInt8), (piecesF sep n s).length ≤ s.length + 1
  | 0, s => by simp [piecesF]
  | n + 1, s => by
    have hl : 0 < sep.length := List.length_pos_iff.2 hsep
    simp only [piecesF]
    split
    · simp
    · rename_i h
      have hr := Lib.index_room s sep (by omega)
      have := piecesF_cnt hsep n (s.drop ((Lib.index s sep).toNat + sep.length))
      rw [List.length_drop] at this
      simp only [List.length_cons]; omega
theorem piecesL_cnt (s sep : List UInt8) : (piecesL s sep).length ≤ s.length + 1 := by
  unfold piecesL
  split
  · simp
  · rename_i h; exact piecesF_cnt h _ _
theorem dec_cut (p : List UInt8) : (Lib.cut p [61]).1 = (if 0 ≤ Lib.index p [61] then p.take (Lib.index p [61]).toNat else p) ∧ (Lib.cut p [61]).2.1 = (if 0 ≤ Lib.index p [61] then p.drop ((Lib.index p [61]).toNat + 1) else []) := by
  unfold Lib.cut
  split <;> simp

end Go.Proofs.YtlaingmhdgpkdaaGreatDoor
