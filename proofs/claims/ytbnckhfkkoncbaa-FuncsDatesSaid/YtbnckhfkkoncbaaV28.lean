/- Bytes of a constant text: the row gets its mark. -/
import Derived.Test.YtbnckhfkkoncbaaV27
import Derived.Lib.SlBytesConst
namespace Go.Vg
open Go.RowKit

/-- as Below, but that some block from B on may bear a mark -/
theorem Sli.same {w w' : World} {v : Value} {k : Nat} {xs : List (List Value)} (h : Sli w v k xs) (hc : ∀ a, w'.cell? a = w.cell? a) : Sli w' v k xs := by
  rcases h with h | ⟨a, cap, h1, h2, h3, h4, h5, h6⟩
  · exact .inl h
  · exact .inr ⟨a, cap, h1, h2, h3, h4, fun i x hx j u hu => by rw [hc]; exact h5 i x hx j u hu, h6⟩
section
variable {X : Cx} {ops : Array Oper} {l : List Oper} {k : List Kt} {e : Env} {w : World} {N : Env → World → Prop} {d : Nat} {c : Option Bool} {ty : TypeId} {pos : String} {af : Array Edge} {g : Option (Nat × Bool)}
theorem Step.markS (T : Tb X.P) {x : Operand} {t et : TypeId} {v : Value} {B : Nat} {xs : List UInt8} (hg : guardE ops e ⟨some d, .convert t t x, ty, pos, af, g⟩ = some none) (hx : Op1 e none x v) (ht : T.ty t = some (.slice et)) (he : T.ty et = some (.int .u8))
    (hv : Owns w B v et 1 (bysC xs)) (hne : xs ≠ []) (hn : Nat.blt d X.n = true) (h : ∀ w', By w' v xs → Below B w w' → N ((d, none, v) :: e) w') : Step X ops ⟨some d, .convert t t x, ty, pos, af, g⟩ e w N := by
  have hs := hv.sli
  rcases hv.1.2 with ⟨rfl, h0⟩ | ⟨gb, cap, cur, rfl, hB, hb, _, _, _, _⟩
  · rw [bysC_len] at h0
    exact absurd (List.length_eq_zero_iff.1 h0) hne
  · have hsh : w.shape? gb = some (et, cur.size) := by unfold World.shape?; rw [hb]
    obtain ⟨W, hW⟩ : ∃ W, W = w.freeze ⟨gb, cur.size, none⟩ 1 := ⟨_, rfl⟩
    have hblk : ∀ r, r ≠ gb → W.heap[r]? = w.heap[r]? := by
      intro r hr
      rw [hW]; unfold World.freeze; rw [if_neg (by decide)]
      show (w.heap.modify gb _)[r]? = _
      rw [Array.getElem?_modify, if_neg (fun q => hr q.symm)]
    have hsame : W.heap[gb]? = some (.cells cur et (cur.size, cur.size + 1)) := by
      rw [hW]; unfold World.freeze; rw [if_neg (by decide)]
      show (w.heap.modify gb _)[gb]? = _
      rw [Array.getElem?_modify, if_pos rfl, hb]; rfl
    have hsize : W.heap.size = w.heap.size := by
      rw [hW]; unfold World.freeze; rw [if_neg (by decide)]
      show (w.heap.modify gb _).size = _
      simp
    have hcell : ∀ a, W.cell? a = w.cell? a := by
      intro a
      unfold World.cell?
      by_cases ha : a.block = gb
      · rw [ha, hsame, hb]
      · rw [hblk _ ha]
    refine Step.eff (v := .slice (some ⟨gb, 0, none⟩) (bysC xs).length cap) (w' := W) rfl (by simpa [Nat.blt_eq] using hn) hg (fun _ hh => by cases hh) (fun t' hf => ?_) (h W (hs.same hcell) ?_)
    · have hr : (convert t t (.slice (some ⟨gb, 0, none⟩) (bysC xs).length cap)).run X.P w = .ok (.slice (some ⟨gb, 0, none⟩) (bysC xs).length cap) W := by
        rw [hW]
        simp [convert, run_underlying (T.ok _ _ ht), run_underlying (T.ok _ _ he), markStringish, hsh]
      simp only [execOp, hx.val hf rfl, Sem.run_bind, hr, Result.andThen_ok, Sem.run_pure]
    · have e1 : W.os = w.os ∧ W.tape = w.tape ∧ W.output = w.output := by
        rw [hW]; unfold World.freeze; rw [if_neg (by decide)]; exact ⟨rfl, rfl, rfl⟩
      exact ⟨e1.1, e1.2.1, e1.2.2, by rw [hsize]; exact Nat.le_refl _, fun r hr => hblk r (by omega)⟩
end
end Go.Vg
