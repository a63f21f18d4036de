/- Texts turned to bytes. -/
import Derived.Test.YtbnckhfkkoncbaaV24
import Derived.Lib.SlBytesConst
namespace Go.Vg
open Go.RowKit
section
variable {X : Cx} {ops : Array Oper} {l : List Oper} {kk : List Kt} {e : Env} {w : World} {N : Env → World → Prop} {d : Nat} {c : Option Bool} {ty : TypeId} {pos : String} {af : Array Edge} {g : Option (Nat × Bool)}
theorem Step.strBytes (T : Tb X.P) {x : Operand} {src dst et : TypeId} {s : List UInt8} (hg : guardE ops e ⟨some d, .convert src dst x, ty, pos, af, g⟩ = some none)
    (hx : Op1 e none x (S s)) (hs : T.ty src = some .string) (ht : T.ty dst = some (.slice et)) (he : T.ty et = some (.int .u8)) (hl : s.length ≤ 9223372036854775807) (hn : Nat.blt d X.n = true)
    (h : ∀ v w', By w' v s → w'.heap.size = w.heap.size + 1 → Ext w w' → N ((d, none, v) :: e) w') : Step X ops ⟨some d, .convert src dst x, ty, pos, af, g⟩ e w N := by
  have hr := run_bytes_of_string w src dst et ⟨⟨s⟩⟩ (T.ok _ _ hs) (T.ok _ _ ht) (T.ok _ _ he)
  obtain ⟨G, hG⟩ : ∃ G, G = grownCap w (⟨⟨s⟩⟩ : ByteArray).size 0 et := ⟨_, rfl⟩
  have hge := grownCap_ge w (⟨⟨s⟩⟩ : ByteArray).size 0 et
  rw [← hG] at hr hge
  have hsz : (⟨⟨s⟩⟩ : ByteArray).size = s.length := rfl
  rw [hsz] at hr hge
  refine Step.eff rfl (by simpa [Nat.blt_eq] using hn) hg (fun _ hh => by cases hh) (fun t' hf => ?_) (h (.slice (some ⟨w.heap.size, 0, none⟩) s.length G) (w.drew.alloc (.cells (bytesRow ⟨⟨s⟩⟩ G) et ((bytesRow ⟨⟨s⟩⟩ G).size, (bytesRow ⟨⟨s⟩⟩ G).size + 1))) ?_ (by simp) ((Ext.drew w).trans (Ext.alloc _ _)))
  · have hv := hx.val (ds := X.ds) hf rfl
    simp only [execOp, hv]
    have : S s = .string ⟨⟨s⟩⟩ := rfl
    rw [this]
    simp only [Sem.run_bind, hr, Result.andThen_ok, Sem.run_pure]
  · refine .inr ⟨⟨w.heap.size, 0, none⟩, G, by rw [bysC_len], rfl, by rw [bysC_len]; exact hge, bysC_k s, ?_, by rw [bysC_len]; exact hl⟩
    intro i x hx j u hu
    have hi : i < s.length := by
      have := (List.getElem?_eq_some_iff.1 hx).1
      rwa [bysC_len] at this
    rw [bysC_get hi] at hx
    cases hx
    have hj : j = 0 := by
      have := (List.getElem?_eq_some_iff.1 hu).1
      simp at this; exact this
    subst hj
    cases hu
    simp only [Addr.add_lit, Nat.zero_add, Nat.mul_one, Nat.add_zero]
    refine (cell_of_row _ w.heap.size i (bytesRow ⟨⟨s⟩⟩ G) et _ (heap_alloc_new w.drew _)).trans ?_
    unfold bytesRow
    have hm : ((⟨⟨s⟩⟩ : ByteArray).data.map (fun b => Value.int .u8 b.toNat)).size = s.length := by simp
    rw [Array.getElem?_append_left (by rw [hm]; exact hi)]
    simp [List.getD, hi, U]
end
end Go.Vg
