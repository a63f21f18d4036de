/- A text asked at a place of any kind. -/
import Derived.Test.YtbnckhfkkoncbaaV30
namespace Go.Vg
section
variable {X : Cx} {ops : Array Oper} {e : Env} {w : World} {N : Env → World → Prop} {d : Nat} {c : Option Bool} {ty : TypeId} {pos : String} {af : Array Edge} {g : Option (Nat × Bool)}
theorem Step.indexSk (T : Tb X.P) {x i : Operand} {st : TypeId} {l : List UInt8} {m : Int} {q : IntKind} (k : Nat)
    (hg : guardE ops e ⟨some d, .index st x i, ty, pos, af, g⟩ = some c)
    (hx : Op1 e c x (S l)) (hi : Op1 e c i (.int q m)) (ht : T.ty st = some .string) (hk : cv c = true → m = k ∧ k < l.length) (hn : Nat.blt d X.n = true)
    (h : N ((d, c, U (l.getD k 0)) :: e) w) : Step X ops ⟨some d, .index st x i, ty, pos, af, g⟩ e w N :=
  Step.quiet rfl (by simpa [Nat.blt_eq] using hn) hg (fun _ hh => by cases hh) (fun t hf hc => by
    obtain ⟨rfl, hlt⟩ := hk hc
    have hr := run_index_string (P := X.P) w st ⟨⟨l⟩⟩ q (k : Int) (T.ok _ _ ht)
    have hv : Act.eval ⟨t, X.ds⟩ x = .string ⟨⟨l⟩⟩ := hx.val hf hc
    have hlt' : k < (ByteArray.mk ⟨l⟩).size := hlt
    rw [dif_pos ⟨by omega, by exact_mod_cast hlt'⟩] at hr
    simp only [execOp, hv, hi.val hf hc, Sem.run_bind, hr, Result.andThen_ok, Sem.run_pure]
    have : (ByteArray.mk ⟨l⟩)[(k : Int).toNat]'(by simpa using hlt') = l.getD k 0 := by
      show l[k] = _
      simp [List.getD, hlt]
    rw [this]; rfl) h

end
end Go.Vg
