/- A text cut by numbers of any kind. -/
import Derived.Test.YtlaingmhdgpkdaaGreatDoorV30
namespace Go.Vg
section
variable {X : Cx} {ops : Array Oper} {e : Env} {w : World} {N : Env → World → Prop} {d : Nat} {c : Option Bool} {ty : TypeId} {pos : String} {af : Array Edge} {g : Option (Nat × Bool)}
theorem Step.sliceSk (T : Tb X.P) {x i j : Operand} {st : TypeId} {l : List UInt8} {q q' : IntKind} {m n : Int} (a b : Nat)
    (hg : guardE ops e ⟨some d, .slice st x (some i) (some j) none, ty, pos, af, g⟩ = some c)
    (hx : Op1 e c x (S l)) (hi : Op1 e c i (.int q m)) (hj : Op1 e c j (.int q' n)) (ht : T.ty st = some .string)
    (hk : cv c = true → m = a ∧ n = b ∧ a ≤ b ∧ b ≤ l.length) (hn : Nat.blt d X.n = true)
    (h : N ((d, c, S ((l.drop a).take (b - a))) :: e) w) : Step X ops ⟨some d, .slice st x (some i) (some j) none, ty, pos, af, g⟩ e w N :=
  Step.quiet rfl (by simpa [Nat.blt_eq] using hn) hg (fun _ hh => by cases hh) (fun t hf hc => by
    obtain ⟨rfl, rfl, h1, h2⟩ := hk hc
    have h2' : b ≤ (ByteArray.mk ⟨l⟩).size := h2
    have hr := run_slice_string (P := X.P) w st ⟨⟨l⟩⟩ q q' (a : Int) (b : Int) (T.ok _ _ ht) (by omega) (by omega) (by exact_mod_cast h2')
    have ha := run_sliceAt_string (P := X.P) w st (.string ⟨⟨l⟩⟩) (some (.int q a)) (some (.int q' b)) none (T.ok _ _ ht)
    have hv : Act.eval ⟨t, X.ds⟩ x = .string ⟨⟨l⟩⟩ := hx.val hf hc
    simp only [execOp, hv, hi.val hf hc, hj.val hf hc, Option.map_some, Option.map_none, Sem.run_bind, ha, hr, Result.andThen_ok, Sem.run_pure]
    rw [mk_toArr, ByteArray.extract_mk]; rfl) h
end
end Go.Vg
