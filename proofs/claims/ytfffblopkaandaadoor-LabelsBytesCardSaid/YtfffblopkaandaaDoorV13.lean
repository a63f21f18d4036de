/- Truth values compared. -/
import Derived.Test.YtfffblopkaandaaDoorV12
namespace Go.Vg
open Go.RowKit
section
variable {X : Cx} {ops : Array Oper} {e : Env} {w : World} {N : Env → World → Prop} {d : Nat} {c : Option Bool} {ty : TypeId} {pos : String} {af : Array Edge} {g : Option (Nat × Bool)}
theorem Step.neqB (T : Tb X.P) {xt yt : TypeId} {x y : Operand} {a b : Bool} (hg : guardE ops e ⟨some d, .binOp .neq xt x y yt, ty, pos, af, g⟩ = some c)
    (hx : Op1 e c x (.bool a)) (hy : Op1 e c y (.bool b)) (ht : T.ty xt = some .bool) (hn : Nat.blt d X.n = true)
    (h : N ((d, c, .bool (!(a == b))) :: e) w) : Step X ops ⟨some d, .binOp .neq xt x y yt, ty, pos, af, g⟩ e w N :=
  Step.quiet rfl (by simpa [Nat.blt_eq] using hn) hg (fun _ hh => by cases hh) (fun t hf hc => by
    have hT := T.ok _ _ ht
    have h1 : (eqGuard .neq xt x y (.bool a) (.bool b)).run X.P w = .ok () w := by simp [eqGuard]
    simp only [execOp, hx.val hf hc, hy.val hf hc, Sem.run_bind, h1, Result.andThen_ok, run_neq_bool _ _ _ _ hT, Sem.run_pure]) h
theorem Step.eqB (T : Tb X.P) {xt yt : TypeId} {x y : Operand} {a b : Bool} (hg : guardE ops e ⟨some d, .binOp .eql xt x y yt, ty, pos, af, g⟩ = some c)
    (hx : Op1 e c x (.bool a)) (hy : Op1 e c y (.bool b)) (ht : T.ty xt = some .bool) (hn : Nat.blt d X.n = true)
    (h : N ((d, c, .bool (a == b)) :: e) w) : Step X ops ⟨some d, .binOp .eql xt x y yt, ty, pos, af, g⟩ e w N :=
  Step.quiet rfl (by simpa [Nat.blt_eq] using hn) hg (fun _ hh => by cases hh) (fun t hf hc => by
    have hT := T.ok _ _ ht
    have h1 : (eqGuard .eql xt x y (.bool a) (.bool b)).run X.P w = .ok () w := by simp [eqGuard]
    simp only [execOp, hx.val hf hc, hy.val hf hc, Sem.run_bind, h1, Result.andThen_ok, run_eql_bool _ _ _ _ hT, Sem.run_pure]) h
end
end Go.Vg
