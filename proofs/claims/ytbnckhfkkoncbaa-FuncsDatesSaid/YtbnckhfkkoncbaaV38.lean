/- The lesser of two numbers. -/
import Derived.Test.YtbnckhfkkoncbaaV37
namespace Go.Vg
open Go.RowKit
section
variable {X : Cx} {ops : Array Oper} {l : List Oper} {k : List Kt} {e : Env} {w : World} {N : Env → World → Prop} {d : Nat} {c : Option Bool} {ty : TypeId} {pos : String} {af : Array Edge} {g : Option (Nat × Bool)}
theorem Step.min2 {x y : Operand} {t1 t2 : TypeId} {q : IntKind} {a b : Int} (hg : guardE ops e ⟨some d, .call { callee := .builtin .min, args := #[x, y], argTypes := #[t1, t2] }, ty, pos, af, g⟩ = some none)
    (hx : Op1 e none x (.int q a)) (hy : Op1 e none y (.int q b)) (hn : Nat.blt d X.n = true)
    (h : N ((d, none, .int q (if b < a then b else a)) :: e) w) : Step X ops ⟨some d, .call { callee := .builtin .min, args := #[x, y], argTypes := #[t1, t2] }, ty, pos, af, g⟩ e w N :=
  Step.eff rfl (by simpa [Nat.blt_eq] using hn) hg (fun _ hh => by cases hh) (fun t' hf => run_builtin2 (hx.val hf rfl) (hy.val hf rfl) fun cs => by
    simp [builtin, Builtin.min_, Builtin.min2]) h
end
end Go.Vg
