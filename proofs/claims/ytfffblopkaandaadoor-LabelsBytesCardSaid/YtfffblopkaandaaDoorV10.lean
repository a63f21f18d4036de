/- Boxes, the world behind them said in full. -/
import Derived.Test.YtfffblopkaandaaDoorV9
namespace Go.Vg
open Go.RowKit
section
variable {X : Cx} {ops : Array Oper} {e : Env} {w : World} {N : Env → World → Prop} {d : Nat} {ty : TypeId} {pos : String} {af : Array Edge} {g : Option (Nat × Bool)}
theorem Step.boxE {t : TypeId} {x : Operand} {v : Value} {us : List Value} (hg : guardE ops e ⟨some d, .box t x, ty, pos, af, g⟩ = some none) (hx : Op1 e none x v) (hc : v.cells = ⟨us⟩) (hn : Nat.blt d X.n = true)
    (h : N ((d, none, ptr w.heap.size) :: e) (w.alloc (.cells ⟨us⟩ t))) : Step X ops ⟨some d, .box t x, ty, pos, af, g⟩ e w N :=
  Step.eff (v := ptr w.heap.size) (w' := w.alloc (.cells ⟨us⟩ t)) rfl (by simpa [Nat.blt_eq] using hn) hg (fun _ hh => by cases hh) (fun t' hf => by
    simp only [execOp, hx.val hf rfl, Instr.box, newVar, newRow, hc, run_newObj, Sem.run_bind, Result.andThen_ok, Sem.run_pure]
    rfl) h
end
end Go.Vg
