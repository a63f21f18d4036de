/- New memory, the world behind it said in full. -/
import Derived.Test.YtfffblopkaandaaDoorV10
namespace Go.Vg
open Go.RowKit
section
variable {X : Cx} {ops : Array Oper} {e : Env} {w : World} {N : Env → World → Prop} {d : Nat} {ty : TypeId} {pos : String} {af : Array Edge} {g : Option (Nat × Bool)}
theorem Step.allocE (T : Tb X.P) {t : TypeId} {z : Value} {s b : Nat} {us : List Value} (hg : guardE ops e ⟨some d, .alloc t, ty, pos, af, g⟩ = some none)
    (hi : T.inf t = some (z, s, b)) (hv : z.cells = ⟨us⟩) (hn : Nat.blt d X.n = true)
    (h : N ((d, none, ptr w.heap.size) :: e) (w.alloc (.cells ⟨us⟩ t))) : Step X ops ⟨some d, .alloc t, ty, pos, af, g⟩ e w N :=
  Step.eff (v := ptr w.heap.size) (w' := w.alloc (.cells ⟨us⟩ t)) rfl (by simpa [Nat.blt_eq] using hn) hg (fun _ hh => by cases hh) (fun t' _ => by
    obtain ⟨i, h1, h2, _⟩ := T.iok _ _ _ _ hi
    simp only [execOp, Instr.alloc, zeroValue, typeInfo, run_program, h1, h2, newVar, newRow, hv, Sem.run_bind, run_newObj, Result.andThen_ok, Sem.run_pure]
    rfl) h
end
end Go.Vg
