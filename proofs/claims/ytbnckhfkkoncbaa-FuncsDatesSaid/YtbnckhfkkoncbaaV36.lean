/- Four results. -/
import Derived.Test.YtbnckhfkkoncbaaV35
import Derived.OwnWalk
namespace Go.Vg
open Go.RowKit
theorem results_four {fn : Func} {s1 s2 s3 s4 : Tmp} (h : fn.results = #[.tmp s1, .tmp s2, .tmp s3, .tmp s4]) (tmps : Array Value) (P : Program) (w : World) :
    (results fn tmps).run P w = .ok (.tuple #[tmps.getD s1 undef, tmps.getD s2 undef, tmps.getD s3 undef, tmps.getD s4 undef]) w := by
  simp [results, h]
theorem G.ret4 {X : Cx} {k : List Kt} {e : Env} {w : World} {P : Program} {fn : Func} {R : Value → World → Prop} (hX : X.fin = retFin P fn R) (hd : X.ds = []) {s1 s2 s3 s4 : Nat} {v1 v2 v3 v4 : Value}
    (hr : fn.results = #[.tmp s1, .tmp s2, .tmp s3, .tmp s4]) (h1 : look e s1 = some (none, v1)) (h2 : look e s2 = some (none, v2)) (h3 : look e s3 = some (none, v3)) (h4 : look e s4 = some (none, v4)) (h : R (.tuple ⟨[v1, v2, v3, v4]⟩) w) : G X (.code .ret :: k) e w := by
  refine G.ret fun t ht => ?_
  rw [hX, hd]
  refine ⟨rfl, _, ?_, _, rfl, h⟩
  rw [results_four hr, (ht.get _ _ _ h1).2, (ht.get _ _ _ h2).2, (ht.get _ _ _ h3).2, (ht.get _ _ _ h4).2]
  rfl
end Go.Vg
