/- What all statements of this seat share: nothing is laid. -/
import Derived.Test.YtbnckhfkkoncbaaFG
import Derived.Test.YtbnckhfkkoncbaaGV1
import Derived.Test.YtbnckhfkkoncbaaRows
import Derived.Deep.DeepWitnessRowRef
import Derived.Lib.LaidIn
import Derived.PinnedBridge
import Derived.Shelf.Vars
import Derived.SizedLaws
open Go Go.Vg Go.RowKit Go.Proofs Go.Proofs.Ytbnckhfkkoncbaa
namespace Go.Proofs.Ytbnckhfkkoncbaa
set_option linter.unusedSimpArgs false
open Go.Lib Go.Shelf Go.ChangeShapes Go.WideShapes Go.ChangeAt

theorem own : ownKnob Try.prog.godebug = none := by kernel_rfl
theorem laidOut : laidOutB Try.prog = true := by kernel_rfl
/-- a world -/
noncomputable def laidWorld (os : Os) : World := World.holding Try.prog os ⟨#[], #[], []⟩
theorem laid_met (os : Os) (args : Array Value) : laidMet Try.prog [] ((laidWorld os).forCall (fun _ _ => 0) ⟨#[], args, []⟩).memory := ⟨[], rfl, List.nodup_nil, fun _ _ h => by cases h⟩
end Go.Proofs.Ytbnckhfkkoncbaa
