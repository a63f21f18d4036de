/-
  No cell of these rows narrows 'for every input' (looked for: loops, veiled, ifaces, maps, wideKeys, modest, calm, conditions, laid).
  DERIVED. THE GIVEN ROWS OF THIS SEAT. 6 by the template 'for every input the law returns true; each argument reads behind the call as it read before'; 0 by the template 'total and deterministic' (their statements: YtbnckhfkkoncbaaTotals.lean).
  GIVEN WITH THE SEED: the statements are not yours to turn. If you find one false, say at which input.
  Laid BY PROGRAM, IN A SANDBOX (cutbox-rows.mjs): the forced cells as the released guide's own fill.sh prints them over the translation 2150b39beaeb848d… (all of the seat's roots in one cut). By AI agents, Wed Nov 11 2026. No macro, syntax, notation, axiom, sorry.
-/
import Derived.Test.YtbnckhfkkoncbaaChecked
import GoSem.Claim
import GoSem.ClaimJoined
import GoSem.ClaimMapViews
import Derived.JoinedTies
import Derived.KernelRfl
namespace Go.Proofs.Ytbnckhfkkoncbaa
/- THE CELL 'sum', in the pinned program and in every row, IS THE sha256 OF THE DUMP (.gsa) THAT YtbnckhfkkoncbaaProg.lean LOADS. Nothing in Lean hashes anything: it is a label: what it is worth is what the hold of that sum in a sandbox is worth. -/
noncomputable def Try.pinned : Pinned := { name := "ytbnckhfkkoncbaa", sum := "2150b39beaeb848db51b91ab1130396e41d7ec5c1ae3810d77a99ef9e3394698", checked := Try.checked }
namespace Rows
def none {H : Type} : Left H := { results := [], args := [] }

/-- 'vigillaw14.FuncsCounter': WHATEVER THE INPUT: true; the input reads as it did. -/
def funcsCounterSpec : ChangeSpec := { name := "funcsCounter", fn := fun _ => fun
  | [d1, d2, d3] => { results := [.lit (.bool true)], args := [d1, d2, d3] }
  | _ => none }
def funcsCounterRow : OpenClaim := { program := "ytbnckhfkkoncbaa", sum := "2150b39beaeb848db51b91ab1130396e41d7ec5c1ae3810d77a99ef9e3394698", func := "vigil/vigillaw14.FuncsCounter", spec := "funcsCounter", inPlace := ["math.Float64bits", "math.sqrt", "math.Float64frombits", "math.archFloor", "math.archTrunc"], unfollowed := true, recurses := true, apart := false }
def FuncsCounterSaid : Prop := funcsCounterRow.holds Try.pinned (OpenSpec.ofChange funcsCounterSpec)

/-- ITS FALSE NEIGHBOUR: 'it returns false'. Refute it at one input. -/
def funcsCounterWrong : ChangeSpec := { name := "funcsCounter", fn := fun _ => fun
  | [d1, d2, d3] => { results := [.lit (.bool false)], args := [d1, d2, d3] }
  | _ => none }
def FuncsCounterWrongFalsely : Prop := funcsCounterRow.holds Try.pinned (OpenSpec.ofChange funcsCounterWrong)

/-- 'vigillaw14.FuncsQuantile': WHATEVER THE INPUT: true; the input reads as it did. -/
def funcsQuantileSpec : ChangeSpec := { name := "funcsQuantile", fn := fun _ => fun
  | [d1, d2, d3] => { results := [.lit (.bool true)], args := [d1, d2, d3] }
  | _ => none }
def funcsQuantileRow : OpenClaim := { program := "ytbnckhfkkoncbaa", sum := "2150b39beaeb848db51b91ab1130396e41d7ec5c1ae3810d77a99ef9e3394698", func := "vigil/vigillaw14.FuncsQuantile", spec := "funcsQuantile", inPlace := ["math.Float64frombits", "math.archFloor", "math.Float64bits", "math.archTrunc", "math.sqrt"], unfollowed := true, recurses := true, apart := false }
def FuncsQuantileSaid : Prop := funcsQuantileRow.holds Try.pinned (OpenSpec.ofChange funcsQuantileSpec)

/-- ITS FALSE NEIGHBOUR: 'it returns false'. Refute it at one input. -/
def funcsQuantileWrong : ChangeSpec := { name := "funcsQuantile", fn := fun _ => fun
  | [d1, d2, d3] => { results := [.lit (.bool false)], args := [d1, d2, d3] }
  | _ => none }
def FuncsQuantileWrongFalsely : Prop := funcsQuantileRow.holds Try.pinned (OpenSpec.ofChange funcsQuantileWrong)

/-- 'vigillaw14.FuncsOver': WHATEVER THE INPUT: true; the input reads as it did. -/
def funcsOverSpec : ChangeSpec := { name := "funcsOver", fn := fun _ => fun
  | [d] => { results := [.lit (.bool true)], args := [d] }
  | _ => none }
def funcsOverRow : OpenClaim := { program := "ytbnckhfkkoncbaa", sum := "2150b39beaeb848db51b91ab1130396e41d7ec5c1ae3810d77a99ef9e3394698", func := "vigil/vigillaw14.FuncsOver", spec := "funcsOver", inPlace := ["math.Float64bits", "math.sqrt", "math.Float64frombits", "math.archFloor", "math.archTrunc"], unfollowed := true, recurses := true, apart := false }
def FuncsOverSaid : Prop := funcsOverRow.holds Try.pinned (OpenSpec.ofChange funcsOverSpec)

/-- ITS FALSE NEIGHBOUR: 'it returns false'. Refute it at one input. -/
def funcsOverWrong : ChangeSpec := { name := "funcsOver", fn := fun _ => fun
  | [d] => { results := [.lit (.bool false)], args := [d] }
  | _ => none }
def FuncsOverWrongFalsely : Prop := funcsOverRow.holds Try.pinned (OpenSpec.ofChange funcsOverWrong)

/-- 'vigillaw14.FuncsKnown': WHATEVER THE INPUT: true; the input reads as it did. -/
def funcsKnownSpec : ChangeSpec := { name := "funcsKnown", fn := fun _ => fun
  | [d] => { results := [.lit (.bool true)], args := [d] }
  | _ => none }
def funcsKnownRow : OpenClaim := { program := "ytbnckhfkkoncbaa", sum := "2150b39beaeb848db51b91ab1130396e41d7ec5c1ae3810d77a99ef9e3394698", func := "vigil/vigillaw14.FuncsKnown", spec := "funcsKnown", inPlace := ["math.Float64bits", "math.sqrt", "math.Float64frombits", "math.archFloor", "math.archTrunc"], unfollowed := true, recurses := true, apart := false }
def FuncsKnownSaid : Prop := funcsKnownRow.holds Try.pinned (OpenSpec.ofChange funcsKnownSpec)

/-- ITS FALSE NEIGHBOUR: 'it returns false'. Refute it at one input. -/
def funcsKnownWrong : ChangeSpec := { name := "funcsKnown", fn := fun _ => fun
  | [d] => { results := [.lit (.bool false)], args := [d] }
  | _ => none }
def FuncsKnownWrongFalsely : Prop := funcsKnownRow.holds Try.pinned (OpenSpec.ofChange funcsKnownWrong)

/-- 'vigillaw14.FuncsDates': WHATEVER THE INPUT: true; the input reads as it did. -/
def funcsDatesSpec : ChangeSpec := { name := "funcsDates", fn := fun _ => fun
  | [d1, d2, d3] => { results := [.lit (.bool true)], args := [d1, d2, d3] }
  | _ => none }
def funcsDatesRow : OpenClaim := { program := "ytbnckhfkkoncbaa", sum := "2150b39beaeb848db51b91ab1130396e41d7ec5c1ae3810d77a99ef9e3394698", func := "vigil/vigillaw14.FuncsDates", spec := "funcsDates", inPlace := ["math.Float64frombits", "math.archFloor", "math.Float64bits", "math.archTrunc", "math.sqrt"], unfollowed := true, recurses := true, apart := false }
def FuncsDatesSaid : Prop := funcsDatesRow.holds Try.pinned (OpenSpec.ofChange funcsDatesSpec)

/-- ITS FALSE NEIGHBOUR: 'it returns false'. Refute it at one input. -/
def funcsDatesWrong : ChangeSpec := { name := "funcsDates", fn := fun _ => fun
  | [d1, d2, d3] => { results := [.lit (.bool false)], args := [d1, d2, d3] }
  | _ => none }
def FuncsDatesWrongFalsely : Prop := funcsDatesRow.holds Try.pinned (OpenSpec.ofChange funcsDatesWrong)

/-- 'vigillaw14.FuncsMath': WHATEVER THE INPUT: true; the input reads as it did. -/
def funcsMathSpec : ChangeSpec := { name := "funcsMath", fn := fun _ => fun
  | [d1, d2] => { results := [.lit (.bool true)], args := [d1, d2] }
  | _ => none }
def funcsMathRow : OpenClaim := { program := "ytbnckhfkkoncbaa", sum := "2150b39beaeb848db51b91ab1130396e41d7ec5c1ae3810d77a99ef9e3394698", func := "vigil/vigillaw14.FuncsMath", spec := "funcsMath", inPlace := ["math.Float64frombits", "math.Float64bits", "math.archCeil", "math.archFloor", "math.archTrunc", "math.sqrt"], unfollowed := true, recurses := true, apart := false }
def FuncsMathSaid : Prop := funcsMathRow.holds Try.pinned (OpenSpec.ofChange funcsMathSpec)

/-- ITS FALSE NEIGHBOUR: 'it returns false'. Refute it at one input. -/
def funcsMathWrong : ChangeSpec := { name := "funcsMath", fn := fun _ => fun
  | [d1, d2] => { results := [.lit (.bool false)], args := [d1, d2] }
  | _ => none }
def FuncsMathWrongFalsely : Prop := funcsMathRow.holds Try.pinned (OpenSpec.ofChange funcsMathWrong)

/- THE SECOND FORM. 'bulk': how many values and letters a reading holds, each counted each time it is reached (what is shared counts as often as it is met; a slice's spare places count too). A statement '..UptoSaid' is the law's where the arguments, and the package variables that the reading takes, are together of bulk at most 1048576: NARROWER than '..Said'. Prove '..Said' where nothing that the law and all that it calls make is longer than what came in: it says more and counts as full. Else prove '..UptoSaid'. A law counts once. -/
mutual
def uptoBulk {H : Type} : DataW H → Nat
  | .lit (.string bytes) => bytes.length + 1
  | .lit _ => 1
  | .nil => 1
  | .ptr d => uptoBulk d + 1
  | .slice elems spare => uptoBulkAll elems + uptoBulkAll spare + 1
  | .agg parts => uptoBulkAll parts + 1
  | .iface _ d => uptoBulk d + 1
  | .map entries => uptoBulkEntries entries + 1
  | .held _ => 1
def uptoBulkAll {H : Type} : List (DataW H) → Nat
  | [] => 0
  | d :: r => uptoBulk d + uptoBulkAll r
def uptoBulkEntries {H : Type} : List (Lit × DataW H) → Nat
  | [] => 0
  | x :: r => uptoBulkEntry x + uptoBulkEntries r
def uptoBulkEntry {H : Type} : Lit × DataW H → Nat
  | (.string bytes, d) => bytes.length + uptoBulk d + 1
  | (_, d) => uptoBulk d + 1
 end
def uptoSmall : (H : Type) → List (DataW H) → Bool := fun _ ds => decide (uptoBulkAll ds ≤ 1048576)
def OpenSpec.upto (s : _root_.Go.ChangeSpec) : _root_.Go.OpenSpec := { _root_.Go.OpenSpec.ofChange s with cond := some uptoSmall }

/-- 'vigillaw14.FuncsCounter', WHERE WHAT IT READS IS OF BULK AT MOST 1048576: true; the input reads as it did. -/
def funcsCounterUptoRow : OpenClaim := { program := "ytbnckhfkkoncbaa", sum := "2150b39beaeb848db51b91ab1130396e41d7ec5c1ae3810d77a99ef9e3394698", func := "vigil/vigillaw14.FuncsCounter", spec := "funcsCounter", inPlace := ["math.Float64bits", "math.sqrt", "math.Float64frombits", "math.archFloor", "math.archTrunc"], unfollowed := true, recurses := true, apart := false, narrowed := true }
def FuncsCounterUptoSaid : Prop := funcsCounterUptoRow.holds Try.pinned (OpenSpec.upto funcsCounterSpec)

/-- 'vigillaw14.FuncsQuantile', WHERE WHAT IT READS IS OF BULK AT MOST 1048576: true; the input reads as it did. -/
def funcsQuantileUptoRow : OpenClaim := { program := "ytbnckhfkkoncbaa", sum := "2150b39beaeb848db51b91ab1130396e41d7ec5c1ae3810d77a99ef9e3394698", func := "vigil/vigillaw14.FuncsQuantile", spec := "funcsQuantile", inPlace := ["math.Float64frombits", "math.archFloor", "math.Float64bits", "math.archTrunc", "math.sqrt"], unfollowed := true, recurses := true, apart := false, narrowed := true }
def FuncsQuantileUptoSaid : Prop := funcsQuantileUptoRow.holds Try.pinned (OpenSpec.upto funcsQuantileSpec)

/-- 'vigillaw14.FuncsOver', WHERE WHAT IT READS IS OF BULK AT MOST 1048576: true; the input reads as it did. -/
def funcsOverUptoRow : OpenClaim := { program := "ytbnckhfkkoncbaa", sum := "2150b39beaeb848db51b91ab1130396e41d7ec5c1ae3810d77a99ef9e3394698", func := "vigil/vigillaw14.FuncsOver", spec := "funcsOver", inPlace := ["math.Float64bits", "math.sqrt", "math.Float64frombits", "math.archFloor", "math.archTrunc"], unfollowed := true, recurses := true, apart := false, narrowed := true }
def FuncsOverUptoSaid : Prop := funcsOverUptoRow.holds Try.pinned (OpenSpec.upto funcsOverSpec)

/-- 'vigillaw14.FuncsKnown', WHERE WHAT IT READS IS OF BULK AT MOST 1048576: true; the input reads as it did. -/
def funcsKnownUptoRow : OpenClaim := { program := "ytbnckhfkkoncbaa", sum := "2150b39beaeb848db51b91ab1130396e41d7ec5c1ae3810d77a99ef9e3394698", func := "vigil/vigillaw14.FuncsKnown", spec := "funcsKnown", inPlace := ["math.Float64bits", "math.sqrt", "math.Float64frombits", "math.archFloor", "math.archTrunc"], unfollowed := true, recurses := true, apart := false, narrowed := true }
def FuncsKnownUptoSaid : Prop := funcsKnownUptoRow.holds Try.pinned (OpenSpec.upto funcsKnownSpec)

/-- 'vigillaw14.FuncsDates', WHERE WHAT IT READS IS OF BULK AT MOST 1048576: true; the input reads as it did. -/
def funcsDatesUptoRow : OpenClaim := { program := "ytbnckhfkkoncbaa", sum := "2150b39beaeb848db51b91ab1130396e41d7ec5c1ae3810d77a99ef9e3394698", func := "vigil/vigillaw14.FuncsDates", spec := "funcsDates", inPlace := ["math.Float64frombits", "math.archFloor", "math.Float64bits", "math.archTrunc", "math.sqrt"], unfollowed := true, recurses := true, apart := false, narrowed := true }
def FuncsDatesUptoSaid : Prop := funcsDatesUptoRow.holds Try.pinned (OpenSpec.upto funcsDatesSpec)

/-- 'vigillaw14.FuncsMath', WHERE WHAT IT READS IS OF BULK AT MOST 1048576: true; the input reads as it did. -/
def funcsMathUptoRow : OpenClaim := { program := "ytbnckhfkkoncbaa", sum := "2150b39beaeb848db51b91ab1130396e41d7ec5c1ae3810d77a99ef9e3394698", func := "vigil/vigillaw14.FuncsMath", spec := "funcsMath", inPlace := ["math.Float64frombits", "math.Float64bits", "math.archCeil", "math.archFloor", "math.archTrunc", "math.sqrt"], unfollowed := true, recurses := true, apart := false, narrowed := true }
def FuncsMathUptoSaid : Prop := funcsMathUptoRow.holds Try.pinned (OpenSpec.upto funcsMathSpec)

end Rows
end Go.Proofs.Ytbnckhfkkoncbaa
