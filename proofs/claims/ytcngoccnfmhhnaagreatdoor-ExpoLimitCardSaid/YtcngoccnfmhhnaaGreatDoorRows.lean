/-
  NARROWER THAN 'FOR EVERY INPUT', by the rows' own cells (each row's printed sentence says how): ExpoLines: laid · ExpoRead: laid · ExpoWhole: laid · ExpoLimit: laid.
  DERIVED. THE GIVEN ROWS OF THIS SEAT. 4 by the template 'for every input the law returns true; each argument reads behind the call as it read before'; 0 by the template 'total and deterministic' (their statements: YtcngoccnfmhhnaaGreatDoorTotals.lean).
  GIVEN WITH THE SEED: the statements are not yours to turn. If you find one false, say at which input.
  Laid BY PROGRAM, IN A SANDBOX (cutbox-rows.mjs): the forced cells as the released guide's own fill.sh prints them over the translation b4215dd705d9f416… (all of the seat's roots in one cut). By AI agents, Wed Nov 11 2026. No macro, syntax, notation, axiom, sorry.
-/
import Derived.Test.YtcngoccnfmhhnaaGreatDoorChecked
import GoSem.PinnedTables
import GoSem.Claim
import GoSem.ClaimJoined
import GoSem.ClaimMapViews
import Derived.JoinedTies
import Derived.KernelRfl
namespace Go.Proofs.YtcngoccnfmhhnaaGreatDoor
/- THE CELL 'sum', in the pinned program and in every row, IS THE sha256 OF THE DUMP (.gsa) THAT YtcngoccnfmhhnaaGreatDoorProg.lean LOADS. Nothing in Lean hashes anything: it is a label: what it is worth is what the hold of that sum in a sandbox is worth. -/
noncomputable def Tryz.pinned : Pinned := { name := "ytcngoccnfmhhnaagreatdoor", sum := "b4215dd705d9f416859f48cfc198056a4708ddf9349ce3b470efa8fc2f769c69", checked := Tryz.checked }
namespace Rows
def none {H : Type} : Left H := { results := [], args := [] }

/- WHAT THE LISTED PACKAGE-LEVEL VARIABLES READ AS WHEN THE CALL BEGINS. Each datum BY PROGRAM (the guide's laid-datum.mjs) off the statement by which the dump's own 'gosem.cut.vars' lays the variable. In a bare row this is a premise. The card (YtcngoccnfmhhnaaGreatDoorCards.lean) ties it to the program's text. -/
def laid_unicode_utf8_acceptRanges {H : Type} : DataW H := .agg [.agg [.lit (.int .u8 128), .lit (.int .u8 191)], .agg [.lit (.int .u8 160), .lit (.int .u8 191)], .agg [.lit (.int .u8 128), .lit (.int .u8 159)], .agg [.lit (.int .u8 144), .lit (.int .u8 191)], .agg [.lit (.int .u8 128), .lit (.int .u8 143)], .agg [.lit (.int .u8 0), .lit (.int .u8 0)], .agg [.lit (.int .u8 0), .lit (.int .u8 0)], .agg [.lit (.int .u8 0), .lit (.int .u8 0)], .agg [.lit (.int .u8 0), .lit (.int .u8 0)], .agg [.lit (.int .u8 0), .lit (.int .u8 0)], .agg [.lit (.int .u8 0), .lit (.int .u8 0)], .agg [.lit (.int .u8 0), .lit (.int .u8 0)], .agg [.lit (.int .u8 0), .lit (.int .u8 0)], .agg [.lit (.int .u8 0), .lit (.int .u8 0)], .agg [.lit (.int .u8 0), .lit (.int .u8 0)], .agg [.lit (.int .u8 0), .lit (.int .u8 0)]]
/-- One of Go's own tables, pinned by name: the form's constant. -/
def laid_unicode_utf8_first : DataW Unit := Go.Pinned.utf8First

/-- 'vigillaw11.ExpoLines': WHATEVER THE INPUT: true; the input reads as it did. -/
def expoLinesSpec : ChangeSpec := { name := "expoLines", fn := fun _ => fun
  | [d1, d2] => { results := [.lit (.bool true)], args := [d1, d2] }
  | _ => none }
def expoLinesRow : OpenClaim := { program := "ytcngoccnfmhhnaagreatdoor", sum := "b4215dd705d9f416859f48cfc198056a4708ddf9349ce3b470efa8fc2f769c69", func := "vigil/vigillaw11.ExpoLines", spec := "expoLines", inPlace := ["internal/bytealg.IndexByte", "internal/bytealg.Index", "internal/bytealg.IndexByteString", "internal/bytealg.IndexString", "internal/abi.NoEscape", "math.Float64frombits"], unfollowed := true, recurses := true, named := ["internal/bytealg.MaxLen", "unicode/utf8.first", "unicode/utf8.acceptRanges"], apart := false, laid := [("unicode/utf8.acceptRanges", laid_unicode_utf8_acceptRanges), ("unicode/utf8.first", laid_unicode_utf8_first)] }
def ExpoLinesSaid : Prop := expoLinesRow.holds Tryz.pinned (OpenSpec.ofChange expoLinesSpec)

/-- ITS FALSE NEIGHBOUR: 'it returns false'. Refute it at one input. -/
def expoLinesWrong : ChangeSpec := { name := "expoLines", fn := fun _ => fun
  | [d1, d2] => { results := [.lit (.bool false)], args := [d1, d2] }
  | _ => none }
def ExpoLinesWrongFalsely : Prop := expoLinesRow.holds Tryz.pinned (OpenSpec.ofChange expoLinesWrong)

/-- 'vigillaw11.ExpoRead': WHATEVER THE INPUT: true; the input reads as it did. -/
def expoReadSpec : ChangeSpec := { name := "expoRead", fn := fun _ => fun
  | [d1, d2] => { results := [.lit (.bool true)], args := [d1, d2] }
  | _ => none }
def expoReadRow : OpenClaim := { program := "ytcngoccnfmhhnaagreatdoor", sum := "b4215dd705d9f416859f48cfc198056a4708ddf9349ce3b470efa8fc2f769c69", func := "vigil/vigillaw11.ExpoRead", spec := "expoRead", inPlace := ["internal/bytealg.IndexByte", "internal/bytealg.Index", "internal/bytealg.IndexByteString", "internal/bytealg.IndexString", "internal/abi.NoEscape", "math.Float64frombits", "math.Float64bits"], unfollowed := true, recurses := true, named := ["internal/bytealg.MaxLen", "unicode/utf8.first", "unicode/utf8.acceptRanges"], apart := false, laid := [("unicode/utf8.acceptRanges", laid_unicode_utf8_acceptRanges), ("unicode/utf8.first", laid_unicode_utf8_first)] }
def ExpoReadSaid : Prop := expoReadRow.holds Tryz.pinned (OpenSpec.ofChange expoReadSpec)

/-- ITS FALSE NEIGHBOUR: 'it returns false'. Refute it at one input. -/
def expoReadWrong : ChangeSpec := { name := "expoRead", fn := fun _ => fun
  | [d1, d2] => { results := [.lit (.bool false)], args := [d1, d2] }
  | _ => none }
def ExpoReadWrongFalsely : Prop := expoReadRow.holds Tryz.pinned (OpenSpec.ofChange expoReadWrong)

/-- 'vigillaw11.ExpoWhole': WHATEVER THE INPUT: true; the input reads as it did. -/
def expoWholeSpec : ChangeSpec := { name := "expoWhole", fn := fun _ => fun
  | [d1, d2] => { results := [.lit (.bool true)], args := [d1, d2] }
  | _ => none }
def expoWholeRow : OpenClaim := { program := "ytcngoccnfmhhnaagreatdoor", sum := "b4215dd705d9f416859f48cfc198056a4708ddf9349ce3b470efa8fc2f769c69", func := "vigil/vigillaw11.ExpoWhole", spec := "expoWhole", inPlace := ["internal/bytealg.IndexByte", "internal/bytealg.Index", "internal/bytealg.IndexByteString", "internal/bytealg.IndexString", "internal/abi.NoEscape", "math.Float64frombits", "math.Float64bits"], unfollowed := true, recurses := true, named := ["internal/bytealg.MaxLen", "unicode/utf8.first", "unicode/utf8.acceptRanges"], apart := false, laid := [("unicode/utf8.acceptRanges", laid_unicode_utf8_acceptRanges), ("unicode/utf8.first", laid_unicode_utf8_first)] }
def ExpoWholeSaid : Prop := expoWholeRow.holds Tryz.pinned (OpenSpec.ofChange expoWholeSpec)

/-- ITS FALSE NEIGHBOUR: 'it returns false'. Refute it at one input. -/
def expoWholeWrong : ChangeSpec := { name := "expoWhole", fn := fun _ => fun
  | [d1, d2] => { results := [.lit (.bool false)], args := [d1, d2] }
  | _ => none }
def ExpoWholeWrongFalsely : Prop := expoWholeRow.holds Tryz.pinned (OpenSpec.ofChange expoWholeWrong)

/-- 'vigillaw11.ExpoLimit': WHATEVER THE INPUT: true; the input reads as it did. -/
def expoLimitSpec : ChangeSpec := { name := "expoLimit", fn := fun _ => fun
  | [d1, d2] => { results := [.lit (.bool true)], args := [d1, d2] }
  | _ => none }
def expoLimitRow : OpenClaim := { program := "ytcngoccnfmhhnaagreatdoor", sum := "b4215dd705d9f416859f48cfc198056a4708ddf9349ce3b470efa8fc2f769c69", func := "vigil/vigillaw11.ExpoLimit", spec := "expoLimit", inPlace := ["math.Float64frombits", "math.Float64bits", "internal/bytealg.IndexByte", "internal/bytealg.Index", "internal/bytealg.IndexByteString", "internal/bytealg.IndexString", "internal/abi.NoEscape"], unfollowed := true, recurses := true, named := ["internal/bytealg.MaxLen", "unicode/utf8.first", "unicode/utf8.acceptRanges"], apart := false, laid := [("unicode/utf8.acceptRanges", laid_unicode_utf8_acceptRanges), ("unicode/utf8.first", laid_unicode_utf8_first)] }
def ExpoLimitSaid : Prop := expoLimitRow.holds Tryz.pinned (OpenSpec.ofChange expoLimitSpec)

/-- ITS FALSE NEIGHBOUR: 'it returns false'. Refute it at one input. -/
def expoLimitWrong : ChangeSpec := { name := "expoLimit", fn := fun _ => fun
  | [d1, d2] => { results := [.lit (.bool false)], args := [d1, d2] }
  | _ => none }
def ExpoLimitWrongFalsely : Prop := expoLimitRow.holds Tryz.pinned (OpenSpec.ofChange expoLimitWrong)

/- THE SECOND FORM. 'bulk': how many values and letters a reading holds, each counted each time it is reached (what is shared counts as often as it is met; a slice's spare places count too). A statement '..UptoSaid' is the law's where the arguments, and the package variables that the reading takes, are together of bulk at most 1048576: NARROWER than '..Said'. Prove '..Said' where nothing that the law and all that it calls make is longer than what came in: it says more and counts as full. Else prove '..UptoSaid'. A law counts once. -/
mutual
def uptoBulk {H : Type} : DataW H → Nat
  | .lit (.string bytes) => bytes.length + 1
  | .lit _ => 1
  | .nil => 1
  | .ptr d => uptoBulk d + 1
  | .slice elems spare => uptoBulkAll elems + uptoBulkAll spare + 1
  | .agg parts => uptoBulkAll parts + 1
  | .iface _ d => uptoBulk d + 1
  | .map entries => uptoBulkEntries entries + 1
  | .held _ => 1
def uptoBulkAll {H : Type} : List (DataW H) → Nat
  | [] => 0
  | d :: r => uptoBulk d + uptoBulkAll r
def uptoBulkEntries {H : Type} : List (Lit × DataW H) → Nat
  | [] => 0
  | x :: r => uptoBulkEntry x + uptoBulkEntries r
def uptoBulkEntry {H : Type} : Lit × DataW H → Nat
  | (.string bytes, d) => bytes.length + uptoBulk d + 1
  | (_, d) => uptoBulk d + 1
 end
def uptoSmall : (H : Type) → List (DataW H) → Bool := fun _ ds => decide (uptoBulkAll ds ≤ 1048576)
def OpenSpec.upto (s : _root_.Go.ChangeSpec) : _root_.Go.OpenSpec := { _root_.Go.OpenSpec.ofChange s with cond := some uptoSmall }

/-- 'vigillaw11.ExpoLines', WHERE WHAT IT READS IS OF BULK AT MOST 1048576: true; the input reads as it did. -/
def expoLinesUptoRow : OpenClaim := { program := "ytcngoccnfmhhnaagreatdoor", sum := "b4215dd705d9f416859f48cfc198056a4708ddf9349ce3b470efa8fc2f769c69", func := "vigil/vigillaw11.ExpoLines", spec := "expoLines", inPlace := ["internal/bytealg.IndexByte", "internal/bytealg.Index", "internal/bytealg.IndexByteString", "internal/bytealg.IndexString", "internal/abi.NoEscape", "math.Float64frombits"], unfollowed := true, recurses := true, named := ["internal/bytealg.MaxLen", "unicode/utf8.first", "unicode/utf8.acceptRanges"], apart := false, laid := [("unicode/utf8.acceptRanges", laid_unicode_utf8_acceptRanges), ("unicode/utf8.first", laid_unicode_utf8_first)], narrowed := true }
def ExpoLinesUptoSaid : Prop := expoLinesUptoRow.holds Tryz.pinned (OpenSpec.upto expoLinesSpec)

/-- 'vigillaw11.ExpoRead', WHERE WHAT IT READS IS OF BULK AT MOST 1048576: true; the input reads as it did. -/
def expoReadUptoRow : OpenClaim := { program := "ytcngoccnfmhhnaagreatdoor", sum := "b4215dd705d9f416859f48cfc198056a4708ddf9349ce3b470efa8fc2f769c69", func := "vigil/vigillaw11.ExpoRead", spec := "expoRead", inPlace := ["internal/bytealg.IndexByte", "internal/bytealg.Index", "internal/bytealg.IndexByteString", "internal/bytealg.IndexString", "internal/abi.NoEscape", "math.Float64frombits", "math.Float64bits"], unfollowed := true, recurses := true, named := ["internal/bytealg.MaxLen", "unicode/utf8.first", "unicode/utf8.acceptRanges"], apart := false, laid := [("unicode/utf8.acceptRanges", laid_unicode_utf8_acceptRanges), ("unicode/utf8.first", laid_unicode_utf8_first)], narrowed := true }
def ExpoReadUptoSaid : Prop := expoReadUptoRow.holds Tryz.pinned (OpenSpec.upto expoReadSpec)

/-- 'vigillaw11.ExpoWhole', WHERE WHAT IT READS IS OF BULK AT MOST 1048576: true; the input reads as it did. -/
def expoWholeUptoRow : OpenClaim := { program := "ytcngoccnfmhhnaagreatdoor", sum := "b4215dd705d9f416859f48cfc198056a4708ddf9349ce3b470efa8fc2f769c69", func := "vigil/vigillaw11.ExpoWhole", spec := "expoWhole", inPlace := ["internal/bytealg.IndexByte", "internal/bytealg.Index", "internal/bytealg.IndexByteString", "internal/bytealg.IndexString", "internal/abi.NoEscape", "math.Float64frombits", "math.Float64bits"], unfollowed := true, recurses := true, named := ["internal/bytealg.MaxLen", "unicode/utf8.first", "unicode/utf8.acceptRanges"], apart := false, laid := [("unicode/utf8.acceptRanges", laid_unicode_utf8_acceptRanges), ("unicode/utf8.first", laid_unicode_utf8_first)], narrowed := true }
def ExpoWholeUptoSaid : Prop := expoWholeUptoRow.holds Tryz.pinned (OpenSpec.upto expoWholeSpec)

/-- 'vigillaw11.ExpoLimit', WHERE WHAT IT READS IS OF BULK AT MOST 1048576: true; the input reads as it did. -/
def expoLimitUptoRow : OpenClaim := { program := "ytcngoccnfmhhnaagreatdoor", sum := "b4215dd705d9f416859f48cfc198056a4708ddf9349ce3b470efa8fc2f769c69", func := "vigil/vigillaw11.ExpoLimit", spec := "expoLimit", inPlace := ["math.Float64frombits", "math.Float64bits", "internal/bytealg.IndexByte", "internal/bytealg.Index", "internal/bytealg.IndexByteString", "internal/bytealg.IndexString", "internal/abi.NoEscape"], unfollowed := true, recurses := true, named := ["internal/bytealg.MaxLen", "unicode/utf8.first", "unicode/utf8.acceptRanges"], apart := false, laid := [("unicode/utf8.acceptRanges", laid_unicode_utf8_acceptRanges), ("unicode/utf8.first", laid_unicode_utf8_first)], narrowed := true }
def ExpoLimitUptoSaid : Prop := expoLimitUptoRow.holds Tryz.pinned (OpenSpec.upto expoLimitSpec)

end Rows
end Go.Proofs.YtcngoccnfmhhnaaGreatDoor
