/-
  NARROWER THAN 'FOR EVERY INPUT', by the rows' own cells (each row's printed sentence says how): LabelsAll: laid · LabelsNew: laid · LabelsMatch: laid · LabelsNames: laid · LabelsOrder: laid · LabelsRead: laid · LabelsBytes: laid · LabelsAsked: laid · LabelsParts: laid.
  DERIVED. THE GIVEN ROWS OF THIS SEAT. 9 by the template 'for every input the law returns true; each argument reads behind the call as it read before'; 0 by the template 'total and deterministic' (their statements: YtfffblopkaandaaDoorTotals.lean).
  GIVEN WITH THE SEED: the statements are not yours to turn. If you find one false, say at which input.
  Laid BY PROGRAM, IN A SANDBOX (cutbox-rows.mjs): the forced cells as the released guide's own fill.sh prints them over the translation 348980a5a614465f… (all of the seat's roots in one cut). By AI agents, Wed Nov 11 2026. No macro, syntax, notation, axiom, sorry.
-/
import Derived.Test.YtfffblopkaandaaDoorChecked
import GoSem.PinnedTables
import GoSem.Claim
import GoSem.ClaimJoined
import GoSem.ClaimMapViews
import Derived.JoinedTies
import Derived.KernelRfl
namespace Go.Proofs.YtfffblopkaandaaDoor
/- THE CELL 'sum', in the pinned program and in every row, IS THE sha256 OF THE DUMP (.gsa) THAT YtfffblopkaandaaDoorProg.lean LOADS. Nothing in Lean hashes anything: it is a label: what it is worth is what the hold of that sum in a sandbox is worth. -/
noncomputable def Tryd.pinned : Pinned := { name := "ytfffblopkaandaadoor", sum := "348980a5a614465f6ed0af6e4acc0060bfdbb10ff96076a455543978cf80644f", checked := Tryd.checked }
namespace Rows
def none {H : Type} : Left H := { results := [], args := [] }

/- WHAT THE LISTED PACKAGE-LEVEL VARIABLES READ AS WHEN THE CALL BEGINS. Each datum BY PROGRAM (the guide's laid-datum.mjs) off the statement by which the dump's own 'gosem.cut.vars' lays the variable. In a bare row this is a premise. The card (YtfffblopkaandaaDoorCards.lean) ties it to the program's text. -/
def laid_unicode_utf8_acceptRanges {H : Type} : DataW H := .agg [.agg [.lit (.int .u8 128), .lit (.int .u8 191)], .agg [.lit (.int .u8 160), .lit (.int .u8 191)], .agg [.lit (.int .u8 128), .lit (.int .u8 159)], .agg [.lit (.int .u8 144), .lit (.int .u8 191)], .agg [.lit (.int .u8 128), .lit (.int .u8 143)], .agg [.lit (.int .u8 0), .lit (.int .u8 0)], .agg [.lit (.int .u8 0), .lit (.int .u8 0)], .agg [.lit (.int .u8 0), .lit (.int .u8 0)], .agg [.lit (.int .u8 0), .lit (.int .u8 0)], .agg [.lit (.int .u8 0), .lit (.int .u8 0)], .agg [.lit (.int .u8 0), .lit (.int .u8 0)], .agg [.lit (.int .u8 0), .lit (.int .u8 0)], .agg [.lit (.int .u8 0), .lit (.int .u8 0)], .agg [.lit (.int .u8 0), .lit (.int .u8 0)], .agg [.lit (.int .u8 0), .lit (.int .u8 0)], .agg [.lit (.int .u8 0), .lit (.int .u8 0)]]
/-- One of Go's own tables, pinned by name: the form's constant. -/
def laid_unicode_utf8_first : DataW Unit := Go.Pinned.utf8First

/-- 'vigillaw02.LabelsAll': WHATEVER THE INPUT: true; the input reads as it did. -/
def labelsAllSpec : ChangeSpec := { name := "labelsAll", fn := fun _ => fun
  | [d1, d2] => { results := [.lit (.bool true)], args := [d1, d2] }
  | _ => none }
def labelsAllRow : OpenClaim := { program := "ytfffblopkaandaadoor", sum := "348980a5a614465f6ed0af6e4acc0060bfdbb10ff96076a455543978cf80644f", func := "vigil/vigillaw02.LabelsAll", spec := "labelsAll", inPlace := ["internal/abi.NoEscape", "internal/bytealg.MakeNoZero"], unfollowed := true, recurses := true, named := ["unicode/utf8.first", "unicode/utf8.acceptRanges"], apart := false, laid := [("unicode/utf8.acceptRanges", laid_unicode_utf8_acceptRanges), ("unicode/utf8.first", laid_unicode_utf8_first)] }
def LabelsAllSaid : Prop := labelsAllRow.holds Tryd.pinned (OpenSpec.ofChange labelsAllSpec)

/-- ITS FALSE NEIGHBOUR: 'it returns false'. Refute it at one input. -/
def labelsAllWrong : ChangeSpec := { name := "labelsAll", fn := fun _ => fun
  | [d1, d2] => { results := [.lit (.bool false)], args := [d1, d2] }
  | _ => none }
def LabelsAllWrongFalsely : Prop := labelsAllRow.holds Tryd.pinned (OpenSpec.ofChange labelsAllWrong)

/-- 'vigillaw02.LabelsNew': WHATEVER THE INPUT: true; the input reads as it did. -/
def labelsNewSpec : ChangeSpec := { name := "labelsNew", fn := fun _ => fun
  | [d] => { results := [.lit (.bool true)], args := [d] }
  | _ => none }
def labelsNewRow : OpenClaim := { program := "ytfffblopkaandaadoor", sum := "348980a5a614465f6ed0af6e4acc0060bfdbb10ff96076a455543978cf80644f", func := "vigil/vigillaw02.LabelsNew", spec := "labelsNew", inPlace := ["internal/abi.NoEscape", "internal/bytealg.MakeNoZero"], unfollowed := true, recurses := true, named := ["unicode/utf8.first", "unicode/utf8.acceptRanges"], apart := false, laid := [("unicode/utf8.acceptRanges", laid_unicode_utf8_acceptRanges), ("unicode/utf8.first", laid_unicode_utf8_first)] }
def LabelsNewSaid : Prop := labelsNewRow.holds Tryd.pinned (OpenSpec.ofChange labelsNewSpec)

/-- ITS FALSE NEIGHBOUR: 'it returns false'. Refute it at one input. -/
def labelsNewWrong : ChangeSpec := { name := "labelsNew", fn := fun _ => fun
  | [d] => { results := [.lit (.bool false)], args := [d] }
  | _ => none }
def LabelsNewWrongFalsely : Prop := labelsNewRow.holds Tryd.pinned (OpenSpec.ofChange labelsNewWrong)

/-- 'vigillaw02.LabelsMatch': WHATEVER THE INPUT: true; the input reads as it did. -/
def labelsMatchSpec : ChangeSpec := { name := "labelsMatch", fn := fun _ => fun
  | [d1, d2] => { results := [.lit (.bool true)], args := [d1, d2] }
  | _ => none }
def labelsMatchRow : OpenClaim := { program := "ytfffblopkaandaadoor", sum := "348980a5a614465f6ed0af6e4acc0060bfdbb10ff96076a455543978cf80644f", func := "vigil/vigillaw02.LabelsMatch", spec := "labelsMatch", inPlace := ["internal/abi.NoEscape", "internal/bytealg.MakeNoZero"], unfollowed := true, recurses := true, named := ["unicode/utf8.first", "unicode/utf8.acceptRanges"], apart := false, laid := [("unicode/utf8.acceptRanges", laid_unicode_utf8_acceptRanges), ("unicode/utf8.first", laid_unicode_utf8_first)] }
def LabelsMatchSaid : Prop := labelsMatchRow.holds Tryd.pinned (OpenSpec.ofChange labelsMatchSpec)

/-- ITS FALSE NEIGHBOUR: 'it returns false'. Refute it at one input. -/
def labelsMatchWrong : ChangeSpec := { name := "labelsMatch", fn := fun _ => fun
  | [d1, d2] => { results := [.lit (.bool false)], args := [d1, d2] }
  | _ => none }
def LabelsMatchWrongFalsely : Prop := labelsMatchRow.holds Tryd.pinned (OpenSpec.ofChange labelsMatchWrong)

/-- 'vigillaw02.LabelsNames': WHATEVER THE INPUT: true; the input reads as it did. -/
def labelsNamesSpec : ChangeSpec := { name := "labelsNames", fn := fun _ => fun
  | [d] => { results := [.lit (.bool true)], args := [d] }
  | _ => none }
def labelsNamesRow : OpenClaim := { program := "ytfffblopkaandaadoor", sum := "348980a5a614465f6ed0af6e4acc0060bfdbb10ff96076a455543978cf80644f", func := "vigil/vigillaw02.LabelsNames", spec := "labelsNames", inPlace := ["internal/abi.NoEscape", "internal/bytealg.MakeNoZero"], unfollowed := true, recurses := true, named := ["unicode/utf8.first", "unicode/utf8.acceptRanges"], apart := false, laid := [("unicode/utf8.acceptRanges", laid_unicode_utf8_acceptRanges), ("unicode/utf8.first", laid_unicode_utf8_first)] }
def LabelsNamesSaid : Prop := labelsNamesRow.holds Tryd.pinned (OpenSpec.ofChange labelsNamesSpec)

/-- ITS FALSE NEIGHBOUR: 'it returns false'. Refute it at one input. -/
def labelsNamesWrong : ChangeSpec := { name := "labelsNames", fn := fun _ => fun
  | [d] => { results := [.lit (.bool false)], args := [d] }
  | _ => none }
def LabelsNamesWrongFalsely : Prop := labelsNamesRow.holds Tryd.pinned (OpenSpec.ofChange labelsNamesWrong)

/-- 'vigillaw02.LabelsOrder': WHATEVER THE INPUT: true; the input reads as it did. -/
def labelsOrderSpec : ChangeSpec := { name := "labelsOrder", fn := fun _ => fun
  | [d1, d2, d3] => { results := [.lit (.bool true)], args := [d1, d2, d3] }
  | _ => none }
def labelsOrderRow : OpenClaim := { program := "ytfffblopkaandaadoor", sum := "348980a5a614465f6ed0af6e4acc0060bfdbb10ff96076a455543978cf80644f", func := "vigil/vigillaw02.LabelsOrder", spec := "labelsOrder", inPlace := ["internal/abi.NoEscape", "internal/bytealg.MakeNoZero"], unfollowed := true, recurses := true, named := ["unicode/utf8.first", "unicode/utf8.acceptRanges"], apart := false, laid := [("unicode/utf8.acceptRanges", laid_unicode_utf8_acceptRanges), ("unicode/utf8.first", laid_unicode_utf8_first)] }
def LabelsOrderSaid : Prop := labelsOrderRow.holds Tryd.pinned (OpenSpec.ofChange labelsOrderSpec)

/-- ITS FALSE NEIGHBOUR: 'it returns false'. Refute it at one input. -/
def labelsOrderWrong : ChangeSpec := { name := "labelsOrder", fn := fun _ => fun
  | [d1, d2, d3] => { results := [.lit (.bool false)], args := [d1, d2, d3] }
  | _ => none }
def LabelsOrderWrongFalsely : Prop := labelsOrderRow.holds Tryd.pinned (OpenSpec.ofChange labelsOrderWrong)

/-- 'vigillaw02.LabelsRead': WHATEVER THE INPUT: true; the input reads as it did. -/
def labelsReadSpec : ChangeSpec := { name := "labelsRead", fn := fun _ => fun
  | [d] => { results := [.lit (.bool true)], args := [d] }
  | _ => none }
def labelsReadRow : OpenClaim := { program := "ytfffblopkaandaadoor", sum := "348980a5a614465f6ed0af6e4acc0060bfdbb10ff96076a455543978cf80644f", func := "vigil/vigillaw02.LabelsRead", spec := "labelsRead", inPlace := ["internal/abi.NoEscape", "internal/bytealg.MakeNoZero"], unfollowed := true, recurses := true, named := ["unicode/utf8.first", "unicode/utf8.acceptRanges"], apart := false, laid := [("unicode/utf8.acceptRanges", laid_unicode_utf8_acceptRanges), ("unicode/utf8.first", laid_unicode_utf8_first)] }
def LabelsReadSaid : Prop := labelsReadRow.holds Tryd.pinned (OpenSpec.ofChange labelsReadSpec)

/-- ITS FALSE NEIGHBOUR: 'it returns false'. Refute it at one input. -/
def labelsReadWrong : ChangeSpec := { name := "labelsRead", fn := fun _ => fun
  | [d] => { results := [.lit (.bool false)], args := [d] }
  | _ => none }
def LabelsReadWrongFalsely : Prop := labelsReadRow.holds Tryd.pinned (OpenSpec.ofChange labelsReadWrong)

/-- 'vigillaw02.LabelsBytes': WHATEVER THE INPUT: true; the input reads as it did. -/
def labelsBytesSpec : ChangeSpec := { name := "labelsBytes", fn := fun _ => fun
  | [d1, d2] => { results := [.lit (.bool true)], args := [d1, d2] }
  | _ => none }
def labelsBytesRow : OpenClaim := { program := "ytfffblopkaandaadoor", sum := "348980a5a614465f6ed0af6e4acc0060bfdbb10ff96076a455543978cf80644f", func := "vigil/vigillaw02.LabelsBytes", spec := "labelsBytes", inPlace := ["internal/abi.NoEscape", "internal/bytealg.MakeNoZero"], unfollowed := true, recurses := true, named := ["unicode/utf8.first", "unicode/utf8.acceptRanges"], apart := false, laid := [("unicode/utf8.acceptRanges", laid_unicode_utf8_acceptRanges), ("unicode/utf8.first", laid_unicode_utf8_first)] }
def LabelsBytesSaid : Prop := labelsBytesRow.holds Tryd.pinned (OpenSpec.ofChange labelsBytesSpec)

/-- ITS FALSE NEIGHBOUR: 'it returns false'. Refute it at one input. -/
def labelsBytesWrong : ChangeSpec := { name := "labelsBytes", fn := fun _ => fun
  | [d1, d2] => { results := [.lit (.bool false)], args := [d1, d2] }
  | _ => none }
def LabelsBytesWrongFalsely : Prop := labelsBytesRow.holds Tryd.pinned (OpenSpec.ofChange labelsBytesWrong)

/-- 'vigillaw02.LabelsAsked': WHATEVER THE INPUT: true; the input reads as it did. -/
def labelsAskedSpec : ChangeSpec := { name := "labelsAsked", fn := fun _ => fun
  | [d1, d2, d3] => { results := [.lit (.bool true)], args := [d1, d2, d3] }
  | _ => none }
def labelsAskedRow : OpenClaim := { program := "ytfffblopkaandaadoor", sum := "348980a5a614465f6ed0af6e4acc0060bfdbb10ff96076a455543978cf80644f", func := "vigil/vigillaw02.LabelsAsked", spec := "labelsAsked", inPlace := ["internal/abi.NoEscape", "internal/bytealg.MakeNoZero", "slices.overlaps[vigil/api.Label]"], unfollowed := true, recurses := true, named := ["unicode/utf8.first", "unicode/utf8.acceptRanges"], apart := false, laid := [("unicode/utf8.acceptRanges", laid_unicode_utf8_acceptRanges), ("unicode/utf8.first", laid_unicode_utf8_first)] }
def LabelsAskedSaid : Prop := labelsAskedRow.holds Tryd.pinned (OpenSpec.ofChange labelsAskedSpec)

/-- ITS FALSE NEIGHBOUR: 'it returns false'. Refute it at one input. -/
def labelsAskedWrong : ChangeSpec := { name := "labelsAsked", fn := fun _ => fun
  | [d1, d2, d3] => { results := [.lit (.bool false)], args := [d1, d2, d3] }
  | _ => none }
def LabelsAskedWrongFalsely : Prop := labelsAskedRow.holds Tryd.pinned (OpenSpec.ofChange labelsAskedWrong)

/-- 'vigillaw02.LabelsParts': WHATEVER THE INPUT: true; the input reads as it did. -/
def labelsPartsSpec : ChangeSpec := { name := "labelsParts", fn := fun _ => fun
  | [d1, d2] => { results := [.lit (.bool true)], args := [d1, d2] }
  | _ => none }
def labelsPartsRow : OpenClaim := { program := "ytfffblopkaandaadoor", sum := "348980a5a614465f6ed0af6e4acc0060bfdbb10ff96076a455543978cf80644f", func := "vigil/vigillaw02.LabelsParts", spec := "labelsParts", inPlace := ["slices.overlaps[vigil/api.Label]", "internal/abi.NoEscape", "internal/bytealg.MakeNoZero"], unfollowed := true, recurses := true, named := ["unicode/utf8.first", "unicode/utf8.acceptRanges"], apart := false, laid := [("unicode/utf8.acceptRanges", laid_unicode_utf8_acceptRanges), ("unicode/utf8.first", laid_unicode_utf8_first)] }
def LabelsPartsSaid : Prop := labelsPartsRow.holds Tryd.pinned (OpenSpec.ofChange labelsPartsSpec)

/-- ITS FALSE NEIGHBOUR: 'it returns false'. Refute it at one input. -/
def labelsPartsWrong : ChangeSpec := { name := "labelsParts", fn := fun _ => fun
  | [d1, d2] => { results := [.lit (.bool false)], args := [d1, d2] }
  | _ => none }
def LabelsPartsWrongFalsely : Prop := labelsPartsRow.holds Tryd.pinned (OpenSpec.ofChange labelsPartsWrong)

/- THE SECOND FORM. 'bulk': how many values and letters a reading holds, each counted each time it is reached (what is shared counts as often as it is met; a slice's spare places count too). A statement '..UptoSaid' is the law's where the arguments, and the package variables that the reading takes, are together of bulk at most 1048576: NARROWER than '..Said'. Prove '..Said' where nothing that the law and all that it calls make is longer than what came in: it says more and counts as full. Else prove '..UptoSaid'. A law counts once. -/
mutual
def uptoBulk {H : Type} : DataW H → Nat
  | .lit (.string bytes) => bytes.length + 1
  | .lit _ => 1
  | .nil => 1
  | .ptr d => uptoBulk d + 1
  | .slice elems spare => uptoBulkAll elems + uptoBulkAll spare + 1
  | .agg parts => uptoBulkAll parts + 1
  | .iface _ d => uptoBulk d + 1
  | .map entries => uptoBulkEntries entries + 1
  | .held _ => 1
def uptoBulkAll {H : Type} : List (DataW H) → Nat
  | [] => 0
  | d :: r => uptoBulk d + uptoBulkAll r
def uptoBulkEntries {H : Type} : List (Lit × DataW H) → Nat
  | [] => 0
  | x :: r => uptoBulkEntry x + uptoBulkEntries r
def uptoBulkEntry {H : Type} : Lit × DataW H → Nat
  | (.string bytes, d) => bytes.length + uptoBulk d + 1
  | (_, d) => uptoBulk d + 1
 end
def uptoSmall : (H : Type) → List (DataW H) → Bool := fun _ ds => decide (uptoBulkAll ds ≤ 1048576)
def OpenSpec.upto (s : _root_.Go.ChangeSpec) : _root_.Go.OpenSpec := { _root_.Go.OpenSpec.ofChange s with cond := some uptoSmall }

/-- 'vigillaw02.LabelsAll', WHERE WHAT IT READS IS OF BULK AT MOST 1048576: true; the input reads as it did. -/
def labelsAllUptoRow : OpenClaim := { program := "ytfffblopkaandaadoor", sum := "348980a5a614465f6ed0af6e4acc0060bfdbb10ff96076a455543978cf80644f", func := "vigil/vigillaw02.LabelsAll", spec := "labelsAll", inPlace := ["internal/abi.NoEscape", "internal/bytealg.MakeNoZero"], unfollowed := true, recurses := true, named := ["unicode/utf8.first", "unicode/utf8.acceptRanges"], apart := false, laid := [("unicode/utf8.acceptRanges", laid_unicode_utf8_acceptRanges), ("unicode/utf8.first", laid_unicode_utf8_first)], narrowed := true }
def LabelsAllUptoSaid : Prop := labelsAllUptoRow.holds Tryd.pinned (OpenSpec.upto labelsAllSpec)

/-- 'vigillaw02.LabelsNew', WHERE WHAT IT READS IS OF BULK AT MOST 1048576: true; the input reads as it did. -/
def labelsNewUptoRow : OpenClaim := { program := "ytfffblopkaandaadoor", sum := "348980a5a614465f6ed0af6e4acc0060bfdbb10ff96076a455543978cf80644f", func := "vigil/vigillaw02.LabelsNew", spec := "labelsNew", inPlace := ["internal/abi.NoEscape", "internal/bytealg.MakeNoZero"], unfollowed := true, recurses := true, named := ["unicode/utf8.first", "unicode/utf8.acceptRanges"], apart := false, laid := [("unicode/utf8.acceptRanges", laid_unicode_utf8_acceptRanges), ("unicode/utf8.first", laid_unicode_utf8_first)], narrowed := true }
def LabelsNewUptoSaid : Prop := labelsNewUptoRow.holds Tryd.pinned (OpenSpec.upto labelsNewSpec)

/-- 'vigillaw02.LabelsMatch', WHERE WHAT IT READS IS OF BULK AT MOST 1048576: true; the input reads as it did. -/
def labelsMatchUptoRow : OpenClaim := { program := "ytfffblopkaandaadoor", sum := "348980a5a614465f6ed0af6e4acc0060bfdbb10ff96076a455543978cf80644f", func := "vigil/vigillaw02.LabelsMatch", spec := "labelsMatch", inPlace := ["internal/abi.NoEscape", "internal/bytealg.MakeNoZero"], unfollowed := true, recurses := true, named := ["unicode/utf8.first", "unicode/utf8.acceptRanges"], apart := false, laid := [("unicode/utf8.acceptRanges", laid_unicode_utf8_acceptRanges), ("unicode/utf8.first", laid_unicode_utf8_first)], narrowed := true }
def LabelsMatchUptoSaid : Prop := labelsMatchUptoRow.holds Tryd.pinned (OpenSpec.upto labelsMatchSpec)

/-- 'vigillaw02.LabelsNames', WHERE WHAT IT READS IS OF BULK AT MOST 1048576: true; the input reads as it did. -/
def labelsNamesUptoRow : OpenClaim := { program := "ytfffblopkaandaadoor", sum := "348980a5a614465f6ed0af6e4acc0060bfdbb10ff96076a455543978cf80644f", func := "vigil/vigillaw02.LabelsNames", spec := "labelsNames", inPlace := ["internal/abi.NoEscape", "internal/bytealg.MakeNoZero"], unfollowed := true, recurses := true, named := ["unicode/utf8.first", "unicode/utf8.acceptRanges"], apart := false, laid := [("unicode/utf8.acceptRanges", laid_unicode_utf8_acceptRanges), ("unicode/utf8.first", laid_unicode_utf8_first)], narrowed := true }
def LabelsNamesUptoSaid : Prop := labelsNamesUptoRow.holds Tryd.pinned (OpenSpec.upto labelsNamesSpec)

/-- 'vigillaw02.LabelsOrder', WHERE WHAT IT READS IS OF BULK AT MOST 1048576: true; the input reads as it did. -/
def labelsOrderUptoRow : OpenClaim := { program := "ytfffblopkaandaadoor", sum := "348980a5a614465f6ed0af6e4acc0060bfdbb10ff96076a455543978cf80644f", func := "vigil/vigillaw02.LabelsOrder", spec := "labelsOrder", inPlace := ["internal/abi.NoEscape", "internal/bytealg.MakeNoZero"], unfollowed := true, recurses := true, named := ["unicode/utf8.first", "unicode/utf8.acceptRanges"], apart := false, laid := [("unicode/utf8.acceptRanges", laid_unicode_utf8_acceptRanges), ("unicode/utf8.first", laid_unicode_utf8_first)], narrowed := true }
def LabelsOrderUptoSaid : Prop := labelsOrderUptoRow.holds Tryd.pinned (OpenSpec.upto labelsOrderSpec)

/-- 'vigillaw02.LabelsRead', WHERE WHAT IT READS IS OF BULK AT MOST 1048576: true; the input reads as it did. -/
def labelsReadUptoRow : OpenClaim := { program := "ytfffblopkaandaadoor", sum := "348980a5a614465f6ed0af6e4acc0060bfdbb10ff96076a455543978cf80644f", func := "vigil/vigillaw02.LabelsRead", spec := "labelsRead", inPlace := ["internal/abi.NoEscape", "internal/bytealg.MakeNoZero"], unfollowed := true, recurses := true, named := ["unicode/utf8.first", "unicode/utf8.acceptRanges"], apart := false, laid := [("unicode/utf8.acceptRanges", laid_unicode_utf8_acceptRanges), ("unicode/utf8.first", laid_unicode_utf8_first)], narrowed := true }
def LabelsReadUptoSaid : Prop := labelsReadUptoRow.holds Tryd.pinned (OpenSpec.upto labelsReadSpec)

/-- 'vigillaw02.LabelsBytes', WHERE WHAT IT READS IS OF BULK AT MOST 1048576: true; the input reads as it did. -/
def labelsBytesUptoRow : OpenClaim := { program := "ytfffblopkaandaadoor", sum := "348980a5a614465f6ed0af6e4acc0060bfdbb10ff96076a455543978cf80644f", func := "vigil/vigillaw02.LabelsBytes", spec := "labelsBytes", inPlace := ["internal/abi.NoEscape", "internal/bytealg.MakeNoZero"], unfollowed := true, recurses := true, named := ["unicode/utf8.first", "unicode/utf8.acceptRanges"], apart := false, laid := [("unicode/utf8.acceptRanges", laid_unicode_utf8_acceptRanges), ("unicode/utf8.first", laid_unicode_utf8_first)], narrowed := true }
def LabelsBytesUptoSaid : Prop := labelsBytesUptoRow.holds Tryd.pinned (OpenSpec.upto labelsBytesSpec)

/-- 'vigillaw02.LabelsAsked', WHERE WHAT IT READS IS OF BULK AT MOST 1048576: true; the input reads as it did. -/
def labelsAskedUptoRow : OpenClaim := { program := "ytfffblopkaandaadoor", sum := "348980a5a614465f6ed0af6e4acc0060bfdbb10ff96076a455543978cf80644f", func := "vigil/vigillaw02.LabelsAsked", spec := "labelsAsked", inPlace := ["internal/abi.NoEscape", "internal/bytealg.MakeNoZero", "slices.overlaps[vigil/api.Label]"], unfollowed := true, recurses := true, named := ["unicode/utf8.first", "unicode/utf8.acceptRanges"], apart := false, laid := [("unicode/utf8.acceptRanges", laid_unicode_utf8_acceptRanges), ("unicode/utf8.first", laid_unicode_utf8_first)], narrowed := true }
def LabelsAskedUptoSaid : Prop := labelsAskedUptoRow.holds Tryd.pinned (OpenSpec.upto labelsAskedSpec)

/-- 'vigillaw02.LabelsParts', WHERE WHAT IT READS IS OF BULK AT MOST 1048576: true; the input reads as it did. -/
def labelsPartsUptoRow : OpenClaim := { program := "ytfffblopkaandaadoor", sum := "348980a5a614465f6ed0af6e4acc0060bfdbb10ff96076a455543978cf80644f", func := "vigil/vigillaw02.LabelsParts", spec := "labelsParts", inPlace := ["slices.overlaps[vigil/api.Label]", "internal/abi.NoEscape", "internal/bytealg.MakeNoZero"], unfollowed := true, recurses := true, named := ["unicode/utf8.first", "unicode/utf8.acceptRanges"], apart := false, laid := [("unicode/utf8.acceptRanges", laid_unicode_utf8_acceptRanges), ("unicode/utf8.first", laid_unicode_utf8_first)], narrowed := true }
def LabelsPartsUptoSaid : Prop := labelsPartsUptoRow.holds Tryd.pinned (OpenSpec.upto labelsPartsSpec)

end Rows
end Go.Proofs.YtfffblopkaandaaDoor
