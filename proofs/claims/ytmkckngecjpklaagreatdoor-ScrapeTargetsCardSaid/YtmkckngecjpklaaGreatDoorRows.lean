/-
  NARROWER THAN 'FOR EVERY INPUT', by the rows' own cells (each row's printed sentence says how): ScrapeOnce: laid · ScrapeBatch: laid · ScrapeRelabel: laid · ScrapeHashes: laid · ScrapeHonor: laid · ScrapeSeries: laid · ScrapeTargets: laid.
  DERIVED. THE GIVEN ROWS OF THIS SEAT. 7 by the template 'for every input the law returns true; each argument reads behind the call as it read before'; 0 by the template 'total and deterministic' (their statements: YtmkckngecjpklaaGreatDoorTotals.lean).
  GIVEN WITH THE SEED: the statements are not yours to turn. If you find one false, say at which input.
  Laid BY PROGRAM, IN A SANDBOX (cutbox-rows.mjs): the forced cells as the released guide's own fill.sh prints them over the translation 337dcc01627f2181… (all of the seat's roots in one cut). By AI agents, Wed Nov 11 2026. No macro, syntax, notation, axiom, sorry.
-/
import Derived.Test.YtmkckngecjpklaaGreatDoorChecked
import GoSem.PinnedTables
import GoSem.Claim
import GoSem.ClaimJoined
import GoSem.ClaimMapViews
import Derived.JoinedTies
import Derived.KernelRfl
namespace Go.Proofs.YtmkckngecjpklaaGreatDoor
/- THE CELL 'sum', in the pinned program and in every row, IS THE sha256 OF THE DUMP (.gsa) THAT YtmkckngecjpklaaGreatDoorProg.lean LOADS. Nothing in Lean hashes anything: it is a label: what it is worth is what the hold of that sum in a sandbox is worth. -/
noncomputable def Tryz.pinned : Pinned := { name := "ytmkckngecjpklaagreatdoor", sum := "337dcc01627f2181760da108b8c20c449ff3839f3ea6192f69b49402deeeb733", checked := Tryz.checked }
namespace Rows
def none {H : Type} : Left H := { results := [], args := [] }

/- WHAT THE LISTED PACKAGE-LEVEL VARIABLES READ AS WHEN THE CALL BEGINS. Each datum BY PROGRAM (the guide's laid-datum.mjs) off the statement by which the dump's own 'gosem.cut.vars' lays the variable. In a bare row this is a premise. The card (YtmkckngecjpklaaGreatDoorCards.lean) ties it to the program's text. -/
def laid_unicode_utf8_acceptRanges {H : Type} : DataW H := .agg [.agg [.lit (.int .u8 128), .lit (.int .u8 191)], .agg [.lit (.int .u8 160), .lit (.int .u8 191)], .agg [.lit (.int .u8 128), .lit (.int .u8 159)], .agg [.lit (.int .u8 144), .lit (.int .u8 191)], .agg [.lit (.int .u8 128), .lit (.int .u8 143)], .agg [.lit (.int .u8 0), .lit (.int .u8 0)], .agg [.lit (.int .u8 0), .lit (.int .u8 0)], .agg [.lit (.int .u8 0), .lit (.int .u8 0)], .agg [.lit (.int .u8 0), .lit (.int .u8 0)], .agg [.lit (.int .u8 0), .lit (.int .u8 0)], .agg [.lit (.int .u8 0), .lit (.int .u8 0)], .agg [.lit (.int .u8 0), .lit (.int .u8 0)], .agg [.lit (.int .u8 0), .lit (.int .u8 0)], .agg [.lit (.int .u8 0), .lit (.int .u8 0)], .agg [.lit (.int .u8 0), .lit (.int .u8 0)], .agg [.lit (.int .u8 0), .lit (.int .u8 0)]]
/-- One of Go's own tables, pinned by name: the form's constant. -/
def laid_unicode_utf8_first : DataW Unit := Go.Pinned.utf8First

/-- 'vigillaw12.ScrapeOnce': WHATEVER THE INPUT: true; the input reads as it did. -/
def scrapeOnceSpec : ChangeSpec := { name := "scrapeOnce", fn := fun _ => fun
  | [d1, d2, d3] => { results := [.lit (.bool true)], args := [d1, d2, d3] }
  | _ => none }
def scrapeOnceRow : OpenClaim := { program := "ytmkckngecjpklaagreatdoor", sum := "337dcc01627f2181760da108b8c20c449ff3839f3ea6192f69b49402deeeb733", func := "vigil/vigillaw12.ScrapeOnce", spec := "scrapeOnce", inPlace := ["math.Float64bits", "internal/bytealg.IndexByte", "internal/bytealg.Index", "internal/bytealg.IndexByteString", "internal/bytealg.IndexString", "internal/abi.NoEscape", "math.Float64frombits", "slices.overlaps[vigil/api.Label]", "internal/bytealg.MakeNoZero"], unfollowed := true, recurses := true, named := ["internal/bytealg.MaxLen", "unicode/utf8.first", "unicode/utf8.acceptRanges"], apart := false, laid := [("unicode/utf8.acceptRanges", laid_unicode_utf8_acceptRanges), ("unicode/utf8.first", laid_unicode_utf8_first)] }
def ScrapeOnceSaid : Prop := scrapeOnceRow.holds Tryz.pinned (OpenSpec.ofChange scrapeOnceSpec)

/-- ITS FALSE NEIGHBOUR: 'it returns false'. Refute it at one input. -/
def scrapeOnceWrong : ChangeSpec := { name := "scrapeOnce", fn := fun _ => fun
  | [d1, d2, d3] => { results := [.lit (.bool false)], args := [d1, d2, d3] }
  | _ => none }
def ScrapeOnceWrongFalsely : Prop := scrapeOnceRow.holds Tryz.pinned (OpenSpec.ofChange scrapeOnceWrong)

/-- 'vigillaw12.ScrapeBatch': WHATEVER THE INPUT: true; the input reads as it did. -/
def scrapeBatchSpec : ChangeSpec := { name := "scrapeBatch", fn := fun _ => fun
  | [d] => { results := [.lit (.bool true)], args := [d] }
  | _ => none }
def scrapeBatchRow : OpenClaim := { program := "ytmkckngecjpklaagreatdoor", sum := "337dcc01627f2181760da108b8c20c449ff3839f3ea6192f69b49402deeeb733", func := "vigil/vigillaw12.ScrapeBatch", spec := "scrapeBatch", inPlace := ["internal/bytealg.IndexByteString", "internal/bytealg.IndexString", "internal/abi.NoEscape", "internal/bytealg.MakeNoZero", "slices.overlaps[vigil/api.Label]", "internal/bytealg.IndexByte", "internal/bytealg.Index", "math.Float64frombits", "math.Float64bits"], unfollowed := true, recurses := true, named := ["unicode/utf8.first", "unicode/utf8.acceptRanges", "internal/bytealg.MaxLen"], apart := false, laid := [("unicode/utf8.acceptRanges", laid_unicode_utf8_acceptRanges), ("unicode/utf8.first", laid_unicode_utf8_first)] }
def ScrapeBatchSaid : Prop := scrapeBatchRow.holds Tryz.pinned (OpenSpec.ofChange scrapeBatchSpec)

/-- ITS FALSE NEIGHBOUR: 'it returns false'. Refute it at one input. -/
def scrapeBatchWrong : ChangeSpec := { name := "scrapeBatch", fn := fun _ => fun
  | [d] => { results := [.lit (.bool false)], args := [d] }
  | _ => none }
def ScrapeBatchWrongFalsely : Prop := scrapeBatchRow.holds Tryz.pinned (OpenSpec.ofChange scrapeBatchWrong)

/-- 'vigillaw12.ScrapeRelabel': WHATEVER THE INPUT: true; the input reads as it did. -/
def scrapeRelabelSpec : ChangeSpec := { name := "scrapeRelabel", fn := fun _ => fun
  | [d1, d2] => { results := [.lit (.bool true)], args := [d1, d2] }
  | _ => none }
def scrapeRelabelRow : OpenClaim := { program := "ytmkckngecjpklaagreatdoor", sum := "337dcc01627f2181760da108b8c20c449ff3839f3ea6192f69b49402deeeb733", func := "vigil/vigillaw12.ScrapeRelabel", spec := "scrapeRelabel", inPlace := ["internal/bytealg.IndexByteString", "internal/bytealg.IndexString", "internal/abi.NoEscape", "internal/bytealg.MakeNoZero", "slices.overlaps[vigil/api.Label]"], unfollowed := true, recurses := true, named := ["unicode/utf8.first", "unicode/utf8.acceptRanges", "internal/bytealg.MaxLen"], apart := false, laid := [("unicode/utf8.acceptRanges", laid_unicode_utf8_acceptRanges), ("unicode/utf8.first", laid_unicode_utf8_first)] }
def ScrapeRelabelSaid : Prop := scrapeRelabelRow.holds Tryz.pinned (OpenSpec.ofChange scrapeRelabelSpec)

/-- ITS FALSE NEIGHBOUR: 'it returns false'. Refute it at one input. -/
def scrapeRelabelWrong : ChangeSpec := { name := "scrapeRelabel", fn := fun _ => fun
  | [d1, d2] => { results := [.lit (.bool false)], args := [d1, d2] }
  | _ => none }
def ScrapeRelabelWrongFalsely : Prop := scrapeRelabelRow.holds Tryz.pinned (OpenSpec.ofChange scrapeRelabelWrong)

/-- 'vigillaw12.ScrapeHashes': WHATEVER THE INPUT: true; the input reads as it did. -/
def scrapeHashesSpec : ChangeSpec := { name := "scrapeHashes", fn := fun _ => fun
  | [d] => { results := [.lit (.bool true)], args := [d] }
  | _ => none }
def scrapeHashesRow : OpenClaim := { program := "ytmkckngecjpklaagreatdoor", sum := "337dcc01627f2181760da108b8c20c449ff3839f3ea6192f69b49402deeeb733", func := "vigil/vigillaw12.ScrapeHashes", spec := "scrapeHashes", inPlace := ["internal/bytealg.IndexByteString", "internal/bytealg.IndexString", "internal/abi.NoEscape", "internal/bytealg.MakeNoZero", "slices.overlaps[vigil/api.Label]"], unfollowed := true, recurses := true, named := ["unicode/utf8.first", "unicode/utf8.acceptRanges", "internal/bytealg.MaxLen"], apart := false, laid := [("unicode/utf8.acceptRanges", laid_unicode_utf8_acceptRanges), ("unicode/utf8.first", laid_unicode_utf8_first)] }
def ScrapeHashesSaid : Prop := scrapeHashesRow.holds Tryz.pinned (OpenSpec.ofChange scrapeHashesSpec)

/-- ITS FALSE NEIGHBOUR: 'it returns false'. Refute it at one input. -/
def scrapeHashesWrong : ChangeSpec := { name := "scrapeHashes", fn := fun _ => fun
  | [d] => { results := [.lit (.bool false)], args := [d] }
  | _ => none }
def ScrapeHashesWrongFalsely : Prop := scrapeHashesRow.holds Tryz.pinned (OpenSpec.ofChange scrapeHashesWrong)

/-- 'vigillaw12.ScrapeHonor': WHATEVER THE INPUT: true; the input reads as it did. -/
def scrapeHonorSpec : ChangeSpec := { name := "scrapeHonor", fn := fun _ => fun
  | [d1, d2] => { results := [.lit (.bool true)], args := [d1, d2] }
  | _ => none }
def scrapeHonorRow : OpenClaim := { program := "ytmkckngecjpklaagreatdoor", sum := "337dcc01627f2181760da108b8c20c449ff3839f3ea6192f69b49402deeeb733", func := "vigil/vigillaw12.ScrapeHonor", spec := "scrapeHonor", inPlace := ["internal/bytealg.IndexByteString", "internal/bytealg.IndexString", "internal/abi.NoEscape", "internal/bytealg.MakeNoZero", "slices.overlaps[vigil/api.Label]"], unfollowed := true, recurses := true, named := ["unicode/utf8.first", "unicode/utf8.acceptRanges", "internal/bytealg.MaxLen"], apart := false, laid := [("unicode/utf8.acceptRanges", laid_unicode_utf8_acceptRanges), ("unicode/utf8.first", laid_unicode_utf8_first)] }
def ScrapeHonorSaid : Prop := scrapeHonorRow.holds Tryz.pinned (OpenSpec.ofChange scrapeHonorSpec)

/-- ITS FALSE NEIGHBOUR: 'it returns false'. Refute it at one input. -/
def scrapeHonorWrong : ChangeSpec := { name := "scrapeHonor", fn := fun _ => fun
  | [d1, d2] => { results := [.lit (.bool false)], args := [d1, d2] }
  | _ => none }
def ScrapeHonorWrongFalsely : Prop := scrapeHonorRow.holds Tryz.pinned (OpenSpec.ofChange scrapeHonorWrong)

/-- 'vigillaw12.ScrapeSeries': WHATEVER THE INPUT: true; the input reads as it did. -/
def scrapeSeriesSpec : ChangeSpec := { name := "scrapeSeries", fn := fun _ => fun
  | [d1, d2, d3] => { results := [.lit (.bool true)], args := [d1, d2, d3] }
  | _ => none }
def scrapeSeriesRow : OpenClaim := { program := "ytmkckngecjpklaagreatdoor", sum := "337dcc01627f2181760da108b8c20c449ff3839f3ea6192f69b49402deeeb733", func := "vigil/vigillaw12.ScrapeSeries", spec := "scrapeSeries", inPlace := ["slices.overlaps[vigil/api.Label]", "internal/bytealg.IndexByteString", "internal/bytealg.IndexString", "internal/abi.NoEscape", "internal/bytealg.MakeNoZero", "math.Float64bits"], unfollowed := true, recurses := true, named := ["unicode/utf8.first", "unicode/utf8.acceptRanges", "internal/bytealg.MaxLen"], apart := false, laid := [("unicode/utf8.acceptRanges", laid_unicode_utf8_acceptRanges), ("unicode/utf8.first", laid_unicode_utf8_first)] }
def ScrapeSeriesSaid : Prop := scrapeSeriesRow.holds Tryz.pinned (OpenSpec.ofChange scrapeSeriesSpec)

/-- ITS FALSE NEIGHBOUR: 'it returns false'. Refute it at one input. -/
def scrapeSeriesWrong : ChangeSpec := { name := "scrapeSeries", fn := fun _ => fun
  | [d1, d2, d3] => { results := [.lit (.bool false)], args := [d1, d2, d3] }
  | _ => none }
def ScrapeSeriesWrongFalsely : Prop := scrapeSeriesRow.holds Tryz.pinned (OpenSpec.ofChange scrapeSeriesWrong)

/-- 'vigillaw12.ScrapeTargets': WHATEVER THE INPUT: true; the input reads as it did. -/
def scrapeTargetsSpec : ChangeSpec := { name := "scrapeTargets", fn := fun _ => fun
  | [d] => { results := [.lit (.bool true)], args := [d] }
  | _ => none }
def scrapeTargetsRow : OpenClaim := { program := "ytmkckngecjpklaagreatdoor", sum := "337dcc01627f2181760da108b8c20c449ff3839f3ea6192f69b49402deeeb733", func := "vigil/vigillaw12.ScrapeTargets", spec := "scrapeTargets", inPlace := ["internal/bytealg.IndexByteString", "internal/bytealg.IndexString", "internal/abi.NoEscape", "internal/bytealg.MakeNoZero", "slices.overlaps[vigil/api.Label]"], unfollowed := true, recurses := true, named := ["unicode/utf8.first", "unicode/utf8.acceptRanges", "internal/bytealg.MaxLen"], apart := false, laid := [("unicode/utf8.acceptRanges", laid_unicode_utf8_acceptRanges), ("unicode/utf8.first", laid_unicode_utf8_first)] }
def ScrapeTargetsSaid : Prop := scrapeTargetsRow.holds Tryz.pinned (OpenSpec.ofChange scrapeTargetsSpec)

/-- ITS FALSE NEIGHBOUR: 'it returns false'. Refute it at one input. -/
def scrapeTargetsWrong : ChangeSpec := { name := "scrapeTargets", fn := fun _ => fun
  | [d] => { results := [.lit (.bool false)], args := [d] }
  | _ => none }
def ScrapeTargetsWrongFalsely : Prop := scrapeTargetsRow.holds Tryz.pinned (OpenSpec.ofChange scrapeTargetsWrong)

/- THE SECOND FORM. 'bulk': how many values and letters a reading holds, each counted each time it is reached (what is shared counts as often as it is met; a slice's spare places count too). A statement '..UptoSaid' is the law's where the arguments, and the package variables that the reading takes, are together of bulk at most 1048576: NARROWER than '..Said'. Prove '..Said' where nothing that the law and all that it calls make is longer than what came in: it says more and counts as full. Else prove '..UptoSaid'. A law counts once. -/
mutual
def uptoBulk {H : Type} : DataW H → Nat
  | .lit (.string bytes) => bytes.length + 1
  | .lit _ => 1
  | .nil => 1
  | .ptr d => uptoBulk d + 1
  | .slice elems spare => uptoBulkAll elems + uptoBulkAll spare + 1
  | .agg parts => uptoBulkAll parts + 1
  | .iface _ d => uptoBulk d + 1
  | .map entries => uptoBulkEntries entries + 1
  | .held _ => 1
def uptoBulkAll {H : Type} : List (DataW H) → Nat
  | [] => 0
  | d :: r => uptoBulk d + uptoBulkAll r
def uptoBulkEntries {H : Type} : List (Lit × DataW H) → Nat
  | [] => 0
  | x :: r => uptoBulkEntry x + uptoBulkEntries r
def uptoBulkEntry {H : Type} : Lit × DataW H → Nat
  | (.string bytes, d) => bytes.length + uptoBulk d + 1
  | (_, d) => uptoBulk d + 1
 end
def uptoSmall : (H : Type) → List (DataW H) → Bool := fun _ ds => decide (uptoBulkAll ds ≤ 1048576)
def OpenSpec.upto (s : _root_.Go.ChangeSpec) : _root_.Go.OpenSpec := { _root_.Go.OpenSpec.ofChange s with cond := some uptoSmall }

/-- 'vigillaw12.ScrapeOnce', WHERE WHAT IT READS IS OF BULK AT MOST 1048576: true; the input reads as it did. -/
def scrapeOnceUptoRow : OpenClaim := { program := "ytmkckngecjpklaagreatdoor", sum := "337dcc01627f2181760da108b8c20c449ff3839f3ea6192f69b49402deeeb733", func := "vigil/vigillaw12.ScrapeOnce", spec := "scrapeOnce", inPlace := ["math.Float64bits", "internal/bytealg.IndexByte", "internal/bytealg.Index", "internal/bytealg.IndexByteString", "internal/bytealg.IndexString", "internal/abi.NoEscape", "math.Float64frombits", "slices.overlaps[vigil/api.Label]", "internal/bytealg.MakeNoZero"], unfollowed := true, recurses := true, named := ["internal/bytealg.MaxLen", "unicode/utf8.first", "unicode/utf8.acceptRanges"], apart := false, laid := [("unicode/utf8.acceptRanges", laid_unicode_utf8_acceptRanges), ("unicode/utf8.first", laid_unicode_utf8_first)], narrowed := true }
def ScrapeOnceUptoSaid : Prop := scrapeOnceUptoRow.holds Tryz.pinned (OpenSpec.upto scrapeOnceSpec)

/-- 'vigillaw12.ScrapeBatch', WHERE WHAT IT READS IS OF BULK AT MOST 1048576: true; the input reads as it did. -/
def scrapeBatchUptoRow : OpenClaim := { program := "ytmkckngecjpklaagreatdoor", sum := "337dcc01627f2181760da108b8c20c449ff3839f3ea6192f69b49402deeeb733", func := "vigil/vigillaw12.ScrapeBatch", spec := "scrapeBatch", inPlace := ["internal/bytealg.IndexByteString", "internal/bytealg.IndexString", "internal/abi.NoEscape", "internal/bytealg.MakeNoZero", "slices.overlaps[vigil/api.Label]", "internal/bytealg.IndexByte", "internal/bytealg.Index", "math.Float64frombits", "math.Float64bits"], unfollowed := true, recurses := true, named := ["unicode/utf8.first", "unicode/utf8.acceptRanges", "internal/bytealg.MaxLen"], apart := false, laid := [("unicode/utf8.acceptRanges", laid_unicode_utf8_acceptRanges), ("unicode/utf8.first", laid_unicode_utf8_first)], narrowed := true }
def ScrapeBatchUptoSaid : Prop := scrapeBatchUptoRow.holds Tryz.pinned (OpenSpec.upto scrapeBatchSpec)

/-- 'vigillaw12.ScrapeRelabel', WHERE WHAT IT READS IS OF BULK AT MOST 1048576: true; the input reads as it did. -/
def scrapeRelabelUptoRow : OpenClaim := { program := "ytmkckngecjpklaagreatdoor", sum := "337dcc01627f2181760da108b8c20c449ff3839f3ea6192f69b49402deeeb733", func := "vigil/vigillaw12.ScrapeRelabel", spec := "scrapeRelabel", inPlace := ["internal/bytealg.IndexByteString", "internal/bytealg.IndexString", "internal/abi.NoEscape", "internal/bytealg.MakeNoZero", "slices.overlaps[vigil/api.Label]"], unfollowed := true, recurses := true, named := ["unicode/utf8.first", "unicode/utf8.acceptRanges", "internal/bytealg.MaxLen"], apart := false, laid := [("unicode/utf8.acceptRanges", laid_unicode_utf8_acceptRanges), ("unicode/utf8.first", laid_unicode_utf8_first)], narrowed := true }
def ScrapeRelabelUptoSaid : Prop := scrapeRelabelUptoRow.holds Tryz.pinned (OpenSpec.upto scrapeRelabelSpec)

/-- 'vigillaw12.ScrapeHashes', WHERE WHAT IT READS IS OF BULK AT MOST 1048576: true; the input reads as it did. -/
def scrapeHashesUptoRow : OpenClaim := { program := "ytmkckngecjpklaagreatdoor", sum := "337dcc01627f2181760da108b8c20c449ff3839f3ea6192f69b49402deeeb733", func := "vigil/vigillaw12.ScrapeHashes", spec := "scrapeHashes", inPlace := ["internal/bytealg.IndexByteString", "internal/bytealg.IndexString", "internal/abi.NoEscape", "internal/bytealg.MakeNoZero", "slices.overlaps[vigil/api.Label]"], unfollowed := true, recurses := true, named := ["unicode/utf8.first", "unicode/utf8.acceptRanges", "internal/bytealg.MaxLen"], apart := false, laid := [("unicode/utf8.acceptRanges", laid_unicode_utf8_acceptRanges), ("unicode/utf8.first", laid_unicode_utf8_first)], narrowed := true }
def ScrapeHashesUptoSaid : Prop := scrapeHashesUptoRow.holds Tryz.pinned (OpenSpec.upto scrapeHashesSpec)

/-- 'vigillaw12.ScrapeHonor', WHERE WHAT IT READS IS OF BULK AT MOST 1048576: true; the input reads as it did. -/
def scrapeHonorUptoRow : OpenClaim := { program := "ytmkckngecjpklaagreatdoor", sum := "337dcc01627f2181760da108b8c20c449ff3839f3ea6192f69b49402deeeb733", func := "vigil/vigillaw12.ScrapeHonor", spec := "scrapeHonor", inPlace := ["internal/bytealg.IndexByteString", "internal/bytealg.IndexString", "internal/abi.NoEscape", "internal/bytealg.MakeNoZero", "slices.overlaps[vigil/api.Label]"], unfollowed := true, recurses := true, named := ["unicode/utf8.first", "unicode/utf8.acceptRanges", "internal/bytealg.MaxLen"], apart := false, laid := [("unicode/utf8.acceptRanges", laid_unicode_utf8_acceptRanges), ("unicode/utf8.first", laid_unicode_utf8_first)], narrowed := true }
def ScrapeHonorUptoSaid : Prop := scrapeHonorUptoRow.holds Tryz.pinned (OpenSpec.upto scrapeHonorSpec)

/-- 'vigillaw12.ScrapeSeries', WHERE WHAT IT READS IS OF BULK AT MOST 1048576: true; the input reads as it did. -/
def scrapeSeriesUptoRow : OpenClaim := { program := "ytmkckngecjpklaagreatdoor", sum := "337dcc01627f2181760da108b8c20c449ff3839f3ea6192f69b49402deeeb733", func := "vigil/vigillaw12.ScrapeSeries", spec := "scrapeSeries", inPlace := ["slices.overlaps[vigil/api.Label]", "internal/bytealg.IndexByteString", "internal/bytealg.IndexString", "internal/abi.NoEscape", "internal/bytealg.MakeNoZero", "math.Float64bits"], unfollowed := true, recurses := true, named := ["unicode/utf8.first", "unicode/utf8.acceptRanges", "internal/bytealg.MaxLen"], apart := false, laid := [("unicode/utf8.acceptRanges", laid_unicode_utf8_acceptRanges), ("unicode/utf8.first", laid_unicode_utf8_first)], narrowed := true }
def ScrapeSeriesUptoSaid : Prop := scrapeSeriesUptoRow.holds Tryz.pinned (OpenSpec.upto scrapeSeriesSpec)

/-- 'vigillaw12.ScrapeTargets', WHERE WHAT IT READS IS OF BULK AT MOST 1048576: true; the input reads as it did. -/
def scrapeTargetsUptoRow : OpenClaim := { program := "ytmkckngecjpklaagreatdoor", sum := "337dcc01627f2181760da108b8c20c449ff3839f3ea6192f69b49402deeeb733", func := "vigil/vigillaw12.ScrapeTargets", spec := "scrapeTargets", inPlace := ["internal/bytealg.IndexByteString", "internal/bytealg.IndexString", "internal/abi.NoEscape", "internal/bytealg.MakeNoZero", "slices.overlaps[vigil/api.Label]"], unfollowed := true, recurses := true, named := ["unicode/utf8.first", "unicode/utf8.acceptRanges", "internal/bytealg.MaxLen"], apart := false, laid := [("unicode/utf8.acceptRanges", laid_unicode_utf8_acceptRanges), ("unicode/utf8.first", laid_unicode_utf8_first)], narrowed := true }
def ScrapeTargetsUptoSaid : Prop := scrapeTargetsUptoRow.holds Tryz.pinned (OpenSpec.upto scrapeTargetsSpec)

end Rows
end Go.Proofs.YtmkckngecjpklaaGreatDoor
