/-
  NARROWER THAN 'FOR EVERY INPUT', by the rows' own cells (each row's printed sentence says how): RegexGroups: laid · RegexAlgebra: laid · RegexRepeats: laid · RegexClass: laid · RegexCompile: laid · RegexAll: laid · RegexQuote: laid · RegexExpand: laid.
  DERIVED. THE GIVEN ROWS OF THIS SEAT. 8 by the template 'for every input the law returns true; each argument reads behind the call as it read before'; 0 by the template 'total and deterministic' (their statements: YtbpkhgehchelhaaDoorTotals.lean).
  GIVEN WITH THE SEED: the statements are not yours to turn. If you find one false, say at which input.
  Laid BY PROGRAM, IN A SANDBOX (cutbox-rows.mjs): the forced cells as the released guide's own fill.sh prints them over the translation a347bd2e6586ff39… (all of the seat's roots in one cut). By AI agents, Wed Nov 11 2026. No macro, syntax, notation, axiom, sorry.
-/
import Derived.Test.YtbpkhgehchelhaaDoorChecked
import GoSem.PinnedTables
import GoSem.Claim
import GoSem.ClaimJoined
import GoSem.ClaimMapViews
import Derived.JoinedTies
import Derived.KernelRfl
namespace Go.Proofs.YtbpkhgehchelhaaDoor
/- THE CELL 'sum', in the pinned program and in every row, IS THE sha256 OF THE DUMP (.gsa) THAT YtbpkhgehchelhaaDoorProg.lean LOADS. Nothing in Lean hashes anything: it is a label: what it is worth is what the hold of that sum in a sandbox is worth. -/
noncomputable def Tryd.pinned : Pinned := { name := "ytbpkhgehchelhaadoor", sum := "a347bd2e6586ff39fd0871cc2963e6b5e3cda1dcf85d71a3cef8c33fe121ecab", checked := Tryd.checked }
namespace Rows
def none {H : Type} : Left H := { results := [], args := [] }

/- WHAT THE LISTED PACKAGE-LEVEL VARIABLES READ AS WHEN THE CALL BEGINS. Each datum BY PROGRAM (the guide's laid-datum.mjs) off the statement by which the dump's own 'gosem.cut.vars' lays the variable. In a bare row this is a premise. The card (YtbpkhgehchelhaaDoorCards.lean) ties it to the program's text. -/
def laid_unicode_utf8_acceptRanges {H : Type} : DataW H := .agg [.agg [.lit (.int .u8 128), .lit (.int .u8 191)], .agg [.lit (.int .u8 160), .lit (.int .u8 191)], .agg [.lit (.int .u8 128), .lit (.int .u8 159)], .agg [.lit (.int .u8 144), .lit (.int .u8 191)], .agg [.lit (.int .u8 128), .lit (.int .u8 143)], .agg [.lit (.int .u8 0), .lit (.int .u8 0)], .agg [.lit (.int .u8 0), .lit (.int .u8 0)], .agg [.lit (.int .u8 0), .lit (.int .u8 0)], .agg [.lit (.int .u8 0), .lit (.int .u8 0)], .agg [.lit (.int .u8 0), .lit (.int .u8 0)], .agg [.lit (.int .u8 0), .lit (.int .u8 0)], .agg [.lit (.int .u8 0), .lit (.int .u8 0)], .agg [.lit (.int .u8 0), .lit (.int .u8 0)], .agg [.lit (.int .u8 0), .lit (.int .u8 0)], .agg [.lit (.int .u8 0), .lit (.int .u8 0)], .agg [.lit (.int .u8 0), .lit (.int .u8 0)]]
/-- One of Go's own tables, pinned by name: the form's constant. -/
def laid_unicode_utf8_first : DataW Unit := Go.Pinned.utf8First

/-- 'vigillaw04.RegexGroups': WHATEVER THE INPUT: true; the input reads as it did. -/
def regexGroupsSpec : ChangeSpec := { name := "regexGroups", fn := fun _ => fun
  | [d1, d2] => { results := [.lit (.bool true)], args := [d1, d2] }
  | _ => none }
def regexGroupsRow : OpenClaim := { program := "ytbpkhgehchelhaadoor", sum := "a347bd2e6586ff39fd0871cc2963e6b5e3cda1dcf85d71a3cef8c33fe121ecab", func := "vigil/vigillaw04.RegexGroups", spec := "regexGroups", inPlace := ["internal/bytealg.IndexByteString", "internal/bytealg.IndexString"], unfollowed := true, recurses := true, named := ["unicode/utf8.first", "unicode/utf8.acceptRanges", "internal/bytealg.MaxLen"], apart := false, laid := [("unicode/utf8.acceptRanges", laid_unicode_utf8_acceptRanges), ("unicode/utf8.first", laid_unicode_utf8_first)] }
def RegexGroupsSaid : Prop := regexGroupsRow.holds Tryd.pinned (OpenSpec.ofChange regexGroupsSpec)

/-- ITS FALSE NEIGHBOUR: 'it returns false'. Refute it at one input. -/
def regexGroupsWrong : ChangeSpec := { name := "regexGroups", fn := fun _ => fun
  | [d1, d2] => { results := [.lit (.bool false)], args := [d1, d2] }
  | _ => none }
def RegexGroupsWrongFalsely : Prop := regexGroupsRow.holds Tryd.pinned (OpenSpec.ofChange regexGroupsWrong)

/-- 'vigillaw04.RegexAlgebra': WHATEVER THE INPUT: true; the input reads as it did. -/
def regexAlgebraSpec : ChangeSpec := { name := "regexAlgebra", fn := fun _ => fun
  | [d1, d2, d3] => { results := [.lit (.bool true)], args := [d1, d2, d3] }
  | _ => none }
def regexAlgebraRow : OpenClaim := { program := "ytbpkhgehchelhaadoor", sum := "a347bd2e6586ff39fd0871cc2963e6b5e3cda1dcf85d71a3cef8c33fe121ecab", func := "vigil/vigillaw04.RegexAlgebra", spec := "regexAlgebra", inPlace := ["internal/bytealg.IndexByteString", "internal/bytealg.IndexString"], unfollowed := true, recurses := true, named := ["unicode/utf8.first", "unicode/utf8.acceptRanges", "internal/bytealg.MaxLen"], apart := false, laid := [("unicode/utf8.acceptRanges", laid_unicode_utf8_acceptRanges), ("unicode/utf8.first", laid_unicode_utf8_first)] }
def RegexAlgebraSaid : Prop := regexAlgebraRow.holds Tryd.pinned (OpenSpec.ofChange regexAlgebraSpec)

/-- ITS FALSE NEIGHBOUR: 'it returns false'. Refute it at one input. -/
def regexAlgebraWrong : ChangeSpec := { name := "regexAlgebra", fn := fun _ => fun
  | [d1, d2, d3] => { results := [.lit (.bool false)], args := [d1, d2, d3] }
  | _ => none }
def RegexAlgebraWrongFalsely : Prop := regexAlgebraRow.holds Tryd.pinned (OpenSpec.ofChange regexAlgebraWrong)

/-- 'vigillaw04.RegexRepeats': WHATEVER THE INPUT: true; the input reads as it did. -/
def regexRepeatsSpec : ChangeSpec := { name := "regexRepeats", fn := fun _ => fun
  | [d] => { results := [.lit (.bool true)], args := [d] }
  | _ => none }
def regexRepeatsRow : OpenClaim := { program := "ytbpkhgehchelhaadoor", sum := "a347bd2e6586ff39fd0871cc2963e6b5e3cda1dcf85d71a3cef8c33fe121ecab", func := "vigil/vigillaw04.RegexRepeats", spec := "regexRepeats", inPlace := ["internal/bytealg.IndexByteString", "internal/bytealg.IndexString"], unfollowed := true, recurses := true, named := ["unicode/utf8.first", "unicode/utf8.acceptRanges", "internal/bytealg.MaxLen"], apart := false, laid := [("unicode/utf8.acceptRanges", laid_unicode_utf8_acceptRanges), ("unicode/utf8.first", laid_unicode_utf8_first)] }
def RegexRepeatsSaid : Prop := regexRepeatsRow.holds Tryd.pinned (OpenSpec.ofChange regexRepeatsSpec)

/-- ITS FALSE NEIGHBOUR: 'it returns false'. Refute it at one input. -/
def regexRepeatsWrong : ChangeSpec := { name := "regexRepeats", fn := fun _ => fun
  | [d] => { results := [.lit (.bool false)], args := [d] }
  | _ => none }
def RegexRepeatsWrongFalsely : Prop := regexRepeatsRow.holds Tryd.pinned (OpenSpec.ofChange regexRepeatsWrong)

/-- 'vigillaw04.RegexClass': WHATEVER THE INPUT: true; the input reads as it did. -/
def regexClassSpec : ChangeSpec := { name := "regexClass", fn := fun _ => fun
  | [d] => { results := [.lit (.bool true)], args := [d] }
  | _ => none }
def regexClassRow : OpenClaim := { program := "ytbpkhgehchelhaadoor", sum := "a347bd2e6586ff39fd0871cc2963e6b5e3cda1dcf85d71a3cef8c33fe121ecab", func := "vigil/vigillaw04.RegexClass", spec := "regexClass", inPlace := ["internal/bytealg.IndexByteString", "internal/bytealg.IndexString"], unfollowed := true, recurses := true, named := ["unicode/utf8.first", "unicode/utf8.acceptRanges", "internal/bytealg.MaxLen"], apart := false, laid := [("unicode/utf8.acceptRanges", laid_unicode_utf8_acceptRanges), ("unicode/utf8.first", laid_unicode_utf8_first)] }
def RegexClassSaid : Prop := regexClassRow.holds Tryd.pinned (OpenSpec.ofChange regexClassSpec)

/-- ITS FALSE NEIGHBOUR: 'it returns false'. Refute it at one input. -/
def regexClassWrong : ChangeSpec := { name := "regexClass", fn := fun _ => fun
  | [d] => { results := [.lit (.bool false)], args := [d] }
  | _ => none }
def RegexClassWrongFalsely : Prop := regexClassRow.holds Tryd.pinned (OpenSpec.ofChange regexClassWrong)

/-- 'vigillaw04.RegexCompile': WHATEVER THE INPUT: true; the input reads as it did. -/
def regexCompileSpec : ChangeSpec := { name := "regexCompile", fn := fun _ => fun
  | [d] => { results := [.lit (.bool true)], args := [d] }
  | _ => none }
def regexCompileRow : OpenClaim := { program := "ytbpkhgehchelhaadoor", sum := "a347bd2e6586ff39fd0871cc2963e6b5e3cda1dcf85d71a3cef8c33fe121ecab", func := "vigil/vigillaw04.RegexCompile", spec := "regexCompile", inPlace := ["internal/bytealg.IndexByteString", "internal/bytealg.IndexString"], unfollowed := true, recurses := true, named := ["unicode/utf8.first", "unicode/utf8.acceptRanges", "internal/bytealg.MaxLen"], apart := false, laid := [("unicode/utf8.acceptRanges", laid_unicode_utf8_acceptRanges), ("unicode/utf8.first", laid_unicode_utf8_first)] }
def RegexCompileSaid : Prop := regexCompileRow.holds Tryd.pinned (OpenSpec.ofChange regexCompileSpec)

/-- ITS FALSE NEIGHBOUR: 'it returns false'. Refute it at one input. -/
def regexCompileWrong : ChangeSpec := { name := "regexCompile", fn := fun _ => fun
  | [d] => { results := [.lit (.bool false)], args := [d] }
  | _ => none }
def RegexCompileWrongFalsely : Prop := regexCompileRow.holds Tryd.pinned (OpenSpec.ofChange regexCompileWrong)

/-- 'vigillaw04.RegexAll': WHATEVER THE INPUT: true; the input reads as it did. -/
def regexAllSpec : ChangeSpec := { name := "regexAll", fn := fun _ => fun
  | [d1, d2, d3] => { results := [.lit (.bool true)], args := [d1, d2, d3] }
  | _ => none }
def regexAllRow : OpenClaim := { program := "ytbpkhgehchelhaadoor", sum := "a347bd2e6586ff39fd0871cc2963e6b5e3cda1dcf85d71a3cef8c33fe121ecab", func := "vigil/vigillaw04.RegexAll", spec := "regexAll", inPlace := ["internal/bytealg.IndexByteString", "internal/bytealg.IndexString"], unfollowed := true, recurses := true, named := ["unicode/utf8.first", "unicode/utf8.acceptRanges", "internal/bytealg.MaxLen"], apart := false, laid := [("unicode/utf8.acceptRanges", laid_unicode_utf8_acceptRanges), ("unicode/utf8.first", laid_unicode_utf8_first)] }
def RegexAllSaid : Prop := regexAllRow.holds Tryd.pinned (OpenSpec.ofChange regexAllSpec)

/-- ITS FALSE NEIGHBOUR: 'it returns false'. Refute it at one input. -/
def regexAllWrong : ChangeSpec := { name := "regexAll", fn := fun _ => fun
  | [d1, d2, d3] => { results := [.lit (.bool false)], args := [d1, d2, d3] }
  | _ => none }
def RegexAllWrongFalsely : Prop := regexAllRow.holds Tryd.pinned (OpenSpec.ofChange regexAllWrong)

/-- 'vigillaw04.RegexQuote': WHATEVER THE INPUT: true; the input reads as it did. -/
def regexQuoteSpec : ChangeSpec := { name := "regexQuote", fn := fun _ => fun
  | [d1, d2] => { results := [.lit (.bool true)], args := [d1, d2] }
  | _ => none }
def regexQuoteRow : OpenClaim := { program := "ytbpkhgehchelhaadoor", sum := "a347bd2e6586ff39fd0871cc2963e6b5e3cda1dcf85d71a3cef8c33fe121ecab", func := "vigil/vigillaw04.RegexQuote", spec := "regexQuote", inPlace := ["internal/bytealg.IndexByteString", "internal/bytealg.IndexString", "internal/abi.NoEscape"], unfollowed := true, recurses := true, named := ["unicode/utf8.first", "unicode/utf8.acceptRanges", "internal/bytealg.MaxLen"], apart := false, laid := [("unicode/utf8.acceptRanges", laid_unicode_utf8_acceptRanges), ("unicode/utf8.first", laid_unicode_utf8_first)] }
def RegexQuoteSaid : Prop := regexQuoteRow.holds Tryd.pinned (OpenSpec.ofChange regexQuoteSpec)

/-- ITS FALSE NEIGHBOUR: 'it returns false'. Refute it at one input. -/
def regexQuoteWrong : ChangeSpec := { name := "regexQuote", fn := fun _ => fun
  | [d1, d2] => { results := [.lit (.bool false)], args := [d1, d2] }
  | _ => none }
def RegexQuoteWrongFalsely : Prop := regexQuoteRow.holds Tryd.pinned (OpenSpec.ofChange regexQuoteWrong)

/-- 'vigillaw04.RegexExpand': WHATEVER THE INPUT: true; the input reads as it did. -/
def regexExpandSpec : ChangeSpec := { name := "regexExpand", fn := fun _ => fun
  | [d1, d2, d3] => { results := [.lit (.bool true)], args := [d1, d2, d3] }
  | _ => none }
def regexExpandRow : OpenClaim := { program := "ytbpkhgehchelhaadoor", sum := "a347bd2e6586ff39fd0871cc2963e6b5e3cda1dcf85d71a3cef8c33fe121ecab", func := "vigil/vigillaw04.RegexExpand", spec := "regexExpand", inPlace := ["internal/bytealg.IndexByteString", "internal/bytealg.IndexString", "internal/abi.NoEscape"], unfollowed := true, recurses := true, named := ["unicode/utf8.first", "unicode/utf8.acceptRanges", "internal/bytealg.MaxLen"], apart := false, laid := [("unicode/utf8.acceptRanges", laid_unicode_utf8_acceptRanges), ("unicode/utf8.first", laid_unicode_utf8_first)] }
def RegexExpandSaid : Prop := regexExpandRow.holds Tryd.pinned (OpenSpec.ofChange regexExpandSpec)

/-- ITS FALSE NEIGHBOUR: 'it returns false'. Refute it at one input. -/
def regexExpandWrong : ChangeSpec := { name := "regexExpand", fn := fun _ => fun
  | [d1, d2, d3] => { results := [.lit (.bool false)], args := [d1, d2, d3] }
  | _ => none }
def RegexExpandWrongFalsely : Prop := regexExpandRow.holds Tryd.pinned (OpenSpec.ofChange regexExpandWrong)

/- THE SECOND FORM. 'bulk': how many values and letters a reading holds, each counted each time it is reached (what is shared counts as often as it is met; a slice's spare places count too). A statement '..UptoSaid' is the law's where the arguments, and the package variables that the reading takes, are together of bulk at most 1048576: NARROWER than '..Said'. Prove '..Said' where nothing that the law and all that it calls make is longer than what came in: it says more and counts as full. Else prove '..UptoSaid'. A law counts once. -/
mutual
def uptoBulk {H : Type} : DataW H → Nat
  | .lit (.string bytes) => bytes.length + 1
  | .lit _ => 1
  | .nil => 1
  | .ptr d => uptoBulk d + 1
  | .slice elems spare => uptoBulkAll elems + uptoBulkAll spare + 1
  | .agg parts => uptoBulkAll parts + 1
  | .iface _ d => uptoBulk d + 1
  | .map entries => uptoBulkEntries entries + 1
  | .held _ => 1
def uptoBulkAll {H : Type} : List (DataW H) → Nat
  | [] => 0
  | d :: r => uptoBulk d + uptoBulkAll r
def uptoBulkEntries {H : Type} : List (Lit × DataW H) → Nat
  | [] => 0
  | x :: r => uptoBulkEntry x + uptoBulkEntries r
def uptoBulkEntry {H : Type} : Lit × DataW H → Nat
  | (.string bytes, d) => bytes.length + uptoBulk d + 1
  | (_, d) => uptoBulk d + 1
 end
def uptoSmall : (H : Type) → List (DataW H) → Bool := fun _ ds => decide (uptoBulkAll ds ≤ 1048576)
def OpenSpec.upto (s : _root_.Go.ChangeSpec) : _root_.Go.OpenSpec := { _root_.Go.OpenSpec.ofChange s with cond := some uptoSmall }

/-- 'vigillaw04.RegexGroups', WHERE WHAT IT READS IS OF BULK AT MOST 1048576: true; the input reads as it did. -/
def regexGroupsUptoRow : OpenClaim := { program := "ytbpkhgehchelhaadoor", sum := "a347bd2e6586ff39fd0871cc2963e6b5e3cda1dcf85d71a3cef8c33fe121ecab", func := "vigil/vigillaw04.RegexGroups", spec := "regexGroups", inPlace := ["internal/bytealg.IndexByteString", "internal/bytealg.IndexString"], unfollowed := true, recurses := true, named := ["unicode/utf8.first", "unicode/utf8.acceptRanges", "internal/bytealg.MaxLen"], apart := false, laid := [("unicode/utf8.acceptRanges", laid_unicode_utf8_acceptRanges), ("unicode/utf8.first", laid_unicode_utf8_first)], narrowed := true }
def RegexGroupsUptoSaid : Prop := regexGroupsUptoRow.holds Tryd.pinned (OpenSpec.upto regexGroupsSpec)

/-- 'vigillaw04.RegexAlgebra', WHERE WHAT IT READS IS OF BULK AT MOST 1048576: true; the input reads as it did. -/
def regexAlgebraUptoRow : OpenClaim := { program := "ytbpkhgehchelhaadoor", sum := "a347bd2e6586ff39fd0871cc2963e6b5e3cda1dcf85d71a3cef8c33fe121ecab", func := "vigil/vigillaw04.RegexAlgebra", spec := "regexAlgebra", inPlace := ["internal/bytealg.IndexByteString", "internal/bytealg.IndexString"], unfollowed := true, recurses := true, named := ["unicode/utf8.first", "unicode/utf8.acceptRanges", "internal/bytealg.MaxLen"], apart := false, laid := [("unicode/utf8.acceptRanges", laid_unicode_utf8_acceptRanges), ("unicode/utf8.first", laid_unicode_utf8_first)], narrowed := true }
def RegexAlgebraUptoSaid : Prop := regexAlgebraUptoRow.holds Tryd.pinned (OpenSpec.upto regexAlgebraSpec)

/-- 'vigillaw04.RegexRepeats', WHERE WHAT IT READS IS OF BULK AT MOST 1048576: true; the input reads as it did. -/
def regexRepeatsUptoRow : OpenClaim := { program := "ytbpkhgehchelhaadoor", sum := "a347bd2e6586ff39fd0871cc2963e6b5e3cda1dcf85d71a3cef8c33fe121ecab", func := "vigil/vigillaw04.RegexRepeats", spec := "regexRepeats", inPlace := ["internal/bytealg.IndexByteString", "internal/bytealg.IndexString"], unfollowed := true, recurses := true, named := ["unicode/utf8.first", "unicode/utf8.acceptRanges", "internal/bytealg.MaxLen"], apart := false, laid := [("unicode/utf8.acceptRanges", laid_unicode_utf8_acceptRanges), ("unicode/utf8.first", laid_unicode_utf8_first)], narrowed := true }
def RegexRepeatsUptoSaid : Prop := regexRepeatsUptoRow.holds Tryd.pinned (OpenSpec.upto regexRepeatsSpec)

/-- 'vigillaw04.RegexClass', WHERE WHAT IT READS IS OF BULK AT MOST 1048576: true; the input reads as it did. -/
def regexClassUptoRow : OpenClaim := { program := "ytbpkhgehchelhaadoor", sum := "a347bd2e6586ff39fd0871cc2963e6b5e3cda1dcf85d71a3cef8c33fe121ecab", func := "vigil/vigillaw04.RegexClass", spec := "regexClass", inPlace := ["internal/bytealg.IndexByteString", "internal/bytealg.IndexString"], unfollowed := true, recurses := true, named := ["unicode/utf8.first", "unicode/utf8.acceptRanges", "internal/bytealg.MaxLen"], apart := false, laid := [("unicode/utf8.acceptRanges", laid_unicode_utf8_acceptRanges), ("unicode/utf8.first", laid_unicode_utf8_first)], narrowed := true }
def RegexClassUptoSaid : Prop := regexClassUptoRow.holds Tryd.pinned (OpenSpec.upto regexClassSpec)

/-- 'vigillaw04.RegexCompile', WHERE WHAT IT READS IS OF BULK AT MOST 1048576: true; the input reads as it did. -/
def regexCompileUptoRow : OpenClaim := { program := "ytbpkhgehchelhaadoor", sum := "a347bd2e6586ff39fd0871cc2963e6b5e3cda1dcf85d71a3cef8c33fe121ecab", func := "vigil/vigillaw04.RegexCompile", spec := "regexCompile", inPlace := ["internal/bytealg.IndexByteString", "internal/bytealg.IndexString"], unfollowed := true, recurses := true, named := ["unicode/utf8.first", "unicode/utf8.acceptRanges", "internal/bytealg.MaxLen"], apart := false, laid := [("unicode/utf8.acceptRanges", laid_unicode_utf8_acceptRanges), ("unicode/utf8.first", laid_unicode_utf8_first)], narrowed := true }
def RegexCompileUptoSaid : Prop := regexCompileUptoRow.holds Tryd.pinned (OpenSpec.upto regexCompileSpec)

/-- 'vigillaw04.RegexAll', WHERE WHAT IT READS IS OF BULK AT MOST 1048576: true; the input reads as it did. -/
def regexAllUptoRow : OpenClaim := { program := "ytbpkhgehchelhaadoor", sum := "a347bd2e6586ff39fd0871cc2963e6b5e3cda1dcf85d71a3cef8c33fe121ecab", func := "vigil/vigillaw04.RegexAll", spec := "regexAll", inPlace := ["internal/bytealg.IndexByteString", "internal/bytealg.IndexString"], unfollowed := true, recurses := true, named := ["unicode/utf8.first", "unicode/utf8.acceptRanges", "internal/bytealg.MaxLen"], apart := false, laid := [("unicode/utf8.acceptRanges", laid_unicode_utf8_acceptRanges), ("unicode/utf8.first", laid_unicode_utf8_first)], narrowed := true }
def RegexAllUptoSaid : Prop := regexAllUptoRow.holds Tryd.pinned (OpenSpec.upto regexAllSpec)

/-- 'vigillaw04.RegexQuote', WHERE WHAT IT READS IS OF BULK AT MOST 1048576: true; the input reads as it did. -/
def regexQuoteUptoRow : OpenClaim := { program := "ytbpkhgehchelhaadoor", sum := "a347bd2e6586ff39fd0871cc2963e6b5e3cda1dcf85d71a3cef8c33fe121ecab", func := "vigil/vigillaw04.RegexQuote", spec := "regexQuote", inPlace := ["internal/bytealg.IndexByteString", "internal/bytealg.IndexString", "internal/abi.NoEscape"], unfollowed := true, recurses := true, named := ["unicode/utf8.first", "unicode/utf8.acceptRanges", "internal/bytealg.MaxLen"], apart := false, laid := [("unicode/utf8.acceptRanges", laid_unicode_utf8_acceptRanges), ("unicode/utf8.first", laid_unicode_utf8_first)], narrowed := true }
def RegexQuoteUptoSaid : Prop := regexQuoteUptoRow.holds Tryd.pinned (OpenSpec.upto regexQuoteSpec)

/-- 'vigillaw04.RegexExpand', WHERE WHAT IT READS IS OF BULK AT MOST 1048576: true; the input reads as it did. -/
def regexExpandUptoRow : OpenClaim := { program := "ytbpkhgehchelhaadoor", sum := "a347bd2e6586ff39fd0871cc2963e6b5e3cda1dcf85d71a3cef8c33fe121ecab", func := "vigil/vigillaw04.RegexExpand", spec := "regexExpand", inPlace := ["internal/bytealg.IndexByteString", "internal/bytealg.IndexString", "internal/abi.NoEscape"], unfollowed := true, recurses := true, named := ["unicode/utf8.first", "unicode/utf8.acceptRanges", "internal/bytealg.MaxLen"], apart := false, laid := [("unicode/utf8.acceptRanges", laid_unicode_utf8_acceptRanges), ("unicode/utf8.first", laid_unicode_utf8_first)], narrowed := true }
def RegexExpandUptoSaid : Prop := regexExpandUptoRow.holds Tryd.pinned (OpenSpec.upto regexExpandSpec)

end Rows
end Go.Proofs.YtbpkhgehchelhaaDoor
