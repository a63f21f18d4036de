/-
  DERIVED. GIVEN WITH THE SEED: THE CARDS: each row of YtbpkhgehchelhaaDoorRows.lean that lists a variable, with what it lists TIED to the program's text (the seventh form; the later family's looks); each row that meets fmt, with fmt's text TOLD by the authors' own Lean function (tested against real Go, not proved from fmt's source: count such statements apart). THE CARD IS WHAT COUNTS. Prove the row's statement (the work); the ties are given (YtbpkhgehchelhaaDoorTie.lean); close each card by the builder's one call (the guide's Derived/Test/ToyasCard.lean, 'card_holds'). Laid BY PROGRAM, IN A SANDBOX (cutbox-door.mjs). By AI agents, Wed Nov 11 2026. No macro, syntax, notation, axiom, sorry.
-/
import Derived.Test.YtbpkhgehchelhaaDoorRows
import GoSem.ClaimSeven
namespace Go.Proofs.YtbpkhgehchelhaaDoor
namespace Rows

/-- THE TIED CARD OF 'vigillaw04.RegexGroups'. -/
def regexGroupsCard : Claim7 := { stood := { row := regexGroupsRow, standIns := [], harness := (true, "1e908928ed93c53b6a5afeef9e4ec69de10ada4e7eb864b46922035bd197c4d4"), looks := true }, kinds := [], alts := [], laidByText := true, laidKinds := [.data, .pinned], laidTests := true, laidLooks := .later }
def RegexGroupsCardSaid : Prop := Claim7.holds Tryd.pinned (.plain (OpenSpec.ofChange regexGroupsSpec)) regexGroupsCard

/-- THE TIED CARD OF 'vigillaw04.RegexAlgebra'. -/
def regexAlgebraCard : Claim7 := { stood := { row := regexAlgebraRow, standIns := [], harness := (true, "1e908928ed93c53b6a5afeef9e4ec69de10ada4e7eb864b46922035bd197c4d4"), looks := true }, kinds := [], alts := [], laidByText := true, laidKinds := [.data, .pinned], laidTests := true, laidLooks := .later }
def RegexAlgebraCardSaid : Prop := Claim7.holds Tryd.pinned (.plain (OpenSpec.ofChange regexAlgebraSpec)) regexAlgebraCard

/-- THE TIED CARD OF 'vigillaw04.RegexRepeats'. -/
def regexRepeatsCard : Claim7 := { stood := { row := regexRepeatsRow, standIns := [], harness := (true, "1e908928ed93c53b6a5afeef9e4ec69de10ada4e7eb864b46922035bd197c4d4"), looks := true }, kinds := [], alts := [], laidByText := true, laidKinds := [.data, .pinned], laidTests := true, laidLooks := .later }
def RegexRepeatsCardSaid : Prop := Claim7.holds Tryd.pinned (.plain (OpenSpec.ofChange regexRepeatsSpec)) regexRepeatsCard

/-- THE TIED CARD OF 'vigillaw04.RegexClass'. -/
def regexClassCard : Claim7 := { stood := { row := regexClassRow, standIns := [], harness := (true, "1e908928ed93c53b6a5afeef9e4ec69de10ada4e7eb864b46922035bd197c4d4"), looks := true }, kinds := [], alts := [], laidByText := true, laidKinds := [.data, .pinned], laidTests := true, laidLooks := .later }
def RegexClassCardSaid : Prop := Claim7.holds Tryd.pinned (.plain (OpenSpec.ofChange regexClassSpec)) regexClassCard

/-- THE TIED CARD OF 'vigillaw04.RegexCompile'. -/
def regexCompileCard : Claim7 := { stood := { row := regexCompileRow, standIns := [], harness := (true, "1e908928ed93c53b6a5afeef9e4ec69de10ada4e7eb864b46922035bd197c4d4"), looks := true }, kinds := [], alts := [], laidByText := true, laidKinds := [.data, .pinned], laidTests := true, laidLooks := .later }
def RegexCompileCardSaid : Prop := Claim7.holds Tryd.pinned (.plain (OpenSpec.ofChange regexCompileSpec)) regexCompileCard

/-- THE TIED CARD OF 'vigillaw04.RegexAll'. -/
def regexAllCard : Claim7 := { stood := { row := regexAllRow, standIns := [], harness := (true, "1e908928ed93c53b6a5afeef9e4ec69de10ada4e7eb864b46922035bd197c4d4"), looks := true }, kinds := [], alts := [], laidByText := true, laidKinds := [.data, .pinned], laidTests := true, laidLooks := .later }
def RegexAllCardSaid : Prop := Claim7.holds Tryd.pinned (.plain (OpenSpec.ofChange regexAllSpec)) regexAllCard

/-- THE TIED CARD OF 'vigillaw04.RegexQuote'. -/
def regexQuoteCard : Claim7 := { stood := { row := regexQuoteRow, standIns := [], harness := (true, "1e908928ed93c53b6a5afeef9e4ec69de10ada4e7eb864b46922035bd197c4d4"), looks := true }, kinds := [], alts := [], laidByText := true, laidKinds := [.data, .pinned], laidTests := true, laidLooks := .later }
def RegexQuoteCardSaid : Prop := Claim7.holds Tryd.pinned (.plain (OpenSpec.ofChange regexQuoteSpec)) regexQuoteCard

/-- THE TIED CARD OF 'vigillaw04.RegexExpand'. -/
def regexExpandCard : Claim7 := { stood := { row := regexExpandRow, standIns := [], harness := (true, "1e908928ed93c53b6a5afeef9e4ec69de10ada4e7eb864b46922035bd197c4d4"), looks := true }, kinds := [], alts := [], laidByText := true, laidKinds := [.data, .pinned], laidTests := true, laidLooks := .later }
def RegexExpandCardSaid : Prop := Claim7.holds Tryd.pinned (.plain (OpenSpec.ofChange regexExpandSpec)) regexExpandCard

/-- THE SECOND FORM's CARD OF 'vigillaw04.RegexGroups'. -/
def regexGroupsUptoCard : Claim7 := { stood := { row := regexGroupsUptoRow, standIns := [], harness := (true, "1e908928ed93c53b6a5afeef9e4ec69de10ada4e7eb864b46922035bd197c4d4"), looks := true }, kinds := [], alts := [], laidByText := true, laidKinds := [.data, .pinned], laidTests := true, laidLooks := .later }
def RegexGroupsUptoCardSaid : Prop := Claim7.holds Tryd.pinned (.plain (OpenSpec.upto regexGroupsSpec)) regexGroupsUptoCard

/-- THE SECOND FORM's CARD OF 'vigillaw04.RegexAlgebra'. -/
def regexAlgebraUptoCard : Claim7 := { stood := { row := regexAlgebraUptoRow, standIns := [], harness := (true, "1e908928ed93c53b6a5afeef9e4ec69de10ada4e7eb864b46922035bd197c4d4"), looks := true }, kinds := [], alts := [], laidByText := true, laidKinds := [.data, .pinned], laidTests := true, laidLooks := .later }
def RegexAlgebraUptoCardSaid : Prop := Claim7.holds Tryd.pinned (.plain (OpenSpec.upto regexAlgebraSpec)) regexAlgebraUptoCard

/-- THE SECOND FORM's CARD OF 'vigillaw04.RegexRepeats'. -/
def regexRepeatsUptoCard : Claim7 := { stood := { row := regexRepeatsUptoRow, standIns := [], harness := (true, "1e908928ed93c53b6a5afeef9e4ec69de10ada4e7eb864b46922035bd197c4d4"), looks := true }, kinds := [], alts := [], laidByText := true, laidKinds := [.data, .pinned], laidTests := true, laidLooks := .later }
def RegexRepeatsUptoCardSaid : Prop := Claim7.holds Tryd.pinned (.plain (OpenSpec.upto regexRepeatsSpec)) regexRepeatsUptoCard

/-- THE SECOND FORM's CARD OF 'vigillaw04.RegexClass'. -/
def regexClassUptoCard : Claim7 := { stood := { row := regexClassUptoRow, standIns := [], harness := (true, "1e908928ed93c53b6a5afeef9e4ec69de10ada4e7eb864b46922035bd197c4d4"), looks := true }, kinds := [], alts := [], laidByText := true, laidKinds := [.data, .pinned], laidTests := true, laidLooks := .later }
def RegexClassUptoCardSaid : Prop := Claim7.holds Tryd.pinned (.plain (OpenSpec.upto regexClassSpec)) regexClassUptoCard

/-- THE SECOND FORM's CARD OF 'vigillaw04.RegexCompile'. -/
def regexCompileUptoCard : Claim7 := { stood := { row := regexCompileUptoRow, standIns := [], harness := (true, "1e908928ed93c53b6a5afeef9e4ec69de10ada4e7eb864b46922035bd197c4d4"), looks := true }, kinds := [], alts := [], laidByText := true, laidKinds := [.data, .pinned], laidTests := true, laidLooks := .later }
def RegexCompileUptoCardSaid : Prop := Claim7.holds Tryd.pinned (.plain (OpenSpec.upto regexCompileSpec)) regexCompileUptoCard

/-- THE SECOND FORM's CARD OF 'vigillaw04.RegexAll'. -/
def regexAllUptoCard : Claim7 := { stood := { row := regexAllUptoRow, standIns := [], harness := (true, "1e908928ed93c53b6a5afeef9e4ec69de10ada4e7eb864b46922035bd197c4d4"), looks := true }, kinds := [], alts := [], laidByText := true, laidKinds := [.data, .pinned], laidTests := true, laidLooks := .later }
def RegexAllUptoCardSaid : Prop := Claim7.holds Tryd.pinned (.plain (OpenSpec.upto regexAllSpec)) regexAllUptoCard

/-- THE SECOND FORM's CARD OF 'vigillaw04.RegexQuote'. -/
def regexQuoteUptoCard : Claim7 := { stood := { row := regexQuoteUptoRow, standIns := [], harness := (true, "1e908928ed93c53b6a5afeef9e4ec69de10ada4e7eb864b46922035bd197c4d4"), looks := true }, kinds := [], alts := [], laidByText := true, laidKinds := [.data, .pinned], laidTests := true, laidLooks := .later }
def RegexQuoteUptoCardSaid : Prop := Claim7.holds Tryd.pinned (.plain (OpenSpec.upto regexQuoteSpec)) regexQuoteUptoCard

/-- THE SECOND FORM's CARD OF 'vigillaw04.RegexExpand'. -/
def regexExpandUptoCard : Claim7 := { stood := { row := regexExpandUptoRow, standIns := [], harness := (true, "1e908928ed93c53b6a5afeef9e4ec69de10ada4e7eb864b46922035bd197c4d4"), looks := true }, kinds := [], alts := [], laidByText := true, laidKinds := [.data, .pinned], laidTests := true, laidLooks := .later }
def RegexExpandUptoCardSaid : Prop := Claim7.holds Tryd.pinned (.plain (OpenSpec.upto regexExpandSpec)) regexExpandUptoCard
end Rows
end Go.Proofs.YtbpkhgehchelhaaDoor
