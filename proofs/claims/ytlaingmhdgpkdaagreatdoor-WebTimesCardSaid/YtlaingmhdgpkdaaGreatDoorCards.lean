/-
  DERIVED. GIVEN WITH THE SEED: THE CARDS: each row of YtlaingmhdgpkdaaGreatDoorRows.lean that lists a variable, with what it lists TIED to the program's text (the seventh form; the later family's looks); each row that meets fmt, with fmt's text TOLD by the authors' own Lean function (tested against real Go, not proved from fmt's source: count such statements apart). THE CARD IS WHAT COUNTS. Prove the row's statement (the work); the ties are given (YtlaingmhdgpkdaaGreatDoorTie.lean); close each card by the builder's one call (the guide's Derived/Test/ToyasCard.lean, 'card_holds'). Laid BY PROGRAM, IN A SANDBOX (cutbox-door.mjs). By AI agents, Wed Nov 11 2026. No macro, syntax, notation, axiom, sorry.
-/
import Derived.Test.YtlaingmhdgpkdaaGreatDoorRows
import GoSem.ClaimSeven
namespace Go.Proofs.YtlaingmhdgpkdaaGreatDoor
namespace Rows

/-- THE TIED CARD OF 'vigillaw17.WebBack'. -/
def webBackCard : Claim7 := { stood := { row := webBackRow, standIns := [], harness := (true, "0922d28de035dc30b96a65000e3bef09134925abbf0e498e956d565780cc62ce"), looks := false }, kinds := [], alts := [], laidByText := true, laidKinds := [.data, .sentinel, .pinned, .pinned], laidTests := true, laidLooks := .later }
def WebBackCardSaid : Prop := Claim7.holds Tryz.pinned (.plain (OpenSpec.ofChange webBackSpec)) webBackCard

/-- THE TIED CARD OF 'vigillaw17.WebJSON'. -/
def webJSONCard : Claim7 := { stood := { row := webJSONRow, standIns := [], harness := (true, "0922d28de035dc30b96a65000e3bef09134925abbf0e498e956d565780cc62ce"), looks := false }, kinds := [], alts := [], laidByText := true, laidKinds := [.data, .sentinel, .pinned, .pinned], laidTests := true, laidLooks := .later }
def WebJSONCardSaid : Prop := Claim7.holds Tryz.pinned (.plain (OpenSpec.ofChange webJSONSpec)) webJSONCard

/-- THE TIED CARD OF 'vigillaw17.WebTimes'. -/
def webTimesCard : Claim7 := { stood := { row := webTimesRow, standIns := [], harness := (true, "0922d28de035dc30b96a65000e3bef09134925abbf0e498e956d565780cc62ce"), looks := false }, kinds := [], alts := [], laidByText := true, laidKinds := [.data, .pinned, .pinned], laidTests := true, laidLooks := .later }
def WebTimesCardSaid : Prop := Claim7.holds Tryz.pinned (.plain (OpenSpec.ofChange webTimesSpec)) webTimesCard

/-- THE SECOND FORM's CARD OF 'vigillaw17.WebBack'. -/
def webBackUptoCard : Claim7 := { stood := { row := webBackUptoRow, standIns := [], harness := (true, "0922d28de035dc30b96a65000e3bef09134925abbf0e498e956d565780cc62ce"), looks := false }, kinds := [], alts := [], laidByText := true, laidKinds := [.data, .sentinel, .pinned, .pinned], laidTests := true, laidLooks := .later }
def WebBackUptoCardSaid : Prop := Claim7.holds Tryz.pinned (.plain (OpenSpec.upto webBackSpec)) webBackUptoCard

/-- THE SECOND FORM's CARD OF 'vigillaw17.WebJSON'. -/
def webJSONUptoCard : Claim7 := { stood := { row := webJSONUptoRow, standIns := [], harness := (true, "0922d28de035dc30b96a65000e3bef09134925abbf0e498e956d565780cc62ce"), looks := false }, kinds := [], alts := [], laidByText := true, laidKinds := [.data, .sentinel, .pinned, .pinned], laidTests := true, laidLooks := .later }
def WebJSONUptoCardSaid : Prop := Claim7.holds Tryz.pinned (.plain (OpenSpec.upto webJSONSpec)) webJSONUptoCard

/-- THE SECOND FORM's CARD OF 'vigillaw17.WebTimes'. -/
def webTimesUptoCard : Claim7 := { stood := { row := webTimesUptoRow, standIns := [], harness := (true, "0922d28de035dc30b96a65000e3bef09134925abbf0e498e956d565780cc62ce"), looks := false }, kinds := [], alts := [], laidByText := true, laidKinds := [.data, .pinned, .pinned], laidTests := true, laidLooks := .later }
def WebTimesUptoCardSaid : Prop := Claim7.holds Tryz.pinned (.plain (OpenSpec.upto webTimesSpec)) webTimesUptoCard
end Rows
end Go.Proofs.YtlaingmhdgpkdaaGreatDoor
