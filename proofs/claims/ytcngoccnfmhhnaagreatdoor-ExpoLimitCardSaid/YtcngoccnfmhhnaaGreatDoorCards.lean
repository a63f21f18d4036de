/-
  DERIVED. GIVEN WITH THE SEED: THE CARDS: each row of YtcngoccnfmhhnaaGreatDoorRows.lean that lists a variable, with what it lists TIED to the program's text (the seventh form; the later family's looks); each row that meets fmt, with fmt's text TOLD by the authors' own Lean function (tested against real Go, not proved from fmt's source: count such statements apart). THE CARD IS WHAT COUNTS. Prove the row's statement (the work); the ties are given (YtcngoccnfmhhnaaGreatDoorTie.lean); close each card by the builder's one call (the guide's Derived/Test/ToyasCard.lean, 'card_holds'). Laid BY PROGRAM, IN A SANDBOX (cutbox-door.mjs). By AI agents, Wed Nov 11 2026. No macro, syntax, notation, axiom, sorry.
-/
import Derived.Test.YtcngoccnfmhhnaaGreatDoorRows
import GoSem.ClaimSeven
namespace Go.Proofs.YtcngoccnfmhhnaaGreatDoor
namespace Rows

/-- THE TIED CARD OF 'vigillaw11.ExpoLines'. -/
def expoLinesCard : Claim7 := { stood := { row := expoLinesRow, standIns := [], harness := (true, "09eaaaf7de9ad3a3375a44a0d2396a33bee6183d58382559a140cf9778e4991a"), looks := true }, kinds := [], alts := [], laidByText := true, laidKinds := [.data, .pinned], laidTests := true, laidLooks := .later }
def ExpoLinesCardSaid : Prop := Claim7.holds Tryz.pinned (.plain (OpenSpec.ofChange expoLinesSpec)) expoLinesCard

/-- THE TIED CARD OF 'vigillaw11.ExpoRead'. -/
def expoReadCard : Claim7 := { stood := { row := expoReadRow, standIns := [], harness := (true, "09eaaaf7de9ad3a3375a44a0d2396a33bee6183d58382559a140cf9778e4991a"), looks := true }, kinds := [], alts := [], laidByText := true, laidKinds := [.data, .pinned], laidTests := true, laidLooks := .later }
def ExpoReadCardSaid : Prop := Claim7.holds Tryz.pinned (.plain (OpenSpec.ofChange expoReadSpec)) expoReadCard

/-- THE TIED CARD OF 'vigillaw11.ExpoWhole'. -/
def expoWholeCard : Claim7 := { stood := { row := expoWholeRow, standIns := [], harness := (true, "09eaaaf7de9ad3a3375a44a0d2396a33bee6183d58382559a140cf9778e4991a"), looks := true }, kinds := [], alts := [], laidByText := true, laidKinds := [.data, .pinned], laidTests := true, laidLooks := .later }
def ExpoWholeCardSaid : Prop := Claim7.holds Tryz.pinned (.plain (OpenSpec.ofChange expoWholeSpec)) expoWholeCard

/-- THE TIED CARD OF 'vigillaw11.ExpoLimit'. -/
def expoLimitCard : Claim7 := { stood := { row := expoLimitRow, standIns := [], harness := (true, "09eaaaf7de9ad3a3375a44a0d2396a33bee6183d58382559a140cf9778e4991a"), looks := true }, kinds := [], alts := [], laidByText := true, laidKinds := [.data, .pinned], laidTests := true, laidLooks := .later }
def ExpoLimitCardSaid : Prop := Claim7.holds Tryz.pinned (.plain (OpenSpec.ofChange expoLimitSpec)) expoLimitCard

/-- THE SECOND FORM's CARD OF 'vigillaw11.ExpoLines'. -/
def expoLinesUptoCard : Claim7 := { stood := { row := expoLinesUptoRow, standIns := [], harness := (true, "09eaaaf7de9ad3a3375a44a0d2396a33bee6183d58382559a140cf9778e4991a"), looks := true }, kinds := [], alts := [], laidByText := true, laidKinds := [.data, .pinned], laidTests := true, laidLooks := .later }
def ExpoLinesUptoCardSaid : Prop := Claim7.holds Tryz.pinned (.plain (OpenSpec.upto expoLinesSpec)) expoLinesUptoCard

/-- THE SECOND FORM's CARD OF 'vigillaw11.ExpoRead'. -/
def expoReadUptoCard : Claim7 := { stood := { row := expoReadUptoRow, standIns := [], harness := (true, "09eaaaf7de9ad3a3375a44a0d2396a33bee6183d58382559a140cf9778e4991a"), looks := true }, kinds := [], alts := [], laidByText := true, laidKinds := [.data, .pinned], laidTests := true, laidLooks := .later }
def ExpoReadUptoCardSaid : Prop := Claim7.holds Tryz.pinned (.plain (OpenSpec.upto expoReadSpec)) expoReadUptoCard

/-- THE SECOND FORM's CARD OF 'vigillaw11.ExpoWhole'. -/
def expoWholeUptoCard : Claim7 := { stood := { row := expoWholeUptoRow, standIns := [], harness := (true, "09eaaaf7de9ad3a3375a44a0d2396a33bee6183d58382559a140cf9778e4991a"), looks := true }, kinds := [], alts := [], laidByText := true, laidKinds := [.data, .pinned], laidTests := true, laidLooks := .later }
def ExpoWholeUptoCardSaid : Prop := Claim7.holds Tryz.pinned (.plain (OpenSpec.upto expoWholeSpec)) expoWholeUptoCard

/-- THE SECOND FORM's CARD OF 'vigillaw11.ExpoLimit'. -/
def expoLimitUptoCard : Claim7 := { stood := { row := expoLimitUptoRow, standIns := [], harness := (true, "09eaaaf7de9ad3a3375a44a0d2396a33bee6183d58382559a140cf9778e4991a"), looks := true }, kinds := [], alts := [], laidByText := true, laidKinds := [.data, .pinned], laidTests := true, laidLooks := .later }
def ExpoLimitUptoCardSaid : Prop := Claim7.holds Tryz.pinned (.plain (OpenSpec.upto expoLimitSpec)) expoLimitUptoCard
end Rows
end Go.Proofs.YtcngoccnfmhhnaaGreatDoor
