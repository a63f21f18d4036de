/-
  DERIVED. GIVEN WITH THE SEED: THE CARDS: each row of YtfffblopkaandaaDoorRows.lean that lists a variable, with what it lists TIED to the program's text (the seventh form; the later family's looks); each row that meets fmt, with fmt's text TOLD by the authors' own Lean function (tested against real Go, not proved from fmt's source: count such statements apart). THE CARD IS WHAT COUNTS. Prove the row's statement (the work); the ties are given (YtfffblopkaandaaDoorTie.lean); close each card by the builder's one call (the guide's Derived/Test/ToyasCard.lean, 'card_holds'). Laid BY PROGRAM, IN A SANDBOX (cutbox-door.mjs). By AI agents, Wed Nov 11 2026. No macro, syntax, notation, axiom, sorry.
-/
import Derived.Test.YtfffblopkaandaaDoorRows
import GoSem.ClaimSeven
namespace Go.Proofs.YtfffblopkaandaaDoor
namespace Rows

/-- THE TIED CARD OF 'vigillaw02.LabelsAll'. -/
def labelsAllCard : Claim7 := { stood := { row := labelsAllRow, standIns := [], harness := (true, "25577d48bcf3c5fea2f806aa9eb69d04e558a6af46d1f93e46b3801e17776ca4"), looks := false }, kinds := [], alts := [], laidByText := true, laidKinds := [.data, .pinned], laidTests := true, laidLooks := .later }
def LabelsAllCardSaid : Prop := Claim7.holds Tryd.pinned (.plain (OpenSpec.ofChange labelsAllSpec)) labelsAllCard

/-- THE TIED CARD OF 'vigillaw02.LabelsNew'. -/
def labelsNewCard : Claim7 := { stood := { row := labelsNewRow, standIns := [], harness := (true, "25577d48bcf3c5fea2f806aa9eb69d04e558a6af46d1f93e46b3801e17776ca4"), looks := false }, kinds := [], alts := [], laidByText := true, laidKinds := [.data, .pinned], laidTests := true, laidLooks := .later }
def LabelsNewCardSaid : Prop := Claim7.holds Tryd.pinned (.plain (OpenSpec.ofChange labelsNewSpec)) labelsNewCard

/-- THE TIED CARD OF 'vigillaw02.LabelsMatch'. -/
def labelsMatchCard : Claim7 := { stood := { row := labelsMatchRow, standIns := [], harness := (true, "25577d48bcf3c5fea2f806aa9eb69d04e558a6af46d1f93e46b3801e17776ca4"), looks := false }, kinds := [], alts := [], laidByText := true, laidKinds := [.data, .pinned], laidTests := true, laidLooks := .later }
def LabelsMatchCardSaid : Prop := Claim7.holds Tryd.pinned (.plain (OpenSpec.ofChange labelsMatchSpec)) labelsMatchCard

/-- THE TIED CARD OF 'vigillaw02.LabelsNames'. -/
def labelsNamesCard : Claim7 := { stood := { row := labelsNamesRow, standIns := [], harness := (true, "25577d48bcf3c5fea2f806aa9eb69d04e558a6af46d1f93e46b3801e17776ca4"), looks := false }, kinds := [], alts := [], laidByText := true, laidKinds := [.data, .pinned], laidTests := true, laidLooks := .later }
def LabelsNamesCardSaid : Prop := Claim7.holds Tryd.pinned (.plain (OpenSpec.ofChange labelsNamesSpec)) labelsNamesCard

/-- THE TIED CARD OF 'vigillaw02.LabelsOrder'. -/
def labelsOrderCard : Claim7 := { stood := { row := labelsOrderRow, standIns := [], harness := (true, "25577d48bcf3c5fea2f806aa9eb69d04e558a6af46d1f93e46b3801e17776ca4"), looks := false }, kinds := [], alts := [], laidByText := true, laidKinds := [.data, .pinned], laidTests := true, laidLooks := .later }
def LabelsOrderCardSaid : Prop := Claim7.holds Tryd.pinned (.plain (OpenSpec.ofChange labelsOrderSpec)) labelsOrderCard

/-- THE TIED CARD OF 'vigillaw02.LabelsRead'. -/
def labelsReadCard : Claim7 := { stood := { row := labelsReadRow, standIns := [], harness := (true, "25577d48bcf3c5fea2f806aa9eb69d04e558a6af46d1f93e46b3801e17776ca4"), looks := false }, kinds := [], alts := [], laidByText := true, laidKinds := [.data, .pinned], laidTests := true, laidLooks := .later }
def LabelsReadCardSaid : Prop := Claim7.holds Tryd.pinned (.plain (OpenSpec.ofChange labelsReadSpec)) labelsReadCard

/-- THE TIED CARD OF 'vigillaw02.LabelsBytes'. -/
def labelsBytesCard : Claim7 := { stood := { row := labelsBytesRow, standIns := [], harness := (true, "25577d48bcf3c5fea2f806aa9eb69d04e558a6af46d1f93e46b3801e17776ca4"), looks := false }, kinds := [], alts := [], laidByText := true, laidKinds := [.data, .pinned], laidTests := true, laidLooks := .later }
def LabelsBytesCardSaid : Prop := Claim7.holds Tryd.pinned (.plain (OpenSpec.ofChange labelsBytesSpec)) labelsBytesCard

/-- THE TIED CARD OF 'vigillaw02.LabelsAsked'. -/
def labelsAskedCard : Claim7 := { stood := { row := labelsAskedRow, standIns := [], harness := (true, "25577d48bcf3c5fea2f806aa9eb69d04e558a6af46d1f93e46b3801e17776ca4"), looks := false }, kinds := [], alts := [], laidByText := true, laidKinds := [.data, .pinned], laidTests := true, laidLooks := .later }
def LabelsAskedCardSaid : Prop := Claim7.holds Tryd.pinned (.plain (OpenSpec.ofChange labelsAskedSpec)) labelsAskedCard

/-- THE TIED CARD OF 'vigillaw02.LabelsParts'. -/
def labelsPartsCard : Claim7 := { stood := { row := labelsPartsRow, standIns := [], harness := (true, "25577d48bcf3c5fea2f806aa9eb69d04e558a6af46d1f93e46b3801e17776ca4"), looks := false }, kinds := [], alts := [], laidByText := true, laidKinds := [.data, .pinned], laidTests := true, laidLooks := .later }
def LabelsPartsCardSaid : Prop := Claim7.holds Tryd.pinned (.plain (OpenSpec.ofChange labelsPartsSpec)) labelsPartsCard

/-- THE SECOND FORM's CARD OF 'vigillaw02.LabelsAll'. -/
def labelsAllUptoCard : Claim7 := { stood := { row := labelsAllUptoRow, standIns := [], harness := (true, "25577d48bcf3c5fea2f806aa9eb69d04e558a6af46d1f93e46b3801e17776ca4"), looks := false }, kinds := [], alts := [], laidByText := true, laidKinds := [.data, .pinned], laidTests := true, laidLooks := .later }
def LabelsAllUptoCardSaid : Prop := Claim7.holds Tryd.pinned (.plain (OpenSpec.upto labelsAllSpec)) labelsAllUptoCard

/-- THE SECOND FORM's CARD OF 'vigillaw02.LabelsNew'. -/
def labelsNewUptoCard : Claim7 := { stood := { row := labelsNewUptoRow, standIns := [], harness := (true, "25577d48bcf3c5fea2f806aa9eb69d04e558a6af46d1f93e46b3801e17776ca4"), looks := false }, kinds := [], alts := [], laidByText := true, laidKinds := [.data, .pinned], laidTests := true, laidLooks := .later }
def LabelsNewUptoCardSaid : Prop := Claim7.holds Tryd.pinned (.plain (OpenSpec.upto labelsNewSpec)) labelsNewUptoCard

/-- THE SECOND FORM's CARD OF 'vigillaw02.LabelsMatch'. -/
def labelsMatchUptoCard : Claim7 := { stood := { row := labelsMatchUptoRow, standIns := [], harness := (true, "25577d48bcf3c5fea2f806aa9eb69d04e558a6af46d1f93e46b3801e17776ca4"), looks := false }, kinds := [], alts := [], laidByText := true, laidKinds := [.data, .pinned], laidTests := true, laidLooks := .later }
def LabelsMatchUptoCardSaid : Prop := Claim7.holds Tryd.pinned (.plain (OpenSpec.upto labelsMatchSpec)) labelsMatchUptoCard

/-- THE SECOND FORM's CARD OF 'vigillaw02.LabelsNames'. -/
def labelsNamesUptoCard : Claim7 := { stood := { row := labelsNamesUptoRow, standIns := [], harness := (true, "25577d48bcf3c5fea2f806aa9eb69d04e558a6af46d1f93e46b3801e17776ca4"), looks := false }, kinds := [], alts := [], laidByText := true, laidKinds := [.data, .pinned], laidTests := true, laidLooks := .later }
def LabelsNamesUptoCardSaid : Prop := Claim7.holds Tryd.pinned (.plain (OpenSpec.upto labelsNamesSpec)) labelsNamesUptoCard

/-- THE SECOND FORM's CARD OF 'vigillaw02.LabelsOrder'. -/
def labelsOrderUptoCard : Claim7 := { stood := { row := labelsOrderUptoRow, standIns := [], harness := (true, "25577d48bcf3c5fea2f806aa9eb69d04e558a6af46d1f93e46b3801e17776ca4"), looks := false }, kinds := [], alts := [], laidByText := true, laidKinds := [.data, .pinned], laidTests := true, laidLooks := .later }
def LabelsOrderUptoCardSaid : Prop := Claim7.holds Tryd.pinned (.plain (OpenSpec.upto labelsOrderSpec)) labelsOrderUptoCard

/-- THE SECOND FORM's CARD OF 'vigillaw02.LabelsRead'. -/
def labelsReadUptoCard : Claim7 := { stood := { row := labelsReadUptoRow, standIns := [], harness := (true, "25577d48bcf3c5fea2f806aa9eb69d04e558a6af46d1f93e46b3801e17776ca4"), looks := false }, kinds := [], alts := [], laidByText := true, laidKinds := [.data, .pinned], laidTests := true, laidLooks := .later }
def LabelsReadUptoCardSaid : Prop := Claim7.holds Tryd.pinned (.plain (OpenSpec.upto labelsReadSpec)) labelsReadUptoCard

/-- THE SECOND FORM's CARD OF 'vigillaw02.LabelsBytes'. -/
def labelsBytesUptoCard : Claim7 := { stood := { row := labelsBytesUptoRow, standIns := [], harness := (true, "25577d48bcf3c5fea2f806aa9eb69d04e558a6af46d1f93e46b3801e17776ca4"), looks := false }, kinds := [], alts := [], laidByText := true, laidKinds := [.data, .pinned], laidTests := true, laidLooks := .later }
def LabelsBytesUptoCardSaid : Prop := Claim7.holds Tryd.pinned (.plain (OpenSpec.upto labelsBytesSpec)) labelsBytesUptoCard

/-- THE SECOND FORM's CARD OF 'vigillaw02.LabelsAsked'. -/
def labelsAskedUptoCard : Claim7 := { stood := { row := labelsAskedUptoRow, standIns := [], harness := (true, "25577d48bcf3c5fea2f806aa9eb69d04e558a6af46d1f93e46b3801e17776ca4"), looks := false }, kinds := [], alts := [], laidByText := true, laidKinds := [.data, .pinned], laidTests := true, laidLooks := .later }
def LabelsAskedUptoCardSaid : Prop := Claim7.holds Tryd.pinned (.plain (OpenSpec.upto labelsAskedSpec)) labelsAskedUptoCard

/-- THE SECOND FORM's CARD OF 'vigillaw02.LabelsParts'. -/
def labelsPartsUptoCard : Claim7 := { stood := { row := labelsPartsUptoRow, standIns := [], harness := (true, "25577d48bcf3c5fea2f806aa9eb69d04e558a6af46d1f93e46b3801e17776ca4"), looks := false }, kinds := [], alts := [], laidByText := true, laidKinds := [.data, .pinned], laidTests := true, laidLooks := .later }
def LabelsPartsUptoCardSaid : Prop := Claim7.holds Tryd.pinned (.plain (OpenSpec.upto labelsPartsSpec)) labelsPartsUptoCard
end Rows
end Go.Proofs.YtfffblopkaandaaDoor
