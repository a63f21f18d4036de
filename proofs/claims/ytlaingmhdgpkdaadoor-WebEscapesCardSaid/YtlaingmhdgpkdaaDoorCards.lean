/-
  DERIVED. GIVEN WITH THE SEED: THE CARDS: each row of YtlaingmhdgpkdaaDoorRows.lean that lists a variable, with what it lists TIED to the program's text (the seventh form; the later family's looks); each row that meets fmt, with fmt's text TOLD by the authors' own Lean function (tested against real Go, not proved from fmt's source: count such statements apart). THE CARD IS WHAT COUNTS. Prove the row's statement (the work); the ties are given (YtlaingmhdgpkdaaDoorTie.lean); close each card by the builder's one call (the guide's Derived/Test/ToyasCard.lean, 'card_holds'). Laid BY PROGRAM, IN A SANDBOX (cutbox-door.mjs). By AI agents, Wed Nov 11 2026. No macro, syntax, notation, axiom, sorry.
-/
import Derived.Test.YtlaingmhdgpkdaaDoorRows
import GoSem.ClaimSeven
namespace Go.Proofs.YtlaingmhdgpkdaaDoor
namespace Rows

/-- THE TIED CARD OF 'vigillaw17.WebGreat'. -/
def webGreatCard : Claim7 := { stood := { row := webGreatRow, standIns := [], harness := (true, "061ca409ec922191660927c4eddcb932fba81267cc009870def6b53ef27edf03"), looks := false }, kinds := [], alts := [], laidByText := true, laidKinds := [.data, .pinned, .pinned], laidTests := true, laidLooks := .later }
def WebGreatCardSaid : Prop := Claim7.holds Tryd.pinned (.plain (OpenSpec.ofChange webGreatSpec)) webGreatCard

/-- THE TIED CARD OF 'vigillaw17.WebParams'. -/
def webParamsCard : Claim7 := { stood := { row := webParamsRow, standIns := [], harness := (true, "061ca409ec922191660927c4eddcb932fba81267cc009870def6b53ef27edf03"), looks := false }, kinds := [], alts := [], laidByText := true, laidKinds := [.data, .pinned, .pinned], laidTests := true, laidLooks := .later }
def WebParamsCardSaid : Prop := Claim7.holds Tryd.pinned (.plain (OpenSpec.ofChange webParamsSpec)) webParamsCard

/-- THE TIED CARD OF 'vigillaw17.WebEscapes'. -/
def webEscapesCard : Claim7 := { stood := { row := webEscapesRow, standIns := [], harness := (true, "061ca409ec922191660927c4eddcb932fba81267cc009870def6b53ef27edf03"), looks := false }, kinds := [], alts := [], laidByText := true, laidKinds := [.data, .pinned, .pinned], laidTests := true, laidLooks := .later }
def WebEscapesCardSaid : Prop := Claim7.holds Tryd.pinned (.plain (OpenSpec.ofChange webEscapesSpec)) webEscapesCard

/-- THE TIED CARD OF 'vigillaw17.WebAnswers'. -/
def webAnswersCard : Claim7 := { stood := { row := webAnswersRow, standIns := [], harness := (true, "061ca409ec922191660927c4eddcb932fba81267cc009870def6b53ef27edf03"), looks := false }, kinds := [], alts := [], laidByText := true, laidKinds := [.data, .pinned, .pinned], laidTests := true, laidLooks := .later }
def WebAnswersCardSaid : Prop := Claim7.holds Tryd.pinned (.plain (OpenSpec.ofChange webAnswersSpec)) webAnswersCard

/-- THE SECOND FORM's CARD OF 'vigillaw17.WebGreat'. -/
def webGreatUptoCard : Claim7 := { stood := { row := webGreatUptoRow, standIns := [], harness := (true, "061ca409ec922191660927c4eddcb932fba81267cc009870def6b53ef27edf03"), looks := false }, kinds := [], alts := [], laidByText := true, laidKinds := [.data, .pinned, .pinned], laidTests := true, laidLooks := .later }
def WebGreatUptoCardSaid : Prop := Claim7.holds Tryd.pinned (.plain (OpenSpec.upto webGreatSpec)) webGreatUptoCard

/-- THE SECOND FORM's CARD OF 'vigillaw17.WebParams'. -/
def webParamsUptoCard : Claim7 := { stood := { row := webParamsUptoRow, standIns := [], harness := (true, "061ca409ec922191660927c4eddcb932fba81267cc009870def6b53ef27edf03"), looks := false }, kinds := [], alts := [], laidByText := true, laidKinds := [.data, .pinned, .pinned], laidTests := true, laidLooks := .later }
def WebParamsUptoCardSaid : Prop := Claim7.holds Tryd.pinned (.plain (OpenSpec.upto webParamsSpec)) webParamsUptoCard

/-- THE SECOND FORM's CARD OF 'vigillaw17.WebEscapes'. -/
def webEscapesUptoCard : Claim7 := { stood := { row := webEscapesUptoRow, standIns := [], harness := (true, "061ca409ec922191660927c4eddcb932fba81267cc009870def6b53ef27edf03"), looks := false }, kinds := [], alts := [], laidByText := true, laidKinds := [.data, .pinned, .pinned], laidTests := true, laidLooks := .later }
def WebEscapesUptoCardSaid : Prop := Claim7.holds Tryd.pinned (.plain (OpenSpec.upto webEscapesSpec)) webEscapesUptoCard

/-- THE SECOND FORM's CARD OF 'vigillaw17.WebAnswers'. -/
def webAnswersUptoCard : Claim7 := { stood := { row := webAnswersUptoRow, standIns := [], harness := (true, "061ca409ec922191660927c4eddcb932fba81267cc009870def6b53ef27edf03"), looks := false }, kinds := [], alts := [], laidByText := true, laidKinds := [.data, .pinned, .pinned], laidTests := true, laidLooks := .later }
def WebAnswersUptoCardSaid : Prop := Claim7.holds Tryd.pinned (.plain (OpenSpec.upto webAnswersSpec)) webAnswersUptoCard
end Rows
end Go.Proofs.YtlaingmhdgpkdaaDoor
