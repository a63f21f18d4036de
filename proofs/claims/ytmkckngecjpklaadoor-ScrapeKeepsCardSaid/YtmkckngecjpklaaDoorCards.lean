/-
  DERIVED. GIVEN WITH THE SEED: THE CARDS: each row of YtmkckngecjpklaaDoorRows.lean that lists a variable, with what it lists TIED to the program's text (the seventh form; the later family's looks); each row that meets fmt, with fmt's text TOLD by the authors' own Lean function (tested against real Go, not proved from fmt's source: count such statements apart). THE CARD IS WHAT COUNTS. Prove the row's statement (the work); the ties are given (YtmkckngecjpklaaDoorTie.lean); close each card by the builder's one call (the guide's Derived/Test/ToyasCard.lean, 'card_holds'). Laid BY PROGRAM, IN A SANDBOX (cutbox-door.mjs). By AI agents, Wed Nov 11 2026. No macro, syntax, notation, axiom, sorry.
-/
import Derived.Test.YtmkckngecjpklaaDoorRows
import GoSem.ClaimSeven
namespace Go.Proofs.YtmkckngecjpklaaDoor
namespace Rows

/-- THE TIED CARD OF 'vigillaw12.ScrapeDue'. -/
def scrapeDueCard : Claim7 := { stood := { row := scrapeDueRow, standIns := [], harness := (true, "6d15290888e7089e7dd37553d3729e20326c3ed523776c377abd04f6d6f9bf21"), looks := true }, kinds := [], alts := [], laidByText := true, laidKinds := [.data, .pinned], laidTests := true, laidLooks := .later }
def ScrapeDueCardSaid : Prop := Claim7.holds Tryd.pinned (.plain (OpenSpec.ofChange scrapeDueSpec)) scrapeDueCard

/-- THE TIED CARD OF 'vigillaw12.ScrapeKeeps'. -/
def scrapeKeepsCard : Claim7 := { stood := { row := scrapeKeepsRow, standIns := [], harness := (true, "6d15290888e7089e7dd37553d3729e20326c3ed523776c377abd04f6d6f9bf21"), looks := true }, kinds := [], alts := [], laidByText := true, laidKinds := [.data, .pinned], laidTests := true, laidLooks := .later }
def ScrapeKeepsCardSaid : Prop := Claim7.holds Tryd.pinned (.plain (OpenSpec.ofChange scrapeKeepsSpec)) scrapeKeepsCard

/-- THE TIED CARD OF 'vigillaw12.ScrapeStale'. -/
def scrapeStaleCard : Claim7 := { stood := { row := scrapeStaleRow, standIns := [], harness := (true, "6d15290888e7089e7dd37553d3729e20326c3ed523776c377abd04f6d6f9bf21"), looks := true }, kinds := [], alts := [], laidByText := true, laidKinds := [.data, .pinned], laidTests := true, laidLooks := .later }
def ScrapeStaleCardSaid : Prop := Claim7.holds Tryd.pinned (.plain (OpenSpec.ofChange scrapeStaleSpec)) scrapeStaleCard

/-- THE TIED CARD OF 'vigillaw12.ScrapeSteps'. -/
def scrapeStepsCard : Claim7 := { stood := { row := scrapeStepsRow, standIns := [], harness := (true, "6d15290888e7089e7dd37553d3729e20326c3ed523776c377abd04f6d6f9bf21"), looks := true }, kinds := [], alts := [], laidByText := true, laidKinds := [.data, .pinned], laidTests := true, laidLooks := .later }
def ScrapeStepsCardSaid : Prop := Claim7.holds Tryd.pinned (.plain (OpenSpec.ofChange scrapeStepsSpec)) scrapeStepsCard

/-- THE SECOND FORM's CARD OF 'vigillaw12.ScrapeDue'. -/
def scrapeDueUptoCard : Claim7 := { stood := { row := scrapeDueUptoRow, standIns := [], harness := (true, "6d15290888e7089e7dd37553d3729e20326c3ed523776c377abd04f6d6f9bf21"), looks := true }, kinds := [], alts := [], laidByText := true, laidKinds := [.data, .pinned], laidTests := true, laidLooks := .later }
def ScrapeDueUptoCardSaid : Prop := Claim7.holds Tryd.pinned (.plain (OpenSpec.upto scrapeDueSpec)) scrapeDueUptoCard

/-- THE SECOND FORM's CARD OF 'vigillaw12.ScrapeKeeps'. -/
def scrapeKeepsUptoCard : Claim7 := { stood := { row := scrapeKeepsUptoRow, standIns := [], harness := (true, "6d15290888e7089e7dd37553d3729e20326c3ed523776c377abd04f6d6f9bf21"), looks := true }, kinds := [], alts := [], laidByText := true, laidKinds := [.data, .pinned], laidTests := true, laidLooks := .later }
def ScrapeKeepsUptoCardSaid : Prop := Claim7.holds Tryd.pinned (.plain (OpenSpec.upto scrapeKeepsSpec)) scrapeKeepsUptoCard

/-- THE SECOND FORM's CARD OF 'vigillaw12.ScrapeStale'. -/
def scrapeStaleUptoCard : Claim7 := { stood := { row := scrapeStaleUptoRow, standIns := [], harness := (true, "6d15290888e7089e7dd37553d3729e20326c3ed523776c377abd04f6d6f9bf21"), looks := true }, kinds := [], alts := [], laidByText := true, laidKinds := [.data, .pinned], laidTests := true, laidLooks := .later }
def ScrapeStaleUptoCardSaid : Prop := Claim7.holds Tryd.pinned (.plain (OpenSpec.upto scrapeStaleSpec)) scrapeStaleUptoCard

/-- THE SECOND FORM's CARD OF 'vigillaw12.ScrapeSteps'. -/
def scrapeStepsUptoCard : Claim7 := { stood := { row := scrapeStepsUptoRow, standIns := [], harness := (true, "6d15290888e7089e7dd37553d3729e20326c3ed523776c377abd04f6d6f9bf21"), looks := true }, kinds := [], alts := [], laidByText := true, laidKinds := [.data, .pinned], laidTests := true, laidLooks := .later }
def ScrapeStepsUptoCardSaid : Prop := Claim7.holds Tryd.pinned (.plain (OpenSpec.upto scrapeStepsSpec)) scrapeStepsUptoCard
end Rows
end Go.Proofs.YtmkckngecjpklaaDoor
