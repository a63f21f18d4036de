/-
  DERIVED. GIVEN WITH THE SEED: THE CARDS: each row of YtmkckngecjpklaaGreatDoorRows.lean that lists a variable, with what it lists TIED to the program's text (the seventh form; the later family's looks); each row that meets fmt, with fmt's text TOLD by the authors' own Lean function (tested against real Go, not proved from fmt's source: count such statements apart). THE CARD IS WHAT COUNTS. Prove the row's statement (the work); the ties are given (YtmkckngecjpklaaGreatDoorTie.lean); close each card by the builder's one call (the guide's Derived/Test/ToyasCard.lean, 'card_holds'). Laid BY PROGRAM, IN A SANDBOX (cutbox-door.mjs). By AI agents, Wed Nov 11 2026. No macro, syntax, notation, axiom, sorry.
-/
import Derived.Test.YtmkckngecjpklaaGreatDoorRows
import GoSem.ClaimSeven
namespace Go.Proofs.YtmkckngecjpklaaGreatDoor
namespace Rows

/-- THE TIED CARD OF 'vigillaw12.ScrapeOnce'. -/
def scrapeOnceCard : Claim7 := { stood := { row := scrapeOnceRow, standIns := [], harness := (true, "9ea137dc6da8560fd315484340ccc46fddcadd7e226b9d4951c152106756c727"), looks := true }, kinds := [], alts := [], laidByText := true, laidKinds := [.data, .pinned], laidTests := true, laidLooks := .later }
def ScrapeOnceCardSaid : Prop := Claim7.holds Tryz.pinned (.plain (OpenSpec.ofChange scrapeOnceSpec)) scrapeOnceCard

/-- THE TIED CARD OF 'vigillaw12.ScrapeBatch'. -/
def scrapeBatchCard : Claim7 := { stood := { row := scrapeBatchRow, standIns := [], harness := (true, "9ea137dc6da8560fd315484340ccc46fddcadd7e226b9d4951c152106756c727"), looks := true }, kinds := [], alts := [], laidByText := true, laidKinds := [.data, .pinned], laidTests := true, laidLooks := .later }
def ScrapeBatchCardSaid : Prop := Claim7.holds Tryz.pinned (.plain (OpenSpec.ofChange scrapeBatchSpec)) scrapeBatchCard

/-- THE TIED CARD OF 'vigillaw12.ScrapeRelabel'. -/
def scrapeRelabelCard : Claim7 := { stood := { row := scrapeRelabelRow, standIns := [], harness := (true, "9ea137dc6da8560fd315484340ccc46fddcadd7e226b9d4951c152106756c727"), looks := true }, kinds := [], alts := [], laidByText := true, laidKinds := [.data, .pinned], laidTests := true, laidLooks := .later }
def ScrapeRelabelCardSaid : Prop := Claim7.holds Tryz.pinned (.plain (OpenSpec.ofChange scrapeRelabelSpec)) scrapeRelabelCard

/-- THE TIED CARD OF 'vigillaw12.ScrapeHashes'. -/
def scrapeHashesCard : Claim7 := { stood := { row := scrapeHashesRow, standIns := [], harness := (true, "9ea137dc6da8560fd315484340ccc46fddcadd7e226b9d4951c152106756c727"), looks := true }, kinds := [], alts := [], laidByText := true, laidKinds := [.data, .pinned], laidTests := true, laidLooks := .later }
def ScrapeHashesCardSaid : Prop := Claim7.holds Tryz.pinned (.plain (OpenSpec.ofChange scrapeHashesSpec)) scrapeHashesCard

/-- THE TIED CARD OF 'vigillaw12.ScrapeHonor'. -/
def scrapeHonorCard : Claim7 := { stood := { row := scrapeHonorRow, standIns := [], harness := (true, "9ea137dc6da8560fd315484340ccc46fddcadd7e226b9d4951c152106756c727"), looks := true }, kinds := [], alts := [], laidByText := true, laidKinds := [.data, .pinned], laidTests := true, laidLooks := .later }
def ScrapeHonorCardSaid : Prop := Claim7.holds Tryz.pinned (.plain (OpenSpec.ofChange scrapeHonorSpec)) scrapeHonorCard

/-- THE TIED CARD OF 'vigillaw12.ScrapeSeries'. -/
def scrapeSeriesCard : Claim7 := { stood := { row := scrapeSeriesRow, standIns := [], harness := (true, "9ea137dc6da8560fd315484340ccc46fddcadd7e226b9d4951c152106756c727"), looks := true }, kinds := [], alts := [], laidByText := true, laidKinds := [.data, .pinned], laidTests := true, laidLooks := .later }
def ScrapeSeriesCardSaid : Prop := Claim7.holds Tryz.pinned (.plain (OpenSpec.ofChange scrapeSeriesSpec)) scrapeSeriesCard

/-- THE TIED CARD OF 'vigillaw12.ScrapeTargets'. -/
def scrapeTargetsCard : Claim7 := { stood := { row := scrapeTargetsRow, standIns := [], harness := (true, "9ea137dc6da8560fd315484340ccc46fddcadd7e226b9d4951c152106756c727"), looks := true }, kinds := [], alts := [], laidByText := true, laidKinds := [.data, .pinned], laidTests := true, laidLooks := .later }
def ScrapeTargetsCardSaid : Prop := Claim7.holds Tryz.pinned (.plain (OpenSpec.ofChange scrapeTargetsSpec)) scrapeTargetsCard

/-- THE SECOND FORM's CARD OF 'vigillaw12.ScrapeOnce'. -/
def scrapeOnceUptoCard : Claim7 := { stood := { row := scrapeOnceUptoRow, standIns := [], harness := (true, "9ea137dc6da8560fd315484340ccc46fddcadd7e226b9d4951c152106756c727"), looks := true }, kinds := [], alts := [], laidByText := true, laidKinds := [.data, .pinned], laidTests := true, laidLooks := .later }
def ScrapeOnceUptoCardSaid : Prop := Claim7.holds Tryz.pinned (.plain (OpenSpec.upto scrapeOnceSpec)) scrapeOnceUptoCard

/-- THE SECOND FORM's CARD OF 'vigillaw12.ScrapeBatch'. -/
def scrapeBatchUptoCard : Claim7 := { stood := { row := scrapeBatchUptoRow, standIns := [], harness := (true, "9ea137dc6da8560fd315484340ccc46fddcadd7e226b9d4951c152106756c727"), looks := true }, kinds := [], alts := [], laidByText := true, laidKinds := [.data, .pinned], laidTests := true, laidLooks := .later }
def ScrapeBatchUptoCardSaid : Prop := Claim7.holds Tryz.pinned (.plain (OpenSpec.upto scrapeBatchSpec)) scrapeBatchUptoCard

/-- THE SECOND FORM's CARD OF 'vigillaw12.ScrapeRelabel'. -/
def scrapeRelabelUptoCard : Claim7 := { stood := { row := scrapeRelabelUptoRow, standIns := [], harness := (true, "9ea137dc6da8560fd315484340ccc46fddcadd7e226b9d4951c152106756c727"), looks := true }, kinds := [], alts := [], laidByText := true, laidKinds := [.data, .pinned], laidTests := true, laidLooks := .later }
def ScrapeRelabelUptoCardSaid : Prop := Claim7.holds Tryz.pinned (.plain (OpenSpec.upto scrapeRelabelSpec)) scrapeRelabelUptoCard

/-- THE SECOND FORM's CARD OF 'vigillaw12.ScrapeHashes'. -/
def scrapeHashesUptoCard : Claim7 := { stood := { row := scrapeHashesUptoRow, standIns := [], harness := (true, "9ea137dc6da8560fd315484340ccc46fddcadd7e226b9d4951c152106756c727"), looks := true }, kinds := [], alts := [], laidByText := true, laidKinds := [.data, .pinned], laidTests := true, laidLooks := .later }
def ScrapeHashesUptoCardSaid : Prop := Claim7.holds Tryz.pinned (.plain (OpenSpec.upto scrapeHashesSpec)) scrapeHashesUptoCard

/-- THE SECOND FORM's CARD OF 'vigillaw12.ScrapeHonor'. -/
def scrapeHonorUptoCard : Claim7 := { stood := { row := scrapeHonorUptoRow, standIns := [], harness := (true, "9ea137dc6da8560fd315484340ccc46fddcadd7e226b9d4951c152106756c727"), looks := true }, kinds := [], alts := [], laidByText := true, laidKinds := [.data, .pinned], laidTests := true, laidLooks := .later }
def ScrapeHonorUptoCardSaid : Prop := Claim7.holds Tryz.pinned (.plain (OpenSpec.upto scrapeHonorSpec)) scrapeHonorUptoCard

/-- THE SECOND FORM's CARD OF 'vigillaw12.ScrapeSeries'. -/
def scrapeSeriesUptoCard : Claim7 := { stood := { row := scrapeSeriesUptoRow, standIns := [], harness := (true, "9ea137dc6da8560fd315484340ccc46fddcadd7e226b9d4951c152106756c727"), looks := true }, kinds := [], alts := [], laidByText := true, laidKinds := [.data, .pinned], laidTests := true, laidLooks := .later }
def ScrapeSeriesUptoCardSaid : Prop := Claim7.holds Tryz.pinned (.plain (OpenSpec.upto scrapeSeriesSpec)) scrapeSeriesUptoCard

/-- THE SECOND FORM's CARD OF 'vigillaw12.ScrapeTargets'. -/
def scrapeTargetsUptoCard : Claim7 := { stood := { row := scrapeTargetsUptoRow, standIns := [], harness := (true, "9ea137dc6da8560fd315484340ccc46fddcadd7e226b9d4951c152106756c727"), looks := true }, kinds := [], alts := [], laidByText := true, laidKinds := [.data, .pinned], laidTests := true, laidLooks := .later }
def ScrapeTargetsUptoCardSaid : Prop := Claim7.holds Tryz.pinned (.plain (OpenSpec.upto scrapeTargetsSpec)) scrapeTargetsUptoCard
end Rows
end Go.Proofs.YtmkckngecjpklaaGreatDoor
