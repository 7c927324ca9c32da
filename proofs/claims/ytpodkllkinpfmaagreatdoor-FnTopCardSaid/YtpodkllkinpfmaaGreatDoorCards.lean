/-
  DERIVED. GIVEN WITH THE SEED: THE CARDS: each row of YtpodkllkinpfmaaGreatDoorRows.lean that lists a variable, with what it lists TIED to the program's text (the seventh form; the later family's looks); each row that meets fmt, with fmt's text TOLD by the authors' own Lean function (tested against real Go, not proved from fmt's source: count such statements apart). THE CARD IS WHAT COUNTS. Prove the row's statement (the work); the ties are given (YtpodkllkinpfmaaGreatDoorTie.lean); close each card by the builder's one call (the guide's Derived/Test/ToyasCard.lean, 'card_holds'). Laid BY PROGRAM, IN A SANDBOX (cutbox-door.mjs). By AI agents, Wed Nov 11 2026. No macro, syntax, notation, axiom, sorry.
-/
import Derived.Test.YtpodkllkinpfmaaGreatDoorRows
import GoSem.ClaimSeven
namespace Go.Proofs.YtpodkllkinpfmaaGreatDoor
namespace Rows

/-- THE TIED CARD OF 'laws.FnExactWindowLines'. -/
def fnExactWindowLinesCard : Claim7 := { stood := { row := fnExactWindowLinesRow, standIns := [], harness := (true, "180d2102eb6f3e9eb418f94c292e423f9d67faf4aa5b54332852c7d6086ddbb5"), looks := false }, kinds := [], alts := [], laidByText := true, laidKinds := [.data, .data, .data], laidTests := true, laidLooks := .later }
def FnExactWindowLinesCardSaid : Prop := Claim7.holds Tryz.pinned (.plain (OpenSpec.ofChange fnExactWindowLinesSpec)) fnExactWindowLinesCard

/-- THE TIED CARD OF 'laws.FnStrong'. -/
def fnStrongCard : Claim7 := { stood := { row := fnStrongRow, standIns := [], harness := (true, "180d2102eb6f3e9eb418f94c292e423f9d67faf4aa5b54332852c7d6086ddbb5"), looks := false }, kinds := [], alts := [], laidByText := true, laidKinds := [.data, .data, .data], laidTests := true, laidLooks := .later }
def FnStrongCardSaid : Prop := Claim7.holds Tryz.pinned (.plain (OpenSpec.ofChange fnStrongSpec)) fnStrongCard

/-- THE TIED CARD OF 'laws.FnReports'. -/
def fnReportsCard : Claim7 := { stood := { row := fnReportsRow, standIns := [], harness := (true, "180d2102eb6f3e9eb418f94c292e423f9d67faf4aa5b54332852c7d6086ddbb5"), looks := false }, kinds := [], alts := [], laidByText := true, laidKinds := [.data, .data, .data], laidTests := true, laidLooks := .later }
def FnReportsCardSaid : Prop := Claim7.holds Tryz.pinned (.plain (OpenSpec.ofChange fnReportsSpec)) fnReportsCard

/-- THE TIED CARD OF 'laws.FnTop'. -/
def fnTopCard : Claim7 := { stood := { row := fnTopRow, standIns := [], harness := (true, "180d2102eb6f3e9eb418f94c292e423f9d67faf4aa5b54332852c7d6086ddbb5"), looks := false }, kinds := [], alts := [], laidByText := true, laidKinds := [.data, .data, .data], laidTests := true, laidLooks := .later }
def FnTopCardSaid : Prop := Claim7.holds Tryz.pinned (.plain (OpenSpec.ofChange fnTopSpec)) fnTopCard

/-- THE TIED CARD OF 'laws.FnExactSummaryOf'. -/
def fnExactSummaryOfCard : Claim7 := { stood := { row := fnExactSummaryOfRow, standIns := [], harness := (true, "180d2102eb6f3e9eb418f94c292e423f9d67faf4aa5b54332852c7d6086ddbb5"), looks := false }, kinds := [], alts := [], laidByText := true, laidKinds := [.data, .data, .data], laidTests := true, laidLooks := .later }
def FnExactSummaryOfCardSaid : Prop := Claim7.holds Tryz.pinned (.plain (OpenSpec.ofChange fnExactSummaryOfSpec)) fnExactSummaryOfCard

/-- THE TIED CARD OF 'laws.FnExactClassOfSheet'. -/
def fnExactClassOfSheetCard : Claim7 := { stood := { row := fnExactClassOfSheetRow, standIns := [], harness := (true, "180d2102eb6f3e9eb418f94c292e423f9d67faf4aa5b54332852c7d6086ddbb5"), looks := false }, kinds := [], alts := [], laidByText := true, laidKinds := [.data, .data, .data], laidTests := true, laidLooks := .later }
def FnExactClassOfSheetCardSaid : Prop := Claim7.holds Tryz.pinned (.plain (OpenSpec.ofChange fnExactClassOfSheetSpec)) fnExactClassOfSheetCard

/-- THE SECOND FORM's CARD OF 'laws.FnExactWindowLines'. -/
def fnExactWindowLinesUptoCard : Claim7 := { stood := { row := fnExactWindowLinesUptoRow, standIns := [], harness := (true, "180d2102eb6f3e9eb418f94c292e423f9d67faf4aa5b54332852c7d6086ddbb5"), looks := false }, kinds := [], alts := [], laidByText := true, laidKinds := [.data, .data, .data], laidTests := true, laidLooks := .later }
def FnExactWindowLinesUptoCardSaid : Prop := Claim7.holds Tryz.pinned (.plain (OpenSpec.upto fnExactWindowLinesSpec)) fnExactWindowLinesUptoCard

/-- THE SECOND FORM's CARD OF 'laws.FnStrong'. -/
def fnStrongUptoCard : Claim7 := { stood := { row := fnStrongUptoRow, standIns := [], harness := (true, "180d2102eb6f3e9eb418f94c292e423f9d67faf4aa5b54332852c7d6086ddbb5"), looks := false }, kinds := [], alts := [], laidByText := true, laidKinds := [.data, .data, .data], laidTests := true, laidLooks := .later }
def FnStrongUptoCardSaid : Prop := Claim7.holds Tryz.pinned (.plain (OpenSpec.upto fnStrongSpec)) fnStrongUptoCard

/-- THE SECOND FORM's CARD OF 'laws.FnReports'. -/
def fnReportsUptoCard : Claim7 := { stood := { row := fnReportsUptoRow, standIns := [], harness := (true, "180d2102eb6f3e9eb418f94c292e423f9d67faf4aa5b54332852c7d6086ddbb5"), looks := false }, kinds := [], alts := [], laidByText := true, laidKinds := [.data, .data, .data], laidTests := true, laidLooks := .later }
def FnReportsUptoCardSaid : Prop := Claim7.holds Tryz.pinned (.plain (OpenSpec.upto fnReportsSpec)) fnReportsUptoCard

/-- THE SECOND FORM's CARD OF 'laws.FnTop'. -/
def fnTopUptoCard : Claim7 := { stood := { row := fnTopUptoRow, standIns := [], harness := (true, "180d2102eb6f3e9eb418f94c292e423f9d67faf4aa5b54332852c7d6086ddbb5"), looks := false }, kinds := [], alts := [], laidByText := true, laidKinds := [.data, .data, .data], laidTests := true, laidLooks := .later }
def FnTopUptoCardSaid : Prop := Claim7.holds Tryz.pinned (.plain (OpenSpec.upto fnTopSpec)) fnTopUptoCard

/-- THE SECOND FORM's CARD OF 'laws.FnExactSummaryOf'. -/
def fnExactSummaryOfUptoCard : Claim7 := { stood := { row := fnExactSummaryOfUptoRow, standIns := [], harness := (true, "180d2102eb6f3e9eb418f94c292e423f9d67faf4aa5b54332852c7d6086ddbb5"), looks := false }, kinds := [], alts := [], laidByText := true, laidKinds := [.data, .data, .data], laidTests := true, laidLooks := .later }
def FnExactSummaryOfUptoCardSaid : Prop := Claim7.holds Tryz.pinned (.plain (OpenSpec.upto fnExactSummaryOfSpec)) fnExactSummaryOfUptoCard

/-- THE SECOND FORM's CARD OF 'laws.FnExactClassOfSheet'. -/
def fnExactClassOfSheetUptoCard : Claim7 := { stood := { row := fnExactClassOfSheetUptoRow, standIns := [], harness := (true, "180d2102eb6f3e9eb418f94c292e423f9d67faf4aa5b54332852c7d6086ddbb5"), looks := false }, kinds := [], alts := [], laidByText := true, laidKinds := [.data, .data, .data], laidTests := true, laidLooks := .later }
def FnExactClassOfSheetUptoCardSaid : Prop := Claim7.holds Tryz.pinned (.plain (OpenSpec.upto fnExactClassOfSheetSpec)) fnExactClassOfSheetUptoCard
end Rows
end Go.Proofs.YtpodkllkinpfmaaGreatDoor
