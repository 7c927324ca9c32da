/-
  DERIVED. GIVEN WITH THE SEED: THE CARDS: each row of YtbmkhnbjfeoggaaGreatDoorRows.lean that lists a variable, with what it lists TIED to the program's text (the seventh form; the later family's looks); each row that meets fmt, with fmt's text TOLD by the authors' own Lean function (tested against real Go, not proved from fmt's source: count such statements apart). THE CARD IS WHAT COUNTS. Prove the row's statement (the work); the ties are given (YtbmkhnbjfeoggaaGreatDoorTie.lean); close each card by the builder's one call (the guide's Derived/Test/ToyasCard.lean, 'card_holds'). Laid BY PROGRAM, IN A SANDBOX (cutbox-door.mjs). By AI agents, Wed Nov 11 2026. No macro, syntax, notation, axiom, sorry.
-/
import Derived.Test.YtbmkhnbjfeoggaaGreatDoorRows
import GoSem.ClaimSeven
namespace Go.Proofs.YtbmkhnbjfeoggaaGreatDoor
namespace Rows

/-- THE TIED CARD OF 'laws.FnExactCheckRun'. -/
def fnExactCheckRunCard : Claim7 := { stood := { row := fnExactCheckRunRow, standIns := [], harness := (true, "4157a1eb9ab5ac6c6d0b3f5aa66632133381f5776c4eba8c343df52612189cc0"), looks := true }, kinds := [], alts := [], laidByText := true, laidKinds := [.data, .data, .data], laidTests := true, laidLooks := .later }
def FnExactCheckRunCardSaid : Prop := Claim7.holds Tryz.pinned (.plain (OpenSpec.ofChange fnExactCheckRunSpec)) fnExactCheckRunCard

/-- THE TIED CARD OF 'laws.FnExactAllRunsSucceed'. -/
def fnExactAllRunsSucceedCard : Claim7 := { stood := { row := fnExactAllRunsSucceedRow, standIns := [], harness := (true, "4157a1eb9ab5ac6c6d0b3f5aa66632133381f5776c4eba8c343df52612189cc0"), looks := true }, kinds := [], alts := [], laidByText := true, laidKinds := [.data, .data, .data], laidTests := true, laidLooks := .later }
def FnExactAllRunsSucceedCardSaid : Prop := Claim7.holds Tryz.pinned (.plain (OpenSpec.ofChange fnExactAllRunsSucceedSpec)) fnExactAllRunsSucceedCard

/-- THE TIED CARD OF 'laws.FnExactFormatLog'. -/
def fnExactFormatLogCard : Claim7 := { stood := { row := fnExactFormatLogRow, standIns := [], harness := (true, "4157a1eb9ab5ac6c6d0b3f5aa66632133381f5776c4eba8c343df52612189cc0"), looks := true }, kinds := [], alts := [], laidByText := true, laidKinds := [.data, .data, .data], laidTests := true, laidLooks := .later }
def FnExactFormatLogCardSaid : Prop := Claim7.holds Tryz.pinned (.plain (OpenSpec.ofChange fnExactFormatLogSpec)) fnExactFormatLogCard

/-- THE TIED CARD OF 'laws.FnExactTakeOver'. -/
def fnExactTakeOverCard : Claim7 := { stood := { row := fnExactTakeOverRow, standIns := [], harness := (true, "4157a1eb9ab5ac6c6d0b3f5aa66632133381f5776c4eba8c343df52612189cc0"), looks := true }, kinds := [], alts := [], laidByText := true, laidKinds := [.data, .data, .data, .sentinel, .sentinel], laidTests := true, laidLooks := .later }
def FnExactTakeOverCardSaid : Prop := Claim7.holds Tryz.pinned (.plain (OpenSpec.ofChange fnExactTakeOverSpec)) fnExactTakeOverCard

/-- THE TIED CARD OF 'laws.FnExactWriteJournal'. -/
def fnExactWriteJournalCard : Claim7 := { stood := { row := fnExactWriteJournalRow, standIns := [], harness := (true, "4157a1eb9ab5ac6c6d0b3f5aa66632133381f5776c4eba8c343df52612189cc0"), looks := true }, kinds := [], alts := [], laidByText := true, laidKinds := [.data, .data, .data], laidTests := true, laidLooks := .later }
def FnExactWriteJournalCardSaid : Prop := Claim7.holds Tryz.pinned (.plain (OpenSpec.ofChange fnExactWriteJournalSpec)) fnExactWriteJournalCard

/-- THE TIED CARD OF 'laws.FnTakenOver'. -/
def fnTakenOverCard : Claim7 := { stood := { row := fnTakenOverRow, standIns := [], harness := (true, "4157a1eb9ab5ac6c6d0b3f5aa66632133381f5776c4eba8c343df52612189cc0"), looks := true }, kinds := [], alts := [], laidByText := true, laidKinds := [.data, .data, .data, .sentinel, .sentinel], laidTests := true, laidLooks := .later }
def FnTakenOverCardSaid : Prop := Claim7.holds Tryz.pinned (.plain (OpenSpec.ofChange fnTakenOverSpec)) fnTakenOverCard

/-- THE SECOND FORM's CARD OF 'laws.FnExactCheckRun'. -/
def fnExactCheckRunUptoCard : Claim7 := { stood := { row := fnExactCheckRunUptoRow, standIns := [], harness := (true, "4157a1eb9ab5ac6c6d0b3f5aa66632133381f5776c4eba8c343df52612189cc0"), looks := true }, kinds := [], alts := [], laidByText := true, laidKinds := [.data, .data, .data], laidTests := true, laidLooks := .later }
def FnExactCheckRunUptoCardSaid : Prop := Claim7.holds Tryz.pinned (.plain (OpenSpec.upto fnExactCheckRunSpec)) fnExactCheckRunUptoCard

/-- THE SECOND FORM's CARD OF 'laws.FnExactAllRunsSucceed'. -/
def fnExactAllRunsSucceedUptoCard : Claim7 := { stood := { row := fnExactAllRunsSucceedUptoRow, standIns := [], harness := (true, "4157a1eb9ab5ac6c6d0b3f5aa66632133381f5776c4eba8c343df52612189cc0"), looks := true }, kinds := [], alts := [], laidByText := true, laidKinds := [.data, .data, .data], laidTests := true, laidLooks := .later }
def FnExactAllRunsSucceedUptoCardSaid : Prop := Claim7.holds Tryz.pinned (.plain (OpenSpec.upto fnExactAllRunsSucceedSpec)) fnExactAllRunsSucceedUptoCard

/-- THE SECOND FORM's CARD OF 'laws.FnExactFormatLog'. -/
def fnExactFormatLogUptoCard : Claim7 := { stood := { row := fnExactFormatLogUptoRow, standIns := [], harness := (true, "4157a1eb9ab5ac6c6d0b3f5aa66632133381f5776c4eba8c343df52612189cc0"), looks := true }, kinds := [], alts := [], laidByText := true, laidKinds := [.data, .data, .data], laidTests := true, laidLooks := .later }
def FnExactFormatLogUptoCardSaid : Prop := Claim7.holds Tryz.pinned (.plain (OpenSpec.upto fnExactFormatLogSpec)) fnExactFormatLogUptoCard

/-- THE SECOND FORM's CARD OF 'laws.FnExactTakeOver'. -/
def fnExactTakeOverUptoCard : Claim7 := { stood := { row := fnExactTakeOverUptoRow, standIns := [], harness := (true, "4157a1eb9ab5ac6c6d0b3f5aa66632133381f5776c4eba8c343df52612189cc0"), looks := true }, kinds := [], alts := [], laidByText := true, laidKinds := [.data, .data, .data, .sentinel, .sentinel], laidTests := true, laidLooks := .later }
def FnExactTakeOverUptoCardSaid : Prop := Claim7.holds Tryz.pinned (.plain (OpenSpec.upto fnExactTakeOverSpec)) fnExactTakeOverUptoCard

/-- THE SECOND FORM's CARD OF 'laws.FnExactWriteJournal'. -/
def fnExactWriteJournalUptoCard : Claim7 := { stood := { row := fnExactWriteJournalUptoRow, standIns := [], harness := (true, "4157a1eb9ab5ac6c6d0b3f5aa66632133381f5776c4eba8c343df52612189cc0"), looks := true }, kinds := [], alts := [], laidByText := true, laidKinds := [.data, .data, .data], laidTests := true, laidLooks := .later }
def FnExactWriteJournalUptoCardSaid : Prop := Claim7.holds Tryz.pinned (.plain (OpenSpec.upto fnExactWriteJournalSpec)) fnExactWriteJournalUptoCard

/-- THE SECOND FORM's CARD OF 'laws.FnTakenOver'. -/
def fnTakenOverUptoCard : Claim7 := { stood := { row := fnTakenOverUptoRow, standIns := [], harness := (true, "4157a1eb9ab5ac6c6d0b3f5aa66632133381f5776c4eba8c343df52612189cc0"), looks := true }, kinds := [], alts := [], laidByText := true, laidKinds := [.data, .data, .data, .sentinel, .sentinel], laidTests := true, laidLooks := .later }
def FnTakenOverUptoCardSaid : Prop := Claim7.holds Tryz.pinned (.plain (OpenSpec.upto fnTakenOverSpec)) fnTakenOverUptoCard
end Rows
end Go.Proofs.YtbmkhnbjfeoggaaGreatDoor
