/-
  DERIVED. GIVEN WITH THE SEED: THE CARDS: each row of YtpkcmjnlnbddbaaGreatDoorRows.lean that lists a variable, with what it lists TIED to the program's text (the seventh form; the later family's looks); each row that meets fmt, with fmt's text TOLD by the authors' own Lean function (tested against real Go, not proved from fmt's source: count such statements apart). THE CARD IS WHAT COUNTS. Prove the row's statement (the work); the ties are given (YtpkcmjnlnbddbaaGreatDoorTie.lean); close each card by the builder's one call (the guide's Derived/Test/ToyasCard.lean, 'card_holds'). Laid BY PROGRAM, IN A SANDBOX (cutbox-door.mjs). By AI agents, Wed Nov 11 2026. No macro, syntax, notation, axiom, sorry.
-/
import Derived.Test.YtpkcmjnlnbddbaaGreatDoorRows
import GoSem.ClaimSeven
namespace Go.Proofs.YtpkcmjnlnbddbaaGreatDoor
namespace Rows

/-- THE TIED CARD OF 'laws.FnExactCheckRun'. -/
def fnExactCheckRunCard : Claim7 := { stood := { row := fnExactCheckRunRow, standIns := [], harness := (true, "047a14a177ec0127afa823805d461b6fea8578aecbfa1aa62ad2bf8e16485c39"), looks := true }, kinds := [], alts := [], laidByText := true, laidKinds := [.data, .data, .data], laidTests := true, laidLooks := .later }
def FnExactCheckRunCardSaid : Prop := Claim7.holds Tryz.pinned (.plain (OpenSpec.ofChange fnExactCheckRunSpec)) fnExactCheckRunCard

/-- THE TIED CARD OF 'laws.FnExactAllRunsSucceed'. -/
def fnExactAllRunsSucceedCard : Claim7 := { stood := { row := fnExactAllRunsSucceedRow, standIns := [], harness := (true, "047a14a177ec0127afa823805d461b6fea8578aecbfa1aa62ad2bf8e16485c39"), looks := true }, kinds := [], alts := [], laidByText := true, laidKinds := [.data, .data, .data], laidTests := true, laidLooks := .later }
def FnExactAllRunsSucceedCardSaid : Prop := Claim7.holds Tryz.pinned (.plain (OpenSpec.ofChange fnExactAllRunsSucceedSpec)) fnExactAllRunsSucceedCard

/-- THE TIED CARD OF 'laws.FnTakenOver'. -/
def fnTakenOverCard : Claim7 := { stood := { row := fnTakenOverRow, standIns := [], harness := (true, "047a14a177ec0127afa823805d461b6fea8578aecbfa1aa62ad2bf8e16485c39"), looks := true }, kinds := [], alts := [], laidByText := true, laidKinds := [.data, .data, .data, .sentinel, .sentinel], laidTests := true, laidLooks := .later }
def FnTakenOverCardSaid : Prop := Claim7.holds Tryz.pinned (.plain (OpenSpec.ofChange fnTakenOverSpec)) fnTakenOverCard

/-- THE TIED CARD OF 'laws.FnAccepted'. -/
def fnAcceptedCard : Claim7 := { stood := { row := fnAcceptedRow, standIns := [], harness := (true, "047a14a177ec0127afa823805d461b6fea8578aecbfa1aa62ad2bf8e16485c39"), looks := true }, kinds := [], alts := [], laidByText := true, laidKinds := [.data, .data, .data], laidTests := true, laidLooks := .later }
def FnAcceptedCardSaid : Prop := Claim7.holds Tryz.pinned (.plain (OpenSpec.ofChange fnAcceptedSpec)) fnAcceptedCard

/-- THE TIED CARD OF 'laws.FnRehearsed'. -/
def fnRehearsedCard : Claim7 := { stood := { row := fnRehearsedRow, standIns := [], harness := (true, "047a14a177ec0127afa823805d461b6fea8578aecbfa1aa62ad2bf8e16485c39"), looks := true }, kinds := [], alts := [], laidByText := true, laidKinds := [.data, .data, .data], laidTests := true, laidLooks := .later }
def FnRehearsedCardSaid : Prop := Claim7.holds Tryz.pinned (.plain (OpenSpec.ofChange fnRehearsedSpec)) fnRehearsedCard

/-- THE TIED CARD OF 'laws.FnDevices'. -/
def fnDevicesCard : Claim7 := { stood := { row := fnDevicesRow, standIns := [], harness := (true, "047a14a177ec0127afa823805d461b6fea8578aecbfa1aa62ad2bf8e16485c39"), looks := true }, kinds := [], alts := [], laidByText := true, laidKinds := [.data, .data, .data], laidTests := true, laidLooks := .later }
def FnDevicesCardSaid : Prop := Claim7.holds Tryz.pinned (.plain (OpenSpec.ofChange fnDevicesSpec)) fnDevicesCard

/-- THE SECOND FORM's CARD OF 'laws.FnExactCheckRun'. -/
def fnExactCheckRunUptoCard : Claim7 := { stood := { row := fnExactCheckRunUptoRow, standIns := [], harness := (true, "047a14a177ec0127afa823805d461b6fea8578aecbfa1aa62ad2bf8e16485c39"), looks := true }, kinds := [], alts := [], laidByText := true, laidKinds := [.data, .data, .data], laidTests := true, laidLooks := .later }
def FnExactCheckRunUptoCardSaid : Prop := Claim7.holds Tryz.pinned (.plain (OpenSpec.upto fnExactCheckRunSpec)) fnExactCheckRunUptoCard

/-- THE SECOND FORM's CARD OF 'laws.FnExactAllRunsSucceed'. -/
def fnExactAllRunsSucceedUptoCard : Claim7 := { stood := { row := fnExactAllRunsSucceedUptoRow, standIns := [], harness := (true, "047a14a177ec0127afa823805d461b6fea8578aecbfa1aa62ad2bf8e16485c39"), looks := true }, kinds := [], alts := [], laidByText := true, laidKinds := [.data, .data, .data], laidTests := true, laidLooks := .later }
def FnExactAllRunsSucceedUptoCardSaid : Prop := Claim7.holds Tryz.pinned (.plain (OpenSpec.upto fnExactAllRunsSucceedSpec)) fnExactAllRunsSucceedUptoCard

/-- THE SECOND FORM's CARD OF 'laws.FnTakenOver'. -/
def fnTakenOverUptoCard : Claim7 := { stood := { row := fnTakenOverUptoRow, standIns := [], harness := (true, "047a14a177ec0127afa823805d461b6fea8578aecbfa1aa62ad2bf8e16485c39"), looks := true }, kinds := [], alts := [], laidByText := true, laidKinds := [.data, .data, .data, .sentinel, .sentinel], laidTests := true, laidLooks := .later }
def FnTakenOverUptoCardSaid : Prop := Claim7.holds Tryz.pinned (.plain (OpenSpec.upto fnTakenOverSpec)) fnTakenOverUptoCard

/-- THE SECOND FORM's CARD OF 'laws.FnAccepted'. -/
def fnAcceptedUptoCard : Claim7 := { stood := { row := fnAcceptedUptoRow, standIns := [], harness := (true, "047a14a177ec0127afa823805d461b6fea8578aecbfa1aa62ad2bf8e16485c39"), looks := true }, kinds := [], alts := [], laidByText := true, laidKinds := [.data, .data, .data], laidTests := true, laidLooks := .later }
def FnAcceptedUptoCardSaid : Prop := Claim7.holds Tryz.pinned (.plain (OpenSpec.upto fnAcceptedSpec)) fnAcceptedUptoCard

/-- THE SECOND FORM's CARD OF 'laws.FnRehearsed'. -/
def fnRehearsedUptoCard : Claim7 := { stood := { row := fnRehearsedUptoRow, standIns := [], harness := (true, "047a14a177ec0127afa823805d461b6fea8578aecbfa1aa62ad2bf8e16485c39"), looks := true }, kinds := [], alts := [], laidByText := true, laidKinds := [.data, .data, .data], laidTests := true, laidLooks := .later }
def FnRehearsedUptoCardSaid : Prop := Claim7.holds Tryz.pinned (.plain (OpenSpec.upto fnRehearsedSpec)) fnRehearsedUptoCard

/-- THE SECOND FORM's CARD OF 'laws.FnDevices'. -/
def fnDevicesUptoCard : Claim7 := { stood := { row := fnDevicesUptoRow, standIns := [], harness := (true, "047a14a177ec0127afa823805d461b6fea8578aecbfa1aa62ad2bf8e16485c39"), looks := true }, kinds := [], alts := [], laidByText := true, laidKinds := [.data, .data, .data], laidTests := true, laidLooks := .later }
def FnDevicesUptoCardSaid : Prop := Claim7.holds Tryz.pinned (.plain (OpenSpec.upto fnDevicesSpec)) fnDevicesUptoCard
end Rows
end Go.Proofs.YtpkcmjnlnbddbaaGreatDoor
