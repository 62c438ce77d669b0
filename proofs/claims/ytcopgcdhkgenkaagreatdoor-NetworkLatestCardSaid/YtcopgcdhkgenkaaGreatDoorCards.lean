/-
  DERIVED. GIVEN WITH THE SEED: THE CARDS: each row of YtcopgcdhkgenkaaGreatDoorRows.lean that lists a variable, with what it lists TIED to the program's text (the seventh form; the later family's looks); each row that meets fmt, with fmt's text TOLD by the authors' own Lean function (tested against real Go, not proved from fmt's source: count such statements apart). THE CARD IS WHAT COUNTS. Prove the row's statement (the work); the ties are given (YtcopgcdhkgenkaaGreatDoorTie.lean); close each card by the builder's one call (the guide's Derived/Test/ToyasCard.lean, 'card_holds'). Laid BY PROGRAM, IN A SANDBOX (cutbox-door.mjs). By AI agents, Wed Nov 11 2026. No macro, syntax, notation, axiom, sorry.
-/
import Derived.Test.YtcopgcdhkgenkaaGreatDoorRows
import GoSem.ClaimSeven
namespace Go.Proofs.YtcopgcdhkgenkaaGreatDoor
namespace Rows

/-- THE TIED CARD OF 'copydesklaw27.NetworkDelay'. -/
def networkDelayCard : Claim7 := { stood := { row := networkDelayRow, standIns := [], harness := (true, "4f9b2a5e01fe620100502aad89a6c374947310d4e56a0e79ec735a6c60a7907e"), looks := true }, kinds := [], alts := [], laidByText := true, laidKinds := [.data, .pinned, .data, .handle, .sentinel, .sentinel, .data, .data, .data, .sentinel, .sentinel], laidTests := true, laidLooks := .later }
def NetworkDelayCardSaid : Prop := Claim7.holds Tryz.pinned (.plain (OpenSpec.ofChange networkDelaySpec)) networkDelayCard

/-- THE TIED CARD OF 'copydesklaw27.NetworkHeld'. -/
def networkHeldCard : Claim7 := { stood := { row := networkHeldRow, standIns := [], harness := (true, "4f9b2a5e01fe620100502aad89a6c374947310d4e56a0e79ec735a6c60a7907e"), looks := true }, kinds := [], alts := [], laidByText := true, laidKinds := [.data, .pinned, .data, .handle, .sentinel, .sentinel, .data, .data, .data, .sentinel, .sentinel], laidTests := true, laidLooks := .later }
def NetworkHeldCardSaid : Prop := Claim7.holds Tryz.pinned (.plain (OpenSpec.ofChange networkHeldSpec)) networkHeldCard

/-- THE TIED CARD OF 'copydesklaw27.NetworkLatest'. -/
def networkLatestCard : Claim7 := { stood := { row := networkLatestRow, standIns := [], harness := (true, "4f9b2a5e01fe620100502aad89a6c374947310d4e56a0e79ec735a6c60a7907e"), looks := true }, kinds := [], alts := [], laidByText := true, laidKinds := [.data, .pinned, .data, .handle, .sentinel, .sentinel, .data, .data, .data, .sentinel, .sentinel], laidTests := true, laidLooks := .later }
def NetworkLatestCardSaid : Prop := Claim7.holds Tryz.pinned (.plain (OpenSpec.ofChange networkLatestSpec)) networkLatestCard

/-- THE TIED CARD OF 'copydesklaw27.NetworkAnswers'. -/
def networkAnswersCard : Claim7 := { stood := { row := networkAnswersRow, standIns := [], harness := (true, "4f9b2a5e01fe620100502aad89a6c374947310d4e56a0e79ec735a6c60a7907e"), looks := true }, kinds := [], alts := [], laidByText := true, laidKinds := [.data, .pinned, .data, .handle, .sentinel, .sentinel, .data, .data, .data, .sentinel, .sentinel], laidTests := true, laidLooks := .later }
def NetworkAnswersCardSaid : Prop := Claim7.holds Tryz.pinned (.plain (OpenSpec.ofChange networkAnswersSpec)) networkAnswersCard

/-- THE TIED CARD OF 'copydesklaw27.NetworkClock'. -/
def networkClockCard : Claim7 := { stood := { row := networkClockRow, standIns := [], harness := (true, "4f9b2a5e01fe620100502aad89a6c374947310d4e56a0e79ec735a6c60a7907e"), looks := true }, kinds := [], alts := [], laidByText := true, laidKinds := [.data, .pinned, .data, .handle, .sentinel, .sentinel, .data, .data, .data, .sentinel, .sentinel], laidTests := true, laidLooks := .later }
def NetworkClockCardSaid : Prop := Claim7.holds Tryz.pinned (.plain (OpenSpec.ofChange networkClockSpec)) networkClockCard

/-- THE TIED CARD OF 'copydesklaw27.NetworkRefuses'. -/
def networkRefusesCard : Claim7 := { stood := { row := networkRefusesRow, standIns := [], harness := (true, "4f9b2a5e01fe620100502aad89a6c374947310d4e56a0e79ec735a6c60a7907e"), looks := true }, kinds := [], alts := [], laidByText := true, laidKinds := [.data, .pinned, .data, .handle, .sentinel, .sentinel, .data, .data, .data, .sentinel, .sentinel], laidTests := true, laidLooks := .later }
def NetworkRefusesCardSaid : Prop := Claim7.holds Tryz.pinned (.plain (OpenSpec.ofChange networkRefusesSpec)) networkRefusesCard

/-- THE SECOND FORM's CARD OF 'copydesklaw27.NetworkDelay'. -/
def networkDelayUptoCard : Claim7 := { stood := { row := networkDelayUptoRow, standIns := [], harness := (true, "4f9b2a5e01fe620100502aad89a6c374947310d4e56a0e79ec735a6c60a7907e"), looks := true }, kinds := [], alts := [], laidByText := true, laidKinds := [.data, .pinned, .data, .handle, .sentinel, .sentinel, .data, .data, .data, .sentinel, .sentinel], laidTests := true, laidLooks := .later }
def NetworkDelayUptoCardSaid : Prop := Claim7.holds Tryz.pinned (.plain (OpenSpec.upto networkDelaySpec)) networkDelayUptoCard

/-- THE SECOND FORM's CARD OF 'copydesklaw27.NetworkHeld'. -/
def networkHeldUptoCard : Claim7 := { stood := { row := networkHeldUptoRow, standIns := [], harness := (true, "4f9b2a5e01fe620100502aad89a6c374947310d4e56a0e79ec735a6c60a7907e"), looks := true }, kinds := [], alts := [], laidByText := true, laidKinds := [.data, .pinned, .data, .handle, .sentinel, .sentinel, .data, .data, .data, .sentinel, .sentinel], laidTests := true, laidLooks := .later }
def NetworkHeldUptoCardSaid : Prop := Claim7.holds Tryz.pinned (.plain (OpenSpec.upto networkHeldSpec)) networkHeldUptoCard

/-- THE SECOND FORM's CARD OF 'copydesklaw27.NetworkLatest'. -/
def networkLatestUptoCard : Claim7 := { stood := { row := networkLatestUptoRow, standIns := [], harness := (true, "4f9b2a5e01fe620100502aad89a6c374947310d4e56a0e79ec735a6c60a7907e"), looks := true }, kinds := [], alts := [], laidByText := true, laidKinds := [.data, .pinned, .data, .handle, .sentinel, .sentinel, .data, .data, .data, .sentinel, .sentinel], laidTests := true, laidLooks := .later }
def NetworkLatestUptoCardSaid : Prop := Claim7.holds Tryz.pinned (.plain (OpenSpec.upto networkLatestSpec)) networkLatestUptoCard

/-- THE SECOND FORM's CARD OF 'copydesklaw27.NetworkAnswers'. -/
def networkAnswersUptoCard : Claim7 := { stood := { row := networkAnswersUptoRow, standIns := [], harness := (true, "4f9b2a5e01fe620100502aad89a6c374947310d4e56a0e79ec735a6c60a7907e"), looks := true }, kinds := [], alts := [], laidByText := true, laidKinds := [.data, .pinned, .data, .handle, .sentinel, .sentinel, .data, .data, .data, .sentinel, .sentinel], laidTests := true, laidLooks := .later }
def NetworkAnswersUptoCardSaid : Prop := Claim7.holds Tryz.pinned (.plain (OpenSpec.upto networkAnswersSpec)) networkAnswersUptoCard

/-- THE SECOND FORM's CARD OF 'copydesklaw27.NetworkClock'. -/
def networkClockUptoCard : Claim7 := { stood := { row := networkClockUptoRow, standIns := [], harness := (true, "4f9b2a5e01fe620100502aad89a6c374947310d4e56a0e79ec735a6c60a7907e"), looks := true }, kinds := [], alts := [], laidByText := true, laidKinds := [.data, .pinned, .data, .handle, .sentinel, .sentinel, .data, .data, .data, .sentinel, .sentinel], laidTests := true, laidLooks := .later }
def NetworkClockUptoCardSaid : Prop := Claim7.holds Tryz.pinned (.plain (OpenSpec.upto networkClockSpec)) networkClockUptoCard

/-- THE SECOND FORM's CARD OF 'copydesklaw27.NetworkRefuses'. -/
def networkRefusesUptoCard : Claim7 := { stood := { row := networkRefusesUptoRow, standIns := [], harness := (true, "4f9b2a5e01fe620100502aad89a6c374947310d4e56a0e79ec735a6c60a7907e"), looks := true }, kinds := [], alts := [], laidByText := true, laidKinds := [.data, .pinned, .data, .handle, .sentinel, .sentinel, .data, .data, .data, .sentinel, .sentinel], laidTests := true, laidLooks := .later }
def NetworkRefusesUptoCardSaid : Prop := Claim7.holds Tryz.pinned (.plain (OpenSpec.upto networkRefusesSpec)) networkRefusesUptoCard
end Rows
end Go.Proofs.YtcopgcdhkgenkaaGreatDoor
