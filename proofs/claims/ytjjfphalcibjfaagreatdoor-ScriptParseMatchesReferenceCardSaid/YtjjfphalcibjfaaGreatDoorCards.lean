/-
  DERIVED. GIVEN WITH THE SEED: THE CARDS: each row of YtjjfphalcibjfaaGreatDoorRows.lean that lists a variable, with what it lists TIED to the program's text (the seventh form; the later family's looks); each row that meets fmt, with fmt's text TOLD by the authors' own Lean function (tested against real Go, not proved from fmt's source: count such statements apart). THE CARD IS WHAT COUNTS. Prove the row's statement (the work); the ties are given (YtjjfphalcibjfaaGreatDoorTie.lean); close each card by the builder's one call (the guide's Derived/Test/ToyasCard.lean, 'card_holds'). Laid BY PROGRAM, IN A SANDBOX (cutbox-door.mjs). By AI agents, Wed Nov 11 2026. No macro, syntax, notation, axiom, sorry.
-/
import Derived.Test.YtjjfphalcibjfaaGreatDoorRows
import GoSem.ClaimSeven
namespace Go.Proofs.YtjjfphalcibjfaaGreatDoor
namespace Rows

/-- THE TIED CARD OF 'copydesklaw28.ScriptValidMatchesReference'. -/
def scriptValidMatchesReferenceCard : Claim7 := { stood := { row := scriptValidMatchesReferenceRow, standIns := [], harness := (true, "4cf7673d7f0824c597bc1be1c6424031f8cc8997be29c3c5e4c9ab354cc86b93"), looks := true }, kinds := [], alts := [], laidByText := true, laidKinds := [.data, .data, .data, .data, .handle, .data, .sentinel, .sentinel, .pinned], laidTests := true, laidLooks := .later }
def ScriptValidMatchesReferenceCardSaid : Prop := Claim7.holds Tryz.pinned (.plain (OpenSpec.ofChange scriptValidMatchesReferenceSpec)) scriptValidMatchesReferenceCard

/-- THE TIED CARD OF 'copydesklaw28.ScriptPrintMatchesReference'. -/
def scriptPrintMatchesReferenceCard : Claim7 := { stood := { row := scriptPrintMatchesReferenceRow, standIns := [], harness := (true, "4cf7673d7f0824c597bc1be1c6424031f8cc8997be29c3c5e4c9ab354cc86b93"), looks := true }, kinds := [], alts := [], laidByText := true, laidKinds := [.data, .data, .data, .data, .handle, .data, .sentinel, .sentinel, .pinned], laidTests := true, laidLooks := .later }
def ScriptPrintMatchesReferenceCardSaid : Prop := Claim7.holds Tryz.pinned (.plain (OpenSpec.ofChange scriptPrintMatchesReferenceSpec)) scriptPrintMatchesReferenceCard

/-- THE TIED CARD OF 'copydesklaw28.ScriptParseMatchesReference'. -/
def scriptParseMatchesReferenceCard : Claim7 := { stood := { row := scriptParseMatchesReferenceRow, standIns := [], harness := (true, "4cf7673d7f0824c597bc1be1c6424031f8cc8997be29c3c5e4c9ab354cc86b93"), looks := true }, kinds := [], alts := [], laidByText := true, laidKinds := [.data, .data, .data, .data, .handle, .data, .sentinel, .sentinel, .pinned], laidTests := true, laidLooks := .later }
def ScriptParseMatchesReferenceCardSaid : Prop := Claim7.holds Tryz.pinned (.plain (OpenSpec.ofChange scriptParseMatchesReferenceSpec)) scriptParseMatchesReferenceCard

/-- THE TIED CARD OF 'copydesklaw28.ScriptRoundTrip'. -/
def scriptRoundTripCard : Claim7 := { stood := { row := scriptRoundTripRow, standIns := [], harness := (true, "4cf7673d7f0824c597bc1be1c6424031f8cc8997be29c3c5e4c9ab354cc86b93"), looks := true }, kinds := [], alts := [], laidByText := true, laidKinds := [.data, .data, .data, .data, .handle, .data, .sentinel, .sentinel, .pinned], laidTests := true, laidLooks := .later }
def ScriptRoundTripCardSaid : Prop := Claim7.holds Tryz.pinned (.plain (OpenSpec.ofChange scriptRoundTripSpec)) scriptRoundTripCard

/-- THE TIED CARD OF 'copydesklaw28.ScriptParsedAgain'. -/
def scriptParsedAgainCard : Claim7 := { stood := { row := scriptParsedAgainRow, standIns := [], harness := (true, "4cf7673d7f0824c597bc1be1c6424031f8cc8997be29c3c5e4c9ab354cc86b93"), looks := true }, kinds := [], alts := [], laidByText := true, laidKinds := [.data, .data, .data, .data, .handle, .data, .sentinel, .sentinel, .pinned], laidTests := true, laidLooks := .later }
def ScriptParsedAgainCardSaid : Prop := Claim7.holds Tryz.pinned (.plain (OpenSpec.ofChange scriptParsedAgainSpec)) scriptParsedAgainCard

/-- THE TIED CARD OF 'copydesklaw28.ScriptLinesDiffer'. -/
def scriptLinesDifferCard : Claim7 := { stood := { row := scriptLinesDifferRow, standIns := [], harness := (true, "4cf7673d7f0824c597bc1be1c6424031f8cc8997be29c3c5e4c9ab354cc86b93"), looks := true }, kinds := [], alts := [], laidByText := true, laidKinds := [.data, .data, .data, .data, .handle, .data, .sentinel, .sentinel, .pinned], laidTests := true, laidLooks := .later }
def ScriptLinesDifferCardSaid : Prop := Claim7.holds Tryz.pinned (.plain (OpenSpec.ofChange scriptLinesDifferSpec)) scriptLinesDifferCard

/-- THE TIED CARD OF 'copydesklaw28.ScriptIgnored'. -/
def scriptIgnoredCard : Claim7 := { stood := { row := scriptIgnoredRow, standIns := [], harness := (true, "4cf7673d7f0824c597bc1be1c6424031f8cc8997be29c3c5e4c9ab354cc86b93"), looks := true }, kinds := [], alts := [], laidByText := true, laidKinds := [.data, .data, .data, .data, .handle, .data, .sentinel, .sentinel, .pinned], laidTests := true, laidLooks := .later }
def ScriptIgnoredCardSaid : Prop := Claim7.holds Tryz.pinned (.plain (OpenSpec.ofChange scriptIgnoredSpec)) scriptIgnoredCard

/-- THE TIED CARD OF 'copydesklaw28.ScriptJoined'. -/
def scriptJoinedCard : Claim7 := { stood := { row := scriptJoinedRow, standIns := [], harness := (true, "4cf7673d7f0824c597bc1be1c6424031f8cc8997be29c3c5e4c9ab354cc86b93"), looks := true }, kinds := [], alts := [], laidByText := true, laidKinds := [.data, .data, .data, .data, .handle, .data, .sentinel, .sentinel, .pinned], laidTests := true, laidLooks := .later }
def ScriptJoinedCardSaid : Prop := Claim7.holds Tryz.pinned (.plain (OpenSpec.ofChange scriptJoinedSpec)) scriptJoinedCard

/-- THE TIED CARD OF 'copydesklaw28.ScriptLimits'. -/
def scriptLimitsCard : Claim7 := { stood := { row := scriptLimitsRow, standIns := [], harness := (true, "4cf7673d7f0824c597bc1be1c6424031f8cc8997be29c3c5e4c9ab354cc86b93"), looks := true }, kinds := [], alts := [], laidByText := true, laidKinds := [.data, .data, .data, .data, .handle, .data, .sentinel, .sentinel, .pinned], laidTests := true, laidLooks := .later }
def ScriptLimitsCardSaid : Prop := Claim7.holds Tryz.pinned (.plain (OpenSpec.ofChange scriptLimitsSpec)) scriptLimitsCard

/-- THE SECOND FORM's CARD OF 'copydesklaw28.ScriptValidMatchesReference'. -/
def scriptValidMatchesReferenceUptoCard : Claim7 := { stood := { row := scriptValidMatchesReferenceUptoRow, standIns := [], harness := (true, "4cf7673d7f0824c597bc1be1c6424031f8cc8997be29c3c5e4c9ab354cc86b93"), looks := true }, kinds := [], alts := [], laidByText := true, laidKinds := [.data, .data, .data, .data, .handle, .data, .sentinel, .sentinel, .pinned], laidTests := true, laidLooks := .later }
def ScriptValidMatchesReferenceUptoCardSaid : Prop := Claim7.holds Tryz.pinned (.plain (OpenSpec.upto scriptValidMatchesReferenceSpec)) scriptValidMatchesReferenceUptoCard

/-- THE SECOND FORM's CARD OF 'copydesklaw28.ScriptPrintMatchesReference'. -/
def scriptPrintMatchesReferenceUptoCard : Claim7 := { stood := { row := scriptPrintMatchesReferenceUptoRow, standIns := [], harness := (true, "4cf7673d7f0824c597bc1be1c6424031f8cc8997be29c3c5e4c9ab354cc86b93"), looks := true }, kinds := [], alts := [], laidByText := true, laidKinds := [.data, .data, .data, .data, .handle, .data, .sentinel, .sentinel, .pinned], laidTests := true, laidLooks := .later }
def ScriptPrintMatchesReferenceUptoCardSaid : Prop := Claim7.holds Tryz.pinned (.plain (OpenSpec.upto scriptPrintMatchesReferenceSpec)) scriptPrintMatchesReferenceUptoCard

/-- THE SECOND FORM's CARD OF 'copydesklaw28.ScriptParseMatchesReference'. -/
def scriptParseMatchesReferenceUptoCard : Claim7 := { stood := { row := scriptParseMatchesReferenceUptoRow, standIns := [], harness := (true, "4cf7673d7f0824c597bc1be1c6424031f8cc8997be29c3c5e4c9ab354cc86b93"), looks := true }, kinds := [], alts := [], laidByText := true, laidKinds := [.data, .data, .data, .data, .handle, .data, .sentinel, .sentinel, .pinned], laidTests := true, laidLooks := .later }
def ScriptParseMatchesReferenceUptoCardSaid : Prop := Claim7.holds Tryz.pinned (.plain (OpenSpec.upto scriptParseMatchesReferenceSpec)) scriptParseMatchesReferenceUptoCard

/-- THE SECOND FORM's CARD OF 'copydesklaw28.ScriptRoundTrip'. -/
def scriptRoundTripUptoCard : Claim7 := { stood := { row := scriptRoundTripUptoRow, standIns := [], harness := (true, "4cf7673d7f0824c597bc1be1c6424031f8cc8997be29c3c5e4c9ab354cc86b93"), looks := true }, kinds := [], alts := [], laidByText := true, laidKinds := [.data, .data, .data, .data, .handle, .data, .sentinel, .sentinel, .pinned], laidTests := true, laidLooks := .later }
def ScriptRoundTripUptoCardSaid : Prop := Claim7.holds Tryz.pinned (.plain (OpenSpec.upto scriptRoundTripSpec)) scriptRoundTripUptoCard

/-- THE SECOND FORM's CARD OF 'copydesklaw28.ScriptParsedAgain'. -/
def scriptParsedAgainUptoCard : Claim7 := { stood := { row := scriptParsedAgainUptoRow, standIns := [], harness := (true, "4cf7673d7f0824c597bc1be1c6424031f8cc8997be29c3c5e4c9ab354cc86b93"), looks := true }, kinds := [], alts := [], laidByText := true, laidKinds := [.data, .data, .data, .data, .handle, .data, .sentinel, .sentinel, .pinned], laidTests := true, laidLooks := .later }
def ScriptParsedAgainUptoCardSaid : Prop := Claim7.holds Tryz.pinned (.plain (OpenSpec.upto scriptParsedAgainSpec)) scriptParsedAgainUptoCard

/-- THE SECOND FORM's CARD OF 'copydesklaw28.ScriptLinesDiffer'. -/
def scriptLinesDifferUptoCard : Claim7 := { stood := { row := scriptLinesDifferUptoRow, standIns := [], harness := (true, "4cf7673d7f0824c597bc1be1c6424031f8cc8997be29c3c5e4c9ab354cc86b93"), looks := true }, kinds := [], alts := [], laidByText := true, laidKinds := [.data, .data, .data, .data, .handle, .data, .sentinel, .sentinel, .pinned], laidTests := true, laidLooks := .later }
def ScriptLinesDifferUptoCardSaid : Prop := Claim7.holds Tryz.pinned (.plain (OpenSpec.upto scriptLinesDifferSpec)) scriptLinesDifferUptoCard

/-- THE SECOND FORM's CARD OF 'copydesklaw28.ScriptIgnored'. -/
def scriptIgnoredUptoCard : Claim7 := { stood := { row := scriptIgnoredUptoRow, standIns := [], harness := (true, "4cf7673d7f0824c597bc1be1c6424031f8cc8997be29c3c5e4c9ab354cc86b93"), looks := true }, kinds := [], alts := [], laidByText := true, laidKinds := [.data, .data, .data, .data, .handle, .data, .sentinel, .sentinel, .pinned], laidTests := true, laidLooks := .later }
def ScriptIgnoredUptoCardSaid : Prop := Claim7.holds Tryz.pinned (.plain (OpenSpec.upto scriptIgnoredSpec)) scriptIgnoredUptoCard

/-- THE SECOND FORM's CARD OF 'copydesklaw28.ScriptJoined'. -/
def scriptJoinedUptoCard : Claim7 := { stood := { row := scriptJoinedUptoRow, standIns := [], harness := (true, "4cf7673d7f0824c597bc1be1c6424031f8cc8997be29c3c5e4c9ab354cc86b93"), looks := true }, kinds := [], alts := [], laidByText := true, laidKinds := [.data, .data, .data, .data, .handle, .data, .sentinel, .sentinel, .pinned], laidTests := true, laidLooks := .later }
def ScriptJoinedUptoCardSaid : Prop := Claim7.holds Tryz.pinned (.plain (OpenSpec.upto scriptJoinedSpec)) scriptJoinedUptoCard

/-- THE SECOND FORM's CARD OF 'copydesklaw28.ScriptLimits'. -/
def scriptLimitsUptoCard : Claim7 := { stood := { row := scriptLimitsUptoRow, standIns := [], harness := (true, "4cf7673d7f0824c597bc1be1c6424031f8cc8997be29c3c5e4c9ab354cc86b93"), looks := true }, kinds := [], alts := [], laidByText := true, laidKinds := [.data, .data, .data, .data, .handle, .data, .sentinel, .sentinel, .pinned], laidTests := true, laidLooks := .later }
def ScriptLimitsUptoCardSaid : Prop := Claim7.holds Tryz.pinned (.plain (OpenSpec.upto scriptLimitsSpec)) scriptLimitsUptoCard
end Rows
end Go.Proofs.YtjjfphalcibjfaaGreatDoor
