/-
  DERIVED. GIVEN WITH THE SEED: THE CARDS: each row of YtpgniljgaknlpaaGreatDoorRows.lean that lists a variable, with what it lists TIED to the program's text (the seventh form; the later family's looks); each row that meets fmt, with fmt's text TOLD by the authors' own Lean function (tested against real Go, not proved from fmt's source: count such statements apart). THE CARD IS WHAT COUNTS. Prove the row's statement (the work); the ties are given (YtpgniljgaknlpaaGreatDoorTie.lean); close each card by the builder's one call (the guide's Derived/Test/ToyasCard.lean, 'card_holds'). Laid BY PROGRAM, IN A SANDBOX (cutbox-door.mjs). By AI agents, Wed Nov 11 2026. No macro, syntax, notation, axiom, sorry.
-/
import Derived.Test.YtpgniljgaknlpaaGreatDoorRows
import GoSem.ClaimSeven
namespace Go.Proofs.YtpgniljgaknlpaaGreatDoor
namespace Rows

/-- THE TIED CARD OF 'copydesklaw10.ParserMatchesReference'. -/
def parserMatchesReferenceCard : Claim7 := { stood := { row := parserMatchesReferenceRow, standIns := [], harness := (true, "64135db9e72bdb75843e9bec9c7ff915638e33e702ea03f611bda70c79a47d1d"), looks := true }, kinds := [], alts := [], laidByText := true, laidKinds := [.data, .data, .data, .data, .sentinel, .sentinel, .pinned], laidTests := true, laidLooks := .later }
def ParserMatchesReferenceCardSaid : Prop := Claim7.holds Tryz.pinned (.plain (OpenSpec.ofChange parserMatchesReferenceSpec)) parserMatchesReferenceCard

/-- THE TIED CARD OF 'copydesklaw10.ParserPrintMatchesReference'. -/
def parserPrintMatchesReferenceCard : Claim7 := { stood := { row := parserPrintMatchesReferenceRow, standIns := [], harness := (true, "64135db9e72bdb75843e9bec9c7ff915638e33e702ea03f611bda70c79a47d1d"), looks := true }, kinds := [], alts := [], laidByText := true, laidKinds := [.data, .data, .data, .data, .sentinel, .sentinel, .pinned], laidTests := true, laidLooks := .later }
def ParserPrintMatchesReferenceCardSaid : Prop := Claim7.holds Tryz.pinned (.plain (OpenSpec.ofChange parserPrintMatchesReferenceSpec)) parserPrintMatchesReferenceCard

/-- THE TIED CARD OF 'copydesklaw10.ParserRoundTrip'. -/
def parserRoundTripCard : Claim7 := { stood := { row := parserRoundTripRow, standIns := [], harness := (true, "64135db9e72bdb75843e9bec9c7ff915638e33e702ea03f611bda70c79a47d1d"), looks := true }, kinds := [], alts := [], laidByText := true, laidKinds := [.data, .data, .data, .data, .sentinel, .sentinel, .pinned], laidTests := true, laidLooks := .later }
def ParserRoundTripCardSaid : Prop := Claim7.holds Tryz.pinned (.plain (OpenSpec.ofChange parserRoundTripSpec)) parserRoundTripCard

/-- THE TIED CARD OF 'copydesklaw10.ParserConcat'. -/
def parserConcatCard : Claim7 := { stood := { row := parserConcatRow, standIns := [], harness := (true, "64135db9e72bdb75843e9bec9c7ff915638e33e702ea03f611bda70c79a47d1d"), looks := true }, kinds := [], alts := [], laidByText := true, laidKinds := [.data, .data, .data, .data, .sentinel, .sentinel, .pinned], laidTests := true, laidLooks := .later }
def ParserConcatCardSaid : Prop := Claim7.holds Tryz.pinned (.plain (OpenSpec.ofChange parserConcatSpec)) parserConcatCard

/-- THE TIED CARD OF 'copydesklaw10.ParserNest'. -/
def parserNestCard : Claim7 := { stood := { row := parserNestRow, standIns := [], harness := (true, "64135db9e72bdb75843e9bec9c7ff915638e33e702ea03f611bda70c79a47d1d"), looks := true }, kinds := [], alts := [], laidByText := true, laidKinds := [.data, .data, .data, .data, .sentinel, .sentinel, .pinned], laidTests := true, laidLooks := .later }
def ParserNestCardSaid : Prop := Claim7.holds Tryz.pinned (.plain (OpenSpec.ofChange parserNestSpec)) parserNestCard

/-- THE TIED CARD OF 'copydesklaw10.ParserMemory'. -/
def parserMemoryCard : Claim7 := { stood := { row := parserMemoryRow, standIns := [], harness := (true, "64135db9e72bdb75843e9bec9c7ff915638e33e702ea03f611bda70c79a47d1d"), looks := true }, kinds := [], alts := [], laidByText := true, laidKinds := [.data, .data, .data, .data, .sentinel, .sentinel, .pinned], laidTests := true, laidLooks := .later }
def ParserMemoryCardSaid : Prop := Claim7.holds Tryz.pinned (.plain (OpenSpec.ofChange parserMemorySpec)) parserMemoryCard

/-- THE SECOND FORM's CARD OF 'copydesklaw10.ParserMatchesReference'. -/
def parserMatchesReferenceUptoCard : Claim7 := { stood := { row := parserMatchesReferenceUptoRow, standIns := [], harness := (true, "64135db9e72bdb75843e9bec9c7ff915638e33e702ea03f611bda70c79a47d1d"), looks := true }, kinds := [], alts := [], laidByText := true, laidKinds := [.data, .data, .data, .data, .sentinel, .sentinel, .pinned], laidTests := true, laidLooks := .later }
def ParserMatchesReferenceUptoCardSaid : Prop := Claim7.holds Tryz.pinned (.plain (OpenSpec.upto parserMatchesReferenceSpec)) parserMatchesReferenceUptoCard

/-- THE SECOND FORM's CARD OF 'copydesklaw10.ParserPrintMatchesReference'. -/
def parserPrintMatchesReferenceUptoCard : Claim7 := { stood := { row := parserPrintMatchesReferenceUptoRow, standIns := [], harness := (true, "64135db9e72bdb75843e9bec9c7ff915638e33e702ea03f611bda70c79a47d1d"), looks := true }, kinds := [], alts := [], laidByText := true, laidKinds := [.data, .data, .data, .data, .sentinel, .sentinel, .pinned], laidTests := true, laidLooks := .later }
def ParserPrintMatchesReferenceUptoCardSaid : Prop := Claim7.holds Tryz.pinned (.plain (OpenSpec.upto parserPrintMatchesReferenceSpec)) parserPrintMatchesReferenceUptoCard

/-- THE SECOND FORM's CARD OF 'copydesklaw10.ParserRoundTrip'. -/
def parserRoundTripUptoCard : Claim7 := { stood := { row := parserRoundTripUptoRow, standIns := [], harness := (true, "64135db9e72bdb75843e9bec9c7ff915638e33e702ea03f611bda70c79a47d1d"), looks := true }, kinds := [], alts := [], laidByText := true, laidKinds := [.data, .data, .data, .data, .sentinel, .sentinel, .pinned], laidTests := true, laidLooks := .later }
def ParserRoundTripUptoCardSaid : Prop := Claim7.holds Tryz.pinned (.plain (OpenSpec.upto parserRoundTripSpec)) parserRoundTripUptoCard

/-- THE SECOND FORM's CARD OF 'copydesklaw10.ParserConcat'. -/
def parserConcatUptoCard : Claim7 := { stood := { row := parserConcatUptoRow, standIns := [], harness := (true, "64135db9e72bdb75843e9bec9c7ff915638e33e702ea03f611bda70c79a47d1d"), looks := true }, kinds := [], alts := [], laidByText := true, laidKinds := [.data, .data, .data, .data, .sentinel, .sentinel, .pinned], laidTests := true, laidLooks := .later }
def ParserConcatUptoCardSaid : Prop := Claim7.holds Tryz.pinned (.plain (OpenSpec.upto parserConcatSpec)) parserConcatUptoCard

/-- THE SECOND FORM's CARD OF 'copydesklaw10.ParserNest'. -/
def parserNestUptoCard : Claim7 := { stood := { row := parserNestUptoRow, standIns := [], harness := (true, "64135db9e72bdb75843e9bec9c7ff915638e33e702ea03f611bda70c79a47d1d"), looks := true }, kinds := [], alts := [], laidByText := true, laidKinds := [.data, .data, .data, .data, .sentinel, .sentinel, .pinned], laidTests := true, laidLooks := .later }
def ParserNestUptoCardSaid : Prop := Claim7.holds Tryz.pinned (.plain (OpenSpec.upto parserNestSpec)) parserNestUptoCard

/-- THE SECOND FORM's CARD OF 'copydesklaw10.ParserMemory'. -/
def parserMemoryUptoCard : Claim7 := { stood := { row := parserMemoryUptoRow, standIns := [], harness := (true, "64135db9e72bdb75843e9bec9c7ff915638e33e702ea03f611bda70c79a47d1d"), looks := true }, kinds := [], alts := [], laidByText := true, laidKinds := [.data, .data, .data, .data, .sentinel, .sentinel, .pinned], laidTests := true, laidLooks := .later }
def ParserMemoryUptoCardSaid : Prop := Claim7.holds Tryz.pinned (.plain (OpenSpec.upto parserMemorySpec)) parserMemoryUptoCard
end Rows
end Go.Proofs.YtpgniljgaknlpaaGreatDoor
