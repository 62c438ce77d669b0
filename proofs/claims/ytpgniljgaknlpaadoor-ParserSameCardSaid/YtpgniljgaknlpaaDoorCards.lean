/-
  DERIVED. GIVEN WITH THE SEED: THE CARDS: each row of YtpgniljgaknlpaaDoorRows.lean that lists a variable, with what it lists TIED to the program's text (the seventh form; the later family's looks); each row that meets fmt, with fmt's text TOLD by the authors' own Lean function (tested against real Go, not proved from fmt's source: count such statements apart). THE CARD IS WHAT COUNTS. Prove the row's statement (the work); the ties are given (YtpgniljgaknlpaaDoorTie.lean); close each card by the builder's one call (the guide's Derived/Test/ToyasCard.lean, 'card_holds'). Laid BY PROGRAM, IN A SANDBOX (cutbox-door.mjs). By AI agents, Wed Nov 11 2026. No macro, syntax, notation, axiom, sorry.
-/
import Derived.Test.YtpgniljgaknlpaaDoorRows
import GoSem.ClaimSeven
namespace Go.Proofs.YtpgniljgaknlpaaDoor
namespace Rows

/-- THE TIED CARD OF 'copydesklaw10.ParserCanonical'. -/
def parserCanonicalCard : Claim7 := { stood := { row := parserCanonicalRow, standIns := [], harness := (true, "669d46673037909c6234b822e0193dd6f4d8fd6eeb25a15069567ba48e46ea19"), looks := true }, kinds := [], alts := [], laidByText := true, laidKinds := [.data, .data, .data, .data, .sentinel, .sentinel, .pinned], laidTests := true, laidLooks := .later }
def ParserCanonicalCardSaid : Prop := Claim7.holds Tryd.pinned (.plain (OpenSpec.ofChange parserCanonicalSpec)) parserCanonicalCard

/-- THE TIED CARD OF 'copydesklaw10.ParserDepth'. -/
def parserDepthCard : Claim7 := { stood := { row := parserDepthRow, standIns := [], harness := (true, "669d46673037909c6234b822e0193dd6f4d8fd6eeb25a15069567ba48e46ea19"), looks := true }, kinds := [], alts := [], laidByText := true, laidKinds := [.data, .data, .data, .data, .sentinel, .sentinel, .pinned], laidTests := true, laidLooks := .later }
def ParserDepthCardSaid : Prop := Claim7.holds Tryd.pinned (.plain (OpenSpec.ofChange parserDepthSpec)) parserDepthCard

/-- THE TIED CARD OF 'copydesklaw10.ParserOpen'. -/
def parserOpenCard : Claim7 := { stood := { row := parserOpenRow, standIns := [], harness := (true, "669d46673037909c6234b822e0193dd6f4d8fd6eeb25a15069567ba48e46ea19"), looks := true }, kinds := [], alts := [], laidByText := true, laidKinds := [.data, .data, .data, .data, .sentinel, .sentinel, .pinned], laidTests := true, laidLooks := .later }
def ParserOpenCardSaid : Prop := Claim7.holds Tryd.pinned (.plain (OpenSpec.ofChange parserOpenSpec)) parserOpenCard

/-- THE TIED CARD OF 'copydesklaw10.ParserSame'. -/
def parserSameCard : Claim7 := { stood := { row := parserSameRow, standIns := [], harness := (true, "669d46673037909c6234b822e0193dd6f4d8fd6eeb25a15069567ba48e46ea19"), looks := true }, kinds := [], alts := [], laidByText := true, laidKinds := [.data, .data, .data, .data, .sentinel, .sentinel, .pinned], laidTests := true, laidLooks := .later }
def ParserSameCardSaid : Prop := Claim7.holds Tryd.pinned (.plain (OpenSpec.ofChange parserSameSpec)) parserSameCard

/-- THE SECOND FORM's CARD OF 'copydesklaw10.ParserCanonical'. -/
def parserCanonicalUptoCard : Claim7 := { stood := { row := parserCanonicalUptoRow, standIns := [], harness := (true, "669d46673037909c6234b822e0193dd6f4d8fd6eeb25a15069567ba48e46ea19"), looks := true }, kinds := [], alts := [], laidByText := true, laidKinds := [.data, .data, .data, .data, .sentinel, .sentinel, .pinned], laidTests := true, laidLooks := .later }
def ParserCanonicalUptoCardSaid : Prop := Claim7.holds Tryd.pinned (.plain (OpenSpec.upto parserCanonicalSpec)) parserCanonicalUptoCard

/-- THE SECOND FORM's CARD OF 'copydesklaw10.ParserDepth'. -/
def parserDepthUptoCard : Claim7 := { stood := { row := parserDepthUptoRow, standIns := [], harness := (true, "669d46673037909c6234b822e0193dd6f4d8fd6eeb25a15069567ba48e46ea19"), looks := true }, kinds := [], alts := [], laidByText := true, laidKinds := [.data, .data, .data, .data, .sentinel, .sentinel, .pinned], laidTests := true, laidLooks := .later }
def ParserDepthUptoCardSaid : Prop := Claim7.holds Tryd.pinned (.plain (OpenSpec.upto parserDepthSpec)) parserDepthUptoCard

/-- THE SECOND FORM's CARD OF 'copydesklaw10.ParserOpen'. -/
def parserOpenUptoCard : Claim7 := { stood := { row := parserOpenUptoRow, standIns := [], harness := (true, "669d46673037909c6234b822e0193dd6f4d8fd6eeb25a15069567ba48e46ea19"), looks := true }, kinds := [], alts := [], laidByText := true, laidKinds := [.data, .data, .data, .data, .sentinel, .sentinel, .pinned], laidTests := true, laidLooks := .later }
def ParserOpenUptoCardSaid : Prop := Claim7.holds Tryd.pinned (.plain (OpenSpec.upto parserOpenSpec)) parserOpenUptoCard

/-- THE SECOND FORM's CARD OF 'copydesklaw10.ParserSame'. -/
def parserSameUptoCard : Claim7 := { stood := { row := parserSameUptoRow, standIns := [], harness := (true, "669d46673037909c6234b822e0193dd6f4d8fd6eeb25a15069567ba48e46ea19"), looks := true }, kinds := [], alts := [], laidByText := true, laidKinds := [.data, .data, .data, .data, .sentinel, .sentinel, .pinned], laidTests := true, laidLooks := .later }
def ParserSameUptoCardSaid : Prop := Claim7.holds Tryd.pinned (.plain (OpenSpec.upto parserSameSpec)) parserSameUptoCard
end Rows
end Go.Proofs.YtpgniljgaknlpaaDoor
