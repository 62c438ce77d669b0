/-
  No cell of these rows narrows 'for every input' (looked for: loops, veiled, ifaces, maps, wideKeys, modest, calm, conditions, laid).
  DERIVED. THE GIVEN ROWS OF THIS SEAT. 6 by the template 'for every input the law returns true; each argument reads behind the call as it read before'; 0 by the template 'total and deterministic' (their statements: YtncmhcfhbogjnaaTotals.lean).
  GIVEN WITH THE SEED: the statements are not yours to turn. If you find one false, say at which input.
  Laid BY PROGRAM, IN A SANDBOX (cutbox-rows.mjs): the forced cells as the released guide's own fill.sh prints them over the translation 051dd56d41372409… (all of the seat's roots in one cut). By AI agents, Wed Nov 11 2026. No macro, syntax, notation, axiom, sorry.
-/
import Derived.Test.YtncmhcfhbogjnaaChecked
import GoSem.Claim
import GoSem.ClaimJoined
import GoSem.ClaimMapViews
import Derived.JoinedTies
import Derived.KernelRfl
namespace Go.Proofs.Ytncmhcfhbogjnaa
/- THE CELL 'sum', in the pinned program and in every row, IS THE sha256 OF THE DUMP (.gsa) THAT YtncmhcfhbogjnaaProg.lean LOADS. Nothing in Lean hashes anything: it is a label: what it is worth is what the hold of that sum in a sandbox is worth. -/
noncomputable def Try.pinned : Pinned := { name := "ytncmhcfhbogjnaa", sum := "051dd56d41372409e7fd3c979ff0d53e0dd479e4da404e8d4209dab94d6b9d60", checked := Try.checked }
namespace Rows
def none {H : Type} : Left H := { results := [], args := [] }

/-- 'copydesklaw25.SiteMatchesReference': WHATEVER THE INPUT: true; the input reads as it did. -/
def siteMatchesReferenceSpec : ChangeSpec := { name := "siteMatchesReference", fn := fun _ => fun
  | [d] => { results := [.lit (.bool true)], args := [d] }
  | _ => none }
def siteMatchesReferenceRow : OpenClaim := { program := "ytncmhcfhbogjnaa", sum := "051dd56d41372409e7fd3c979ff0d53e0dd479e4da404e8d4209dab94d6b9d60", func := "copydesk/copydesklaw25.SiteMatchesReference", spec := "siteMatchesReference", apart := false }
def SiteMatchesReferenceSaid : Prop := siteMatchesReferenceRow.holds Try.pinned (OpenSpec.ofChange siteMatchesReferenceSpec)

/-- ITS FALSE NEIGHBOUR: 'it returns false'. Refute it at one input. -/
def siteMatchesReferenceWrong : ChangeSpec := { name := "siteMatchesReference", fn := fun _ => fun
  | [d] => { results := [.lit (.bool false)], args := [d] }
  | _ => none }
def SiteMatchesReferenceWrongFalsely : Prop := siteMatchesReferenceRow.holds Try.pinned (OpenSpec.ofChange siteMatchesReferenceWrong)

/-- 'copydesklaw25.SiteSessions': WHATEVER THE INPUT: true; the input reads as it did. -/
def siteSessionsSpec : ChangeSpec := { name := "siteSessions", fn := fun _ => fun
  | [d] => { results := [.lit (.bool true)], args := [d] }
  | _ => none }
def siteSessionsRow : OpenClaim := { program := "ytncmhcfhbogjnaa", sum := "051dd56d41372409e7fd3c979ff0d53e0dd479e4da404e8d4209dab94d6b9d60", func := "copydesk/copydesklaw25.SiteSessions", spec := "siteSessions", apart := false }
def SiteSessionsSaid : Prop := siteSessionsRow.holds Try.pinned (OpenSpec.ofChange siteSessionsSpec)

/-- ITS FALSE NEIGHBOUR: 'it returns false'. Refute it at one input. -/
def siteSessionsWrong : ChangeSpec := { name := "siteSessions", fn := fun _ => fun
  | [d] => { results := [.lit (.bool false)], args := [d] }
  | _ => none }
def SiteSessionsWrongFalsely : Prop := siteSessionsRow.holds Try.pinned (OpenSpec.ofChange siteSessionsWrong)

/-- 'copydesklaw25.SiteWhole': WHATEVER THE INPUT: true; the input reads as it did. -/
def siteWholeSpec : ChangeSpec := { name := "siteWhole", fn := fun _ => fun
  | [d] => { results := [.lit (.bool true)], args := [d] }
  | _ => none }
def siteWholeRow : OpenClaim := { program := "ytncmhcfhbogjnaa", sum := "051dd56d41372409e7fd3c979ff0d53e0dd479e4da404e8d4209dab94d6b9d60", func := "copydesk/copydesklaw25.SiteWhole", spec := "siteWhole", apart := false }
def SiteWholeSaid : Prop := siteWholeRow.holds Try.pinned (OpenSpec.ofChange siteWholeSpec)

/-- ITS FALSE NEIGHBOUR: 'it returns false'. Refute it at one input. -/
def siteWholeWrong : ChangeSpec := { name := "siteWhole", fn := fun _ => fun
  | [d] => { results := [.lit (.bool false)], args := [d] }
  | _ => none }
def SiteWholeWrongFalsely : Prop := siteWholeRow.holds Try.pinned (OpenSpec.ofChange siteWholeWrong)

/-- 'copydesklaw25.SitePurges': WHATEVER THE INPUT: true; the input reads as it did. -/
def sitePurgesSpec : ChangeSpec := { name := "sitePurges", fn := fun _ => fun
  | [d1, d2, d3] => { results := [.lit (.bool true)], args := [d1, d2, d3] }
  | _ => none }
def sitePurgesRow : OpenClaim := { program := "ytncmhcfhbogjnaa", sum := "051dd56d41372409e7fd3c979ff0d53e0dd479e4da404e8d4209dab94d6b9d60", func := "copydesk/copydesklaw25.SitePurges", spec := "sitePurges", apart := false }
def SitePurgesSaid : Prop := sitePurgesRow.holds Try.pinned (OpenSpec.ofChange sitePurgesSpec)

/-- ITS FALSE NEIGHBOUR: 'it returns false'. Refute it at one input. -/
def sitePurgesWrong : ChangeSpec := { name := "sitePurges", fn := fun _ => fun
  | [d1, d2, d3] => { results := [.lit (.bool false)], args := [d1, d2, d3] }
  | _ => none }
def SitePurgesWrongFalsely : Prop := sitePurgesRow.holds Try.pinned (OpenSpec.ofChange sitePurgesWrong)

/-- 'copydesklaw25.SiteClasses': WHATEVER THE INPUT: true; the input reads as it did. -/
def siteClassesSpec : ChangeSpec := { name := "siteClasses", fn := fun _ => fun
  | [d1, d2, d3, d4] => { results := [.lit (.bool true)], args := [d1, d2, d3, d4] }
  | _ => none }
def siteClassesRow : OpenClaim := { program := "ytncmhcfhbogjnaa", sum := "051dd56d41372409e7fd3c979ff0d53e0dd479e4da404e8d4209dab94d6b9d60", func := "copydesk/copydesklaw25.SiteClasses", spec := "siteClasses", apart := false }
def SiteClassesSaid : Prop := siteClassesRow.holds Try.pinned (OpenSpec.ofChange siteClassesSpec)

/-- ITS FALSE NEIGHBOUR: 'it returns false'. Refute it at one input. -/
def siteClassesWrong : ChangeSpec := { name := "siteClasses", fn := fun _ => fun
  | [d1, d2, d3, d4] => { results := [.lit (.bool false)], args := [d1, d2, d3, d4] }
  | _ => none }
def SiteClassesWrongFalsely : Prop := siteClassesRow.holds Try.pinned (OpenSpec.ofChange siteClassesWrong)

/-- 'copydesklaw25.SiteLimits': WHATEVER THE INPUT: true; the input reads as it did. -/
def siteLimitsSpec : ChangeSpec := { name := "siteLimits", fn := fun _ => fun
  | [d] => { results := [.lit (.bool true)], args := [d] }
  | _ => none }
def siteLimitsRow : OpenClaim := { program := "ytncmhcfhbogjnaa", sum := "051dd56d41372409e7fd3c979ff0d53e0dd479e4da404e8d4209dab94d6b9d60", func := "copydesk/copydesklaw25.SiteLimits", spec := "siteLimits", apart := false }
def SiteLimitsSaid : Prop := siteLimitsRow.holds Try.pinned (OpenSpec.ofChange siteLimitsSpec)

/-- ITS FALSE NEIGHBOUR: 'it returns false'. Refute it at one input. -/
def siteLimitsWrong : ChangeSpec := { name := "siteLimits", fn := fun _ => fun
  | [d] => { results := [.lit (.bool false)], args := [d] }
  | _ => none }
def SiteLimitsWrongFalsely : Prop := siteLimitsRow.holds Try.pinned (OpenSpec.ofChange siteLimitsWrong)

/- THE SECOND FORM. 'bulk': how many values and letters a reading holds, each counted each time it is reached (what is shared counts as often as it is met; a slice's spare places count too). A statement '..UptoSaid' is the law's where the arguments, and the package variables that the reading takes, are together of bulk at most 1048576: NARROWER than '..Said'. Prove '..Said' where nothing that the law and all that it calls make is longer than what came in: it says more and counts as full. Else prove '..UptoSaid'. A law counts once. -/
mutual
def uptoBulk {H : Type} : DataW H → Nat
  | .lit (.string bytes) => bytes.length + 1
  | .lit _ => 1
  | .nil => 1
  | .ptr d => uptoBulk d + 1
  | .slice elems spare => uptoBulkAll elems + uptoBulkAll spare + 1
  | .agg parts => uptoBulkAll parts + 1
  | .iface _ d => uptoBulk d + 1
  | .map entries => uptoBulkEntries entries + 1
  | .held _ => 1
def uptoBulkAll {H : Type} : List (DataW H) → Nat
  | [] => 0
  | d :: r => uptoBulk d + uptoBulkAll r
def uptoBulkEntries {H : Type} : List (Lit × DataW H) → Nat
  | [] => 0
  | x :: r => uptoBulkEntry x + uptoBulkEntries r
def uptoBulkEntry {H : Type} : Lit × DataW H → Nat
  | (.string bytes, d) => bytes.length + uptoBulk d + 1
  | (_, d) => uptoBulk d + 1
 end
def uptoSmall : (H : Type) → List (DataW H) → Bool := fun _ ds => decide (uptoBulkAll ds ≤ 1048576)
def OpenSpec.upto (s : _root_.Go.ChangeSpec) : _root_.Go.OpenSpec := { _root_.Go.OpenSpec.ofChange s with cond := some uptoSmall }

/-- 'copydesklaw25.SiteMatchesReference', WHERE WHAT IT READS IS OF BULK AT MOST 1048576: true; the input reads as it did. -/
def siteMatchesReferenceUptoRow : OpenClaim := { program := "ytncmhcfhbogjnaa", sum := "051dd56d41372409e7fd3c979ff0d53e0dd479e4da404e8d4209dab94d6b9d60", func := "copydesk/copydesklaw25.SiteMatchesReference", spec := "siteMatchesReference", apart := false, narrowed := true }
def SiteMatchesReferenceUptoSaid : Prop := siteMatchesReferenceUptoRow.holds Try.pinned (OpenSpec.upto siteMatchesReferenceSpec)

/-- 'copydesklaw25.SiteSessions', WHERE WHAT IT READS IS OF BULK AT MOST 1048576: true; the input reads as it did. -/
def siteSessionsUptoRow : OpenClaim := { program := "ytncmhcfhbogjnaa", sum := "051dd56d41372409e7fd3c979ff0d53e0dd479e4da404e8d4209dab94d6b9d60", func := "copydesk/copydesklaw25.SiteSessions", spec := "siteSessions", apart := false, narrowed := true }
def SiteSessionsUptoSaid : Prop := siteSessionsUptoRow.holds Try.pinned (OpenSpec.upto siteSessionsSpec)

/-- 'copydesklaw25.SiteWhole', WHERE WHAT IT READS IS OF BULK AT MOST 1048576: true; the input reads as it did. -/
def siteWholeUptoRow : OpenClaim := { program := "ytncmhcfhbogjnaa", sum := "051dd56d41372409e7fd3c979ff0d53e0dd479e4da404e8d4209dab94d6b9d60", func := "copydesk/copydesklaw25.SiteWhole", spec := "siteWhole", apart := false, narrowed := true }
def SiteWholeUptoSaid : Prop := siteWholeUptoRow.holds Try.pinned (OpenSpec.upto siteWholeSpec)

/-- 'copydesklaw25.SitePurges', WHERE WHAT IT READS IS OF BULK AT MOST 1048576: true; the input reads as it did. -/
def sitePurgesUptoRow : OpenClaim := { program := "ytncmhcfhbogjnaa", sum := "051dd56d41372409e7fd3c979ff0d53e0dd479e4da404e8d4209dab94d6b9d60", func := "copydesk/copydesklaw25.SitePurges", spec := "sitePurges", apart := false, narrowed := true }
def SitePurgesUptoSaid : Prop := sitePurgesUptoRow.holds Try.pinned (OpenSpec.upto sitePurgesSpec)

/-- 'copydesklaw25.SiteClasses', WHERE WHAT IT READS IS OF BULK AT MOST 1048576: true; the input reads as it did. -/
def siteClassesUptoRow : OpenClaim := { program := "ytncmhcfhbogjnaa", sum := "051dd56d41372409e7fd3c979ff0d53e0dd479e4da404e8d4209dab94d6b9d60", func := "copydesk/copydesklaw25.SiteClasses", spec := "siteClasses", apart := false, narrowed := true }
def SiteClassesUptoSaid : Prop := siteClassesUptoRow.holds Try.pinned (OpenSpec.upto siteClassesSpec)

/-- 'copydesklaw25.SiteLimits', WHERE WHAT IT READS IS OF BULK AT MOST 1048576: true; the input reads as it did. -/
def siteLimitsUptoRow : OpenClaim := { program := "ytncmhcfhbogjnaa", sum := "051dd56d41372409e7fd3c979ff0d53e0dd479e4da404e8d4209dab94d6b9d60", func := "copydesk/copydesklaw25.SiteLimits", spec := "siteLimits", apart := false, narrowed := true }
def SiteLimitsUptoSaid : Prop := siteLimitsUptoRow.holds Try.pinned (OpenSpec.upto siteLimitsSpec)

end Rows
end Go.Proofs.Ytncmhcfhbogjnaa
