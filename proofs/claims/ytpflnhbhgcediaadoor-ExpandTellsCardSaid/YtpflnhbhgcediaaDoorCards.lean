/-
  DERIVED. GIVEN WITH THE SEED: THE CARDS: each row of YtpflnhbhgcediaaDoorRows.lean that lists a variable, with what it lists TIED to the program's text (the seventh form; the later family's looks); each row that meets fmt, with fmt's text TOLD by the authors' own Lean function (tested against real Go, not proved from fmt's source: count such statements apart). THE CARD IS WHAT COUNTS. Prove the row's statement (the work); the ties are given (YtpflnhbhgcediaaDoorTie.lean); close each card by the builder's one call (the guide's Derived/Test/ToyasCard.lean, 'card_holds'). Laid BY PROGRAM, IN A SANDBOX (cutbox-door.mjs). By AI agents, Wed Nov 11 2026. No macro, syntax, notation, axiom, sorry.
-/
import Derived.Test.YtpflnhbhgcediaaDoorRows
import GoSem.ClaimSeven
namespace Go.Proofs.YtpflnhbhgcediaaDoor
namespace Rows

/-- THE TIED CARD OF 'frisketlaw04.ExpandBack'. -/
def expandBackCard : Claim7 := { stood := { row := expandBackRow, standIns := [], harness := (true, "42934549fee6f6f7a3c21e50436aec763b8fcbba1770c2928b461f0794287931"), looks := true }, kinds := [], alts := [], laidByText := true, laidKinds := [.data, .pinned], laidTests := true, laidLooks := .later }
def ExpandBackCardSaid : Prop := Claim7.holds Tryd.pinned (.plain (OpenSpec.ofChange expandBackSpec)) expandBackCard

/-- THE TIED CARD OF 'frisketlaw04.ExpandTells'. -/
def expandTellsCard : Claim7 := { stood := { row := expandTellsRow, standIns := [], harness := (true, "42934549fee6f6f7a3c21e50436aec763b8fcbba1770c2928b461f0794287931"), looks := true }, kinds := [], alts := [], laidByText := true, laidKinds := [.data, .pinned], laidTests := true, laidLooks := .later }
def ExpandTellsCardSaid : Prop := Claim7.holds Tryd.pinned (.plain (OpenSpec.ofChange expandTellsSpec)) expandTellsCard

/-- THE TIED CARD OF 'frisketlaw04.ExpandJoins'. -/
def expandJoinsCard : Claim7 := { stood := { row := expandJoinsRow, standIns := [], harness := (true, "42934549fee6f6f7a3c21e50436aec763b8fcbba1770c2928b461f0794287931"), looks := true }, kinds := [], alts := [], laidByText := true, laidKinds := [.data, .pinned], laidTests := true, laidLooks := .later }
def ExpandJoinsCardSaid : Prop := Claim7.holds Tryd.pinned (.plain (OpenSpec.ofChange expandJoinsSpec)) expandJoinsCard

/-- THE SECOND FORM's CARD OF 'frisketlaw04.ExpandBack'. -/
def expandBackUptoCard : Claim7 := { stood := { row := expandBackUptoRow, standIns := [], harness := (true, "42934549fee6f6f7a3c21e50436aec763b8fcbba1770c2928b461f0794287931"), looks := true }, kinds := [], alts := [], laidByText := true, laidKinds := [.data, .pinned], laidTests := true, laidLooks := .later }
def ExpandBackUptoCardSaid : Prop := Claim7.holds Tryd.pinned (.plain (OpenSpec.upto expandBackSpec)) expandBackUptoCard

/-- THE SECOND FORM's CARD OF 'frisketlaw04.ExpandTells'. -/
def expandTellsUptoCard : Claim7 := { stood := { row := expandTellsUptoRow, standIns := [], harness := (true, "42934549fee6f6f7a3c21e50436aec763b8fcbba1770c2928b461f0794287931"), looks := true }, kinds := [], alts := [], laidByText := true, laidKinds := [.data, .pinned], laidTests := true, laidLooks := .later }
def ExpandTellsUptoCardSaid : Prop := Claim7.holds Tryd.pinned (.plain (OpenSpec.upto expandTellsSpec)) expandTellsUptoCard

/-- THE SECOND FORM's CARD OF 'frisketlaw04.ExpandJoins'. -/
def expandJoinsUptoCard : Claim7 := { stood := { row := expandJoinsUptoRow, standIns := [], harness := (true, "42934549fee6f6f7a3c21e50436aec763b8fcbba1770c2928b461f0794287931"), looks := true }, kinds := [], alts := [], laidByText := true, laidKinds := [.data, .pinned], laidTests := true, laidLooks := .later }
def ExpandJoinsUptoCardSaid : Prop := Claim7.holds Tryd.pinned (.plain (OpenSpec.upto expandJoinsSpec)) expandJoinsUptoCard
end Rows
end Go.Proofs.YtpflnhbhgcediaaDoor
