/-
  DERIVED. GIVEN WITH THE SEED: THE CARDS: each row of YtegcelmjejhnfaaDoorRows.lean that lists a variable, with what it lists TIED to the program's text (the seventh form; the later family's looks); each row that meets fmt, with fmt's text TOLD by the authors' own Lean function (tested against real Go, not proved from fmt's source: count such statements apart). THE CARD IS WHAT COUNTS. Prove the row's statement (the work); the ties are given (YtegcelmjejhnfaaDoorTie.lean); close each card by the builder's one call (the guide's Derived/Test/ToyasCard.lean, 'card_holds'). Laid BY PROGRAM, IN A SANDBOX (cutbox-door.mjs). By AI agents, Wed Nov 11 2026. No macro, syntax, notation, axiom, sorry.
-/
import Derived.Test.YtegcelmjejhnfaaDoorRows
import GoSem.ClaimSeven
namespace Go.Proofs.YtegcelmjejhnfaaDoor
namespace Rows

/-- THE TIED CARD OF 'frisketlaw09.HyphenEdges'. -/
def hyphenEdgesCard : Claim7 := { stood := { row := hyphenEdgesRow, standIns := [], harness := (true, "ce78d7abf9587a7d7599d73c100a6862453bd1def7aece311e50a83988b2a055"), looks := false }, kinds := [], alts := [], laidByText := true, laidKinds := [.data, .listed, .data, .pinned], laidTests := true, laidLooks := .later }
def HyphenEdgesCardSaid : Prop := Claim7.holds Tryd.pinned (.plain (OpenSpec.ofChange hyphenEdgesSpec)) hyphenEdgesCard

/-- THE TIED CARD OF 'frisketlaw09.HyphenMade'. -/
def hyphenMadeCard : Claim7 := { stood := { row := hyphenMadeRow, standIns := [], harness := (true, "ce78d7abf9587a7d7599d73c100a6862453bd1def7aece311e50a83988b2a055"), looks := false }, kinds := [], alts := [], laidByText := true, laidKinds := [.data, .listed, .data, .pinned], laidTests := true, laidLooks := .later }
def HyphenMadeCardSaid : Prop := Claim7.holds Tryd.pinned (.plain (OpenSpec.ofChange hyphenMadeSpec)) hyphenMadeCard

/-- THE TIED CARD OF 'frisketlaw09.HyphenStandard'. -/
def hyphenStandardCard : Claim7 := { stood := { row := hyphenStandardRow, standIns := [], harness := (true, "ce78d7abf9587a7d7599d73c100a6862453bd1def7aece311e50a83988b2a055"), looks := false }, kinds := [], alts := [], laidByText := true, laidKinds := [.data, .listed, .data, .pinned], laidTests := true, laidLooks := .later }
def HyphenStandardCardSaid : Prop := Claim7.holds Tryd.pinned (.plain (OpenSpec.ofChange hyphenStandardSpec)) hyphenStandardCard

/-- THE TIED CARD OF 'frisketlaw09.HyphenMore'. -/
def hyphenMoreCard : Claim7 := { stood := { row := hyphenMoreRow, standIns := [], harness := (true, "ce78d7abf9587a7d7599d73c100a6862453bd1def7aece311e50a83988b2a055"), looks := false }, kinds := [], alts := [], laidByText := true, laidKinds := [.data, .listed, .data, .pinned], laidTests := true, laidLooks := .later }
def HyphenMoreCardSaid : Prop := Claim7.holds Tryd.pinned (.plain (OpenSpec.ofChange hyphenMoreSpec)) hyphenMoreCard

/-- THE TIED CARD OF 'frisketlaw09.HyphenRaw'. -/
def hyphenRawCard : Claim7 := { stood := { row := hyphenRawRow, standIns := [], harness := (true, "ce78d7abf9587a7d7599d73c100a6862453bd1def7aece311e50a83988b2a055"), looks := false }, kinds := [], alts := [], laidByText := true, laidKinds := [.data, .listed, .data, .pinned], laidTests := true, laidLooks := .later }
def HyphenRawCardSaid : Prop := Claim7.holds Tryd.pinned (.plain (OpenSpec.ofChange hyphenRawSpec)) hyphenRawCard

/-- THE TIED CARD OF 'frisketlaw09.HyphenShows'. -/
def hyphenShowsCard : Claim7 := { stood := { row := hyphenShowsRow, standIns := [], harness := (true, "ce78d7abf9587a7d7599d73c100a6862453bd1def7aece311e50a83988b2a055"), looks := false }, kinds := [], alts := [], laidByText := true, laidKinds := [.data, .listed, .data, .pinned], laidTests := true, laidLooks := .later }
def HyphenShowsCardSaid : Prop := Claim7.holds Tryd.pinned (.plain (OpenSpec.ofChange hyphenShowsSpec)) hyphenShowsCard

/-- THE TIED CARD OF 'frisketlaw09.HyphenBack'. -/
def hyphenBackCard : Claim7 := { stood := { row := hyphenBackRow, standIns := [], harness := (true, "ce78d7abf9587a7d7599d73c100a6862453bd1def7aece311e50a83988b2a055"), looks := false }, kinds := [], alts := [], laidByText := true, laidKinds := [.data, .listed, .data, .pinned], laidTests := true, laidLooks := .later }
def HyphenBackCardSaid : Prop := Claim7.holds Tryd.pinned (.plain (OpenSpec.ofChange hyphenBackSpec)) hyphenBackCard

/-- THE SECOND FORM's CARD OF 'frisketlaw09.HyphenEdges'. -/
def hyphenEdgesUptoCard : Claim7 := { stood := { row := hyphenEdgesUptoRow, standIns := [], harness := (true, "ce78d7abf9587a7d7599d73c100a6862453bd1def7aece311e50a83988b2a055"), looks := false }, kinds := [], alts := [], laidByText := true, laidKinds := [.data, .listed, .data, .pinned], laidTests := true, laidLooks := .later }
def HyphenEdgesUptoCardSaid : Prop := Claim7.holds Tryd.pinned (.plain (OpenSpec.upto hyphenEdgesSpec)) hyphenEdgesUptoCard

/-- THE SECOND FORM's CARD OF 'frisketlaw09.HyphenMade'. -/
def hyphenMadeUptoCard : Claim7 := { stood := { row := hyphenMadeUptoRow, standIns := [], harness := (true, "ce78d7abf9587a7d7599d73c100a6862453bd1def7aece311e50a83988b2a055"), looks := false }, kinds := [], alts := [], laidByText := true, laidKinds := [.data, .listed, .data, .pinned], laidTests := true, laidLooks := .later }
def HyphenMadeUptoCardSaid : Prop := Claim7.holds Tryd.pinned (.plain (OpenSpec.upto hyphenMadeSpec)) hyphenMadeUptoCard

/-- THE SECOND FORM's CARD OF 'frisketlaw09.HyphenStandard'. -/
def hyphenStandardUptoCard : Claim7 := { stood := { row := hyphenStandardUptoRow, standIns := [], harness := (true, "ce78d7abf9587a7d7599d73c100a6862453bd1def7aece311e50a83988b2a055"), looks := false }, kinds := [], alts := [], laidByText := true, laidKinds := [.data, .listed, .data, .pinned], laidTests := true, laidLooks := .later }
def HyphenStandardUptoCardSaid : Prop := Claim7.holds Tryd.pinned (.plain (OpenSpec.upto hyphenStandardSpec)) hyphenStandardUptoCard

/-- THE SECOND FORM's CARD OF 'frisketlaw09.HyphenMore'. -/
def hyphenMoreUptoCard : Claim7 := { stood := { row := hyphenMoreUptoRow, standIns := [], harness := (true, "ce78d7abf9587a7d7599d73c100a6862453bd1def7aece311e50a83988b2a055"), looks := false }, kinds := [], alts := [], laidByText := true, laidKinds := [.data, .listed, .data, .pinned], laidTests := true, laidLooks := .later }
def HyphenMoreUptoCardSaid : Prop := Claim7.holds Tryd.pinned (.plain (OpenSpec.upto hyphenMoreSpec)) hyphenMoreUptoCard

/-- THE SECOND FORM's CARD OF 'frisketlaw09.HyphenRaw'. -/
def hyphenRawUptoCard : Claim7 := { stood := { row := hyphenRawUptoRow, standIns := [], harness := (true, "ce78d7abf9587a7d7599d73c100a6862453bd1def7aece311e50a83988b2a055"), looks := false }, kinds := [], alts := [], laidByText := true, laidKinds := [.data, .listed, .data, .pinned], laidTests := true, laidLooks := .later }
def HyphenRawUptoCardSaid : Prop := Claim7.holds Tryd.pinned (.plain (OpenSpec.upto hyphenRawSpec)) hyphenRawUptoCard

/-- THE SECOND FORM's CARD OF 'frisketlaw09.HyphenShows'. -/
def hyphenShowsUptoCard : Claim7 := { stood := { row := hyphenShowsUptoRow, standIns := [], harness := (true, "ce78d7abf9587a7d7599d73c100a6862453bd1def7aece311e50a83988b2a055"), looks := false }, kinds := [], alts := [], laidByText := true, laidKinds := [.data, .listed, .data, .pinned], laidTests := true, laidLooks := .later }
def HyphenShowsUptoCardSaid : Prop := Claim7.holds Tryd.pinned (.plain (OpenSpec.upto hyphenShowsSpec)) hyphenShowsUptoCard

/-- THE SECOND FORM's CARD OF 'frisketlaw09.HyphenBack'. -/
def hyphenBackUptoCard : Claim7 := { stood := { row := hyphenBackUptoRow, standIns := [], harness := (true, "ce78d7abf9587a7d7599d73c100a6862453bd1def7aece311e50a83988b2a055"), looks := false }, kinds := [], alts := [], laidByText := true, laidKinds := [.data, .listed, .data, .pinned], laidTests := true, laidLooks := .later }
def HyphenBackUptoCardSaid : Prop := Claim7.holds Tryd.pinned (.plain (OpenSpec.upto hyphenBackSpec)) hyphenBackUptoCard
end Rows
end Go.Proofs.YtegcelmjejhnfaaDoor
