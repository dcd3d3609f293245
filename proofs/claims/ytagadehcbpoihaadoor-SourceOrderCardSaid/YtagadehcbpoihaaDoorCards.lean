/-
  DERIVED. GIVEN WITH THE SEED: THE CARDS: each row of YtagadehcbpoihaaDoorRows.lean that lists a variable, with what it lists TIED to the program's text (the seventh form; the later family's looks); each row that meets fmt, with fmt's text TOLD by the authors' own Lean function (tested against real Go, not proved from fmt's source: count such statements apart). THE CARD IS WHAT COUNTS. Prove the row's statement (the work); the ties are given (YtagadehcbpoihaaDoorTie.lean); close each card by the builder's one call (the guide's Derived/Test/ToyasCard.lean, 'card_holds'). Laid BY PROGRAM, IN A SANDBOX (cutbox-door.mjs). By AI agents, Wed Nov 11 2026. No macro, syntax, notation, axiom, sorry.
-/
import Derived.Test.YtagadehcbpoihaaDoorRows
import GoSem.ClaimSeven
namespace Go.Proofs.YtagadehcbpoihaaDoor
namespace Rows

/-- THE TIED CARD OF 'frisketlaw05.SourceLines'. -/
def sourceLinesCard : Claim7 := { stood := { row := sourceLinesRow, standIns := [], harness := (true, "e580c74a89d0866715b26620c5a86dfe1efb61d7be6d44daa7a9d70d11303e3f"), looks := false }, kinds := [], alts := [], laidByText := true, laidKinds := [.data, .pinned], laidTests := true, laidLooks := .later }
def SourceLinesCardSaid : Prop := Claim7.holds Tryd.pinned (.plain (OpenSpec.ofChange sourceLinesSpec)) sourceLinesCard

/-- THE TIED CARD OF 'frisketlaw05.SourceDeep'. -/
def sourceDeepCard : Claim7 := { stood := { row := sourceDeepRow, standIns := [], harness := (true, "e580c74a89d0866715b26620c5a86dfe1efb61d7be6d44daa7a9d70d11303e3f"), looks := false }, kinds := [], alts := [], laidByText := true, laidKinds := [.data, .pinned], laidTests := true, laidLooks := .later }
def SourceDeepCardSaid : Prop := Claim7.holds Tryd.pinned (.plain (OpenSpec.ofChange sourceDeepSpec)) sourceDeepCard

/-- THE TIED CARD OF 'frisketlaw05.SourceOrder'. -/
def sourceOrderCard : Claim7 := { stood := { row := sourceOrderRow, standIns := [], harness := (true, "e580c74a89d0866715b26620c5a86dfe1efb61d7be6d44daa7a9d70d11303e3f"), looks := false }, kinds := [], alts := [], laidByText := true, laidKinds := [.data, .pinned], laidTests := true, laidLooks := .later }
def SourceOrderCardSaid : Prop := Claim7.holds Tryd.pinned (.plain (OpenSpec.ofChange sourceOrderSpec)) sourceOrderCard

/-- THE TIED CARD OF 'frisketlaw05.SourceCopies'. -/
def sourceCopiesCard : Claim7 := { stood := { row := sourceCopiesRow, standIns := [], harness := (true, "e580c74a89d0866715b26620c5a86dfe1efb61d7be6d44daa7a9d70d11303e3f"), looks := false }, kinds := [], alts := [], laidByText := true, laidKinds := [.data, .pinned], laidTests := true, laidLooks := .later }
def SourceCopiesCardSaid : Prop := Claim7.holds Tryd.pinned (.plain (OpenSpec.ofChange sourceCopiesSpec)) sourceCopiesCard

/-- THE TIED CARD OF 'frisketlaw05.SourceNothing'. -/
def sourceNothingCard : Claim7 := { stood := { row := sourceNothingRow, standIns := [], harness := (true, "e580c74a89d0866715b26620c5a86dfe1efb61d7be6d44daa7a9d70d11303e3f"), looks := false }, kinds := [], alts := [], laidByText := true, laidKinds := [.data, .pinned], laidTests := true, laidLooks := .later }
def SourceNothingCardSaid : Prop := Claim7.holds Tryd.pinned (.plain (OpenSpec.ofChange sourceNothingSpec)) sourceNothingCard

/-- THE SECOND FORM's CARD OF 'frisketlaw05.SourceLines'. -/
def sourceLinesUptoCard : Claim7 := { stood := { row := sourceLinesUptoRow, standIns := [], harness := (true, "e580c74a89d0866715b26620c5a86dfe1efb61d7be6d44daa7a9d70d11303e3f"), looks := false }, kinds := [], alts := [], laidByText := true, laidKinds := [.data, .pinned], laidTests := true, laidLooks := .later }
def SourceLinesUptoCardSaid : Prop := Claim7.holds Tryd.pinned (.plain (OpenSpec.upto sourceLinesSpec)) sourceLinesUptoCard

/-- THE SECOND FORM's CARD OF 'frisketlaw05.SourceDeep'. -/
def sourceDeepUptoCard : Claim7 := { stood := { row := sourceDeepUptoRow, standIns := [], harness := (true, "e580c74a89d0866715b26620c5a86dfe1efb61d7be6d44daa7a9d70d11303e3f"), looks := false }, kinds := [], alts := [], laidByText := true, laidKinds := [.data, .pinned], laidTests := true, laidLooks := .later }
def SourceDeepUptoCardSaid : Prop := Claim7.holds Tryd.pinned (.plain (OpenSpec.upto sourceDeepSpec)) sourceDeepUptoCard

/-- THE SECOND FORM's CARD OF 'frisketlaw05.SourceOrder'. -/
def sourceOrderUptoCard : Claim7 := { stood := { row := sourceOrderUptoRow, standIns := [], harness := (true, "e580c74a89d0866715b26620c5a86dfe1efb61d7be6d44daa7a9d70d11303e3f"), looks := false }, kinds := [], alts := [], laidByText := true, laidKinds := [.data, .pinned], laidTests := true, laidLooks := .later }
def SourceOrderUptoCardSaid : Prop := Claim7.holds Tryd.pinned (.plain (OpenSpec.upto sourceOrderSpec)) sourceOrderUptoCard

/-- THE SECOND FORM's CARD OF 'frisketlaw05.SourceCopies'. -/
def sourceCopiesUptoCard : Claim7 := { stood := { row := sourceCopiesUptoRow, standIns := [], harness := (true, "e580c74a89d0866715b26620c5a86dfe1efb61d7be6d44daa7a9d70d11303e3f"), looks := false }, kinds := [], alts := [], laidByText := true, laidKinds := [.data, .pinned], laidTests := true, laidLooks := .later }
def SourceCopiesUptoCardSaid : Prop := Claim7.holds Tryd.pinned (.plain (OpenSpec.upto sourceCopiesSpec)) sourceCopiesUptoCard

/-- THE SECOND FORM's CARD OF 'frisketlaw05.SourceNothing'. -/
def sourceNothingUptoCard : Claim7 := { stood := { row := sourceNothingUptoRow, standIns := [], harness := (true, "e580c74a89d0866715b26620c5a86dfe1efb61d7be6d44daa7a9d70d11303e3f"), looks := false }, kinds := [], alts := [], laidByText := true, laidKinds := [.data, .pinned], laidTests := true, laidLooks := .later }
def SourceNothingUptoCardSaid : Prop := Claim7.holds Tryd.pinned (.plain (OpenSpec.upto sourceNothingSpec)) sourceNothingUptoCard
end Rows
end Go.Proofs.YtagadehcbpoihaaDoor
