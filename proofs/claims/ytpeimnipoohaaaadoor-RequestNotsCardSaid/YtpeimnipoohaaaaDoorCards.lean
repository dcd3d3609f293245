/-
  DERIVED. GIVEN WITH THE SEED: THE CARDS: each row of YtpeimnipoohaaaaDoorRows.lean that lists a variable, with what it lists TIED to the program's text (the seventh form; the later family's looks); each row that meets fmt, with fmt's text TOLD by the authors' own Lean function (tested against real Go, not proved from fmt's source: count such statements apart). THE CARD IS WHAT COUNTS. Prove the row's statement (the work); the ties are given (YtpeimnipoohaaaaDoorTie.lean); close each card by the builder's one call (the guide's Derived/Test/ToyasCard.lean, 'card_holds'). Laid BY PROGRAM, IN A SANDBOX (cutbox-door.mjs). By AI agents, Wed Nov 11 2026. No macro, syntax, notation, axiom, sorry.
-/
import Derived.Test.YtpeimnipoohaaaaDoorRows
import GoSem.ClaimSeven
namespace Go.Proofs.YtpeimnipoohaaaaDoor
namespace Rows

/-- THE TIED CARD OF 'frisketlaw06.RequestSplits'. -/
def requestSplitsCard : Claim7 := { stood := { row := requestSplitsRow, standIns := [], harness := (true, "92006864c0331f81da48801234e0897e48c8477bc9e0c95aa62138a2d3d9121a"), looks := false }, kinds := [], alts := [], laidByText := true, laidKinds := [.data, .pinned], laidTests := true, laidLooks := .later }
def RequestSplitsCardSaid : Prop := Claim7.holds Tryd.pinned (.plain (OpenSpec.ofChange requestSplitsSpec)) requestSplitsCard

/-- THE TIED CARD OF 'frisketlaw06.RequestWords'. -/
def requestWordsCard : Claim7 := { stood := { row := requestWordsRow, standIns := [], harness := (true, "92006864c0331f81da48801234e0897e48c8477bc9e0c95aa62138a2d3d9121a"), looks := false }, kinds := [], alts := [], laidByText := true, laidKinds := [.data, .pinned], laidTests := true, laidLooks := .later }
def RequestWordsCardSaid : Prop := Claim7.holds Tryd.pinned (.plain (OpenSpec.ofChange requestWordsSpec)) requestWordsCard

/-- THE TIED CARD OF 'frisketlaw06.RequestBraces'. -/
def requestBracesCard : Claim7 := { stood := { row := requestBracesRow, standIns := [], harness := (true, "92006864c0331f81da48801234e0897e48c8477bc9e0c95aa62138a2d3d9121a"), looks := false }, kinds := [], alts := [], laidByText := true, laidKinds := [.data, .pinned], laidTests := true, laidLooks := .later }
def RequestBracesCardSaid : Prop := Claim7.holds Tryd.pinned (.plain (OpenSpec.ofChange requestBracesSpec)) requestBracesCard

/-- THE TIED CARD OF 'frisketlaw06.RequestConditions'. -/
def requestConditionsCard : Claim7 := { stood := { row := requestConditionsRow, standIns := [], harness := (true, "92006864c0331f81da48801234e0897e48c8477bc9e0c95aa62138a2d3d9121a"), looks := false }, kinds := [], alts := [], laidByText := true, laidKinds := [.data, .pinned], laidTests := true, laidLooks := .later }
def RequestConditionsCardSaid : Prop := Claim7.holds Tryd.pinned (.plain (OpenSpec.ofChange requestConditionsSpec)) requestConditionsCard

/-- THE TIED CARD OF 'frisketlaw06.RequestNots'. -/
def requestNotsCard : Claim7 := { stood := { row := requestNotsRow, standIns := [], harness := (true, "92006864c0331f81da48801234e0897e48c8477bc9e0c95aa62138a2d3d9121a"), looks := false }, kinds := [], alts := [], laidByText := true, laidKinds := [.data, .pinned], laidTests := true, laidLooks := .later }
def RequestNotsCardSaid : Prop := Claim7.holds Tryd.pinned (.plain (OpenSpec.ofChange requestNotsSpec)) requestNotsCard

/-- THE TIED CARD OF 'frisketlaw06.RequestWrites'. -/
def requestWritesCard : Claim7 := { stood := { row := requestWritesRow, standIns := [], harness := (true, "92006864c0331f81da48801234e0897e48c8477bc9e0c95aa62138a2d3d9121a"), looks := false }, kinds := [], alts := [], laidByText := true, laidKinds := [.data, .pinned], laidTests := true, laidLooks := .later }
def RequestWritesCardSaid : Prop := Claim7.holds Tryd.pinned (.plain (OpenSpec.ofChange requestWritesSpec)) requestWritesCard

/-- THE TIED CARD OF 'frisketlaw06.RequestBack'. -/
def requestBackCard : Claim7 := { stood := { row := requestBackRow, standIns := [], harness := (true, "92006864c0331f81da48801234e0897e48c8477bc9e0c95aa62138a2d3d9121a"), looks := false }, kinds := [], alts := [], laidByText := true, laidKinds := [.data, .pinned], laidTests := true, laidLooks := .later }
def RequestBackCardSaid : Prop := Claim7.holds Tryd.pinned (.plain (OpenSpec.ofChange requestBackSpec)) requestBackCard

/-- THE SECOND FORM's CARD OF 'frisketlaw06.RequestSplits'. -/
def requestSplitsUptoCard : Claim7 := { stood := { row := requestSplitsUptoRow, standIns := [], harness := (true, "92006864c0331f81da48801234e0897e48c8477bc9e0c95aa62138a2d3d9121a"), looks := false }, kinds := [], alts := [], laidByText := true, laidKinds := [.data, .pinned], laidTests := true, laidLooks := .later }
def RequestSplitsUptoCardSaid : Prop := Claim7.holds Tryd.pinned (.plain (OpenSpec.upto requestSplitsSpec)) requestSplitsUptoCard

/-- THE SECOND FORM's CARD OF 'frisketlaw06.RequestWords'. -/
def requestWordsUptoCard : Claim7 := { stood := { row := requestWordsUptoRow, standIns := [], harness := (true, "92006864c0331f81da48801234e0897e48c8477bc9e0c95aa62138a2d3d9121a"), looks := false }, kinds := [], alts := [], laidByText := true, laidKinds := [.data, .pinned], laidTests := true, laidLooks := .later }
def RequestWordsUptoCardSaid : Prop := Claim7.holds Tryd.pinned (.plain (OpenSpec.upto requestWordsSpec)) requestWordsUptoCard

/-- THE SECOND FORM's CARD OF 'frisketlaw06.RequestBraces'. -/
def requestBracesUptoCard : Claim7 := { stood := { row := requestBracesUptoRow, standIns := [], harness := (true, "92006864c0331f81da48801234e0897e48c8477bc9e0c95aa62138a2d3d9121a"), looks := false }, kinds := [], alts := [], laidByText := true, laidKinds := [.data, .pinned], laidTests := true, laidLooks := .later }
def RequestBracesUptoCardSaid : Prop := Claim7.holds Tryd.pinned (.plain (OpenSpec.upto requestBracesSpec)) requestBracesUptoCard

/-- THE SECOND FORM's CARD OF 'frisketlaw06.RequestConditions'. -/
def requestConditionsUptoCard : Claim7 := { stood := { row := requestConditionsUptoRow, standIns := [], harness := (true, "92006864c0331f81da48801234e0897e48c8477bc9e0c95aa62138a2d3d9121a"), looks := false }, kinds := [], alts := [], laidByText := true, laidKinds := [.data, .pinned], laidTests := true, laidLooks := .later }
def RequestConditionsUptoCardSaid : Prop := Claim7.holds Tryd.pinned (.plain (OpenSpec.upto requestConditionsSpec)) requestConditionsUptoCard

/-- THE SECOND FORM's CARD OF 'frisketlaw06.RequestNots'. -/
def requestNotsUptoCard : Claim7 := { stood := { row := requestNotsUptoRow, standIns := [], harness := (true, "92006864c0331f81da48801234e0897e48c8477bc9e0c95aa62138a2d3d9121a"), looks := false }, kinds := [], alts := [], laidByText := true, laidKinds := [.data, .pinned], laidTests := true, laidLooks := .later }
def RequestNotsUptoCardSaid : Prop := Claim7.holds Tryd.pinned (.plain (OpenSpec.upto requestNotsSpec)) requestNotsUptoCard

/-- THE SECOND FORM's CARD OF 'frisketlaw06.RequestWrites'. -/
def requestWritesUptoCard : Claim7 := { stood := { row := requestWritesUptoRow, standIns := [], harness := (true, "92006864c0331f81da48801234e0897e48c8477bc9e0c95aa62138a2d3d9121a"), looks := false }, kinds := [], alts := [], laidByText := true, laidKinds := [.data, .pinned], laidTests := true, laidLooks := .later }
def RequestWritesUptoCardSaid : Prop := Claim7.holds Tryd.pinned (.plain (OpenSpec.upto requestWritesSpec)) requestWritesUptoCard

/-- THE SECOND FORM's CARD OF 'frisketlaw06.RequestBack'. -/
def requestBackUptoCard : Claim7 := { stood := { row := requestBackUptoRow, standIns := [], harness := (true, "92006864c0331f81da48801234e0897e48c8477bc9e0c95aa62138a2d3d9121a"), looks := false }, kinds := [], alts := [], laidByText := true, laidKinds := [.data, .pinned], laidTests := true, laidLooks := .later }
def RequestBackUptoCardSaid : Prop := Claim7.holds Tryd.pinned (.plain (OpenSpec.upto requestBackSpec)) requestBackUptoCard
end Rows
end Go.Proofs.YtpeimnipoohaaaaDoor
