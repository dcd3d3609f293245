/-
  NARROWER THAN 'FOR EVERY INPUT', by the rows' own cells (each row's printed sentence says how): RequestSplits: laid · RequestWords: laid · RequestBraces: laid · RequestConditions: laid · RequestNots: laid · RequestWrites: laid · RequestBack: laid.
  DERIVED. THE GIVEN ROWS OF THIS SEAT. 7 by the template 'for every input the law returns true; each argument reads behind the call as it read before'; 0 by the template 'total and deterministic' (their statements: YtpeimnipoohaaaaDoorTotals.lean).
  GIVEN WITH THE SEED: the statements are not yours to turn. If you find one false, say at which input.
  Laid BY PROGRAM, IN A SANDBOX (cutbox-rows.mjs): the forced cells as the released guide's own fill.sh prints them over the translation 1eda16d0cbd040ff… (all of the seat's roots in one cut). By AI agents, Wed Nov 11 2026. No macro, syntax, notation, axiom, sorry.
-/
import Derived.Test.YtpeimnipoohaaaaDoorChecked
import GoSem.PinnedTables
import GoSem.Claim
import GoSem.ClaimJoined
import GoSem.ClaimMapViews
import Derived.JoinedTies
import Derived.KernelRfl
namespace Go.Proofs.YtpeimnipoohaaaaDoor
/- THE CELL 'sum', in the pinned program and in every row, IS THE sha256 OF THE DUMP (.gsa) THAT YtpeimnipoohaaaaDoorProg.lean LOADS. Nothing in Lean hashes anything: it is a label: what it is worth is what the hold of that sum in a sandbox is worth. -/
noncomputable def Tryd.pinned : Pinned := { name := "ytpeimnipoohaaaadoor", sum := "1eda16d0cbd040ff5a4880885de0a9f0d2388b1f13a2766e4092f1300de5a800", checked := Tryd.checked }
namespace Rows
def none {H : Type} : Left H := { results := [], args := [] }

/- WHAT THE LISTED PACKAGE-LEVEL VARIABLES READ AS WHEN THE CALL BEGINS. Each datum BY PROGRAM (the guide's laid-datum.mjs) off the statement by which the dump's own 'gosem.cut.vars' lays the variable. In a bare row this is a premise. The card (YtpeimnipoohaaaaDoorCards.lean) ties it to the program's text. -/
def laid_unicode_utf8_acceptRanges {H : Type} : DataW H := .agg [.agg [.lit (.int .u8 128), .lit (.int .u8 191)], .agg [.lit (.int .u8 160), .lit (.int .u8 191)], .agg [.lit (.int .u8 128), .lit (.int .u8 159)], .agg [.lit (.int .u8 144), .lit (.int .u8 191)], .agg [.lit (.int .u8 128), .lit (.int .u8 143)], .agg [.lit (.int .u8 0), .lit (.int .u8 0)], .agg [.lit (.int .u8 0), .lit (.int .u8 0)], .agg [.lit (.int .u8 0), .lit (.int .u8 0)], .agg [.lit (.int .u8 0), .lit (.int .u8 0)], .agg [.lit (.int .u8 0), .lit (.int .u8 0)], .agg [.lit (.int .u8 0), .lit (.int .u8 0)], .agg [.lit (.int .u8 0), .lit (.int .u8 0)], .agg [.lit (.int .u8 0), .lit (.int .u8 0)], .agg [.lit (.int .u8 0), .lit (.int .u8 0)], .agg [.lit (.int .u8 0), .lit (.int .u8 0)], .agg [.lit (.int .u8 0), .lit (.int .u8 0)]]
/-- One of Go's own tables, pinned by name: the form's constant. -/
def laid_unicode_utf8_first : DataW Unit := Go.Pinned.utf8First

/-- 'frisketlaw06.RequestSplits': WHATEVER THE INPUT: true; the input reads as it did. -/
def requestSplitsSpec : ChangeSpec := { name := "requestSplits", fn := fun _ => fun
  | [d1, d2, d3] => { results := [.lit (.bool true)], args := [d1, d2, d3] }
  | _ => none }
def requestSplitsRow : OpenClaim := { program := "ytpeimnipoohaaaadoor", sum := "1eda16d0cbd040ff5a4880885de0a9f0d2388b1f13a2766e4092f1300de5a800", func := "frisket/frisketlaw06.RequestSplits", spec := "requestSplits", inPlace := ["internal/bytealg.IndexByteString", "internal/bytealg.IndexString"], named := ["internal/bytealg.MaxLen", "unicode/utf8.first", "unicode/utf8.acceptRanges"], apart := false, laid := [("unicode/utf8.acceptRanges", laid_unicode_utf8_acceptRanges), ("unicode/utf8.first", laid_unicode_utf8_first)] }
def RequestSplitsSaid : Prop := requestSplitsRow.holds Tryd.pinned (OpenSpec.ofChange requestSplitsSpec)

/-- ITS FALSE NEIGHBOUR: 'it returns false'. Refute it at one input. -/
def requestSplitsWrong : ChangeSpec := { name := "requestSplits", fn := fun _ => fun
  | [d1, d2, d3] => { results := [.lit (.bool false)], args := [d1, d2, d3] }
  | _ => none }
def RequestSplitsWrongFalsely : Prop := requestSplitsRow.holds Tryd.pinned (OpenSpec.ofChange requestSplitsWrong)

/-- 'frisketlaw06.RequestWords': WHATEVER THE INPUT: true; the input reads as it did. -/
def requestWordsSpec : ChangeSpec := { name := "requestWords", fn := fun _ => fun
  | [d] => { results := [.lit (.bool true)], args := [d] }
  | _ => none }
def requestWordsRow : OpenClaim := { program := "ytpeimnipoohaaaadoor", sum := "1eda16d0cbd040ff5a4880885de0a9f0d2388b1f13a2766e4092f1300de5a800", func := "frisket/frisketlaw06.RequestWords", spec := "requestWords", inPlace := ["internal/bytealg.IndexByteString", "internal/bytealg.IndexString"], named := ["internal/bytealg.MaxLen", "unicode/utf8.first", "unicode/utf8.acceptRanges"], apart := false, laid := [("unicode/utf8.acceptRanges", laid_unicode_utf8_acceptRanges), ("unicode/utf8.first", laid_unicode_utf8_first)] }
def RequestWordsSaid : Prop := requestWordsRow.holds Tryd.pinned (OpenSpec.ofChange requestWordsSpec)

/-- ITS FALSE NEIGHBOUR: 'it returns false'. Refute it at one input. -/
def requestWordsWrong : ChangeSpec := { name := "requestWords", fn := fun _ => fun
  | [d] => { results := [.lit (.bool false)], args := [d] }
  | _ => none }
def RequestWordsWrongFalsely : Prop := requestWordsRow.holds Tryd.pinned (OpenSpec.ofChange requestWordsWrong)

/-- 'frisketlaw06.RequestBraces': WHATEVER THE INPUT: true; the input reads as it did. -/
def requestBracesSpec : ChangeSpec := { name := "requestBraces", fn := fun _ => fun
  | [d1, d2, d3] => { results := [.lit (.bool true)], args := [d1, d2, d3] }
  | _ => none }
def requestBracesRow : OpenClaim := { program := "ytpeimnipoohaaaadoor", sum := "1eda16d0cbd040ff5a4880885de0a9f0d2388b1f13a2766e4092f1300de5a800", func := "frisket/frisketlaw06.RequestBraces", spec := "requestBraces", inPlace := ["internal/bytealg.IndexByteString", "internal/bytealg.IndexString"], named := ["internal/bytealg.MaxLen", "unicode/utf8.first", "unicode/utf8.acceptRanges"], apart := false, laid := [("unicode/utf8.acceptRanges", laid_unicode_utf8_acceptRanges), ("unicode/utf8.first", laid_unicode_utf8_first)] }
def RequestBracesSaid : Prop := requestBracesRow.holds Tryd.pinned (OpenSpec.ofChange requestBracesSpec)

/-- ITS FALSE NEIGHBOUR: 'it returns false'. Refute it at one input. -/
def requestBracesWrong : ChangeSpec := { name := "requestBraces", fn := fun _ => fun
  | [d1, d2, d3] => { results := [.lit (.bool false)], args := [d1, d2, d3] }
  | _ => none }
def RequestBracesWrongFalsely : Prop := requestBracesRow.holds Tryd.pinned (OpenSpec.ofChange requestBracesWrong)

/-- 'frisketlaw06.RequestConditions': WHATEVER THE INPUT: true; the input reads as it did. -/
def requestConditionsSpec : ChangeSpec := { name := "requestConditions", fn := fun _ => fun
  | [d1, d2] => { results := [.lit (.bool true)], args := [d1, d2] }
  | _ => none }
def requestConditionsRow : OpenClaim := { program := "ytpeimnipoohaaaadoor", sum := "1eda16d0cbd040ff5a4880885de0a9f0d2388b1f13a2766e4092f1300de5a800", func := "frisket/frisketlaw06.RequestConditions", spec := "requestConditions", inPlace := ["internal/bytealg.IndexByteString", "internal/bytealg.IndexString", "internal/bytealg.CountString"], unfollowed := true, recurses := true, named := ["internal/bytealg.MaxLen", "unicode/utf8.first", "unicode/utf8.acceptRanges"], apart := false, laid := [("unicode/utf8.acceptRanges", laid_unicode_utf8_acceptRanges), ("unicode/utf8.first", laid_unicode_utf8_first)] }
def RequestConditionsSaid : Prop := requestConditionsRow.holds Tryd.pinned (OpenSpec.ofChange requestConditionsSpec)

/-- ITS FALSE NEIGHBOUR: 'it returns false'. Refute it at one input. -/
def requestConditionsWrong : ChangeSpec := { name := "requestConditions", fn := fun _ => fun
  | [d1, d2] => { results := [.lit (.bool false)], args := [d1, d2] }
  | _ => none }
def RequestConditionsWrongFalsely : Prop := requestConditionsRow.holds Tryd.pinned (OpenSpec.ofChange requestConditionsWrong)

/-- 'frisketlaw06.RequestNots': WHATEVER THE INPUT: true; the input reads as it did. -/
def requestNotsSpec : ChangeSpec := { name := "requestNots", fn := fun _ => fun
  | [d] => { results := [.lit (.bool true)], args := [d] }
  | _ => none }
def requestNotsRow : OpenClaim := { program := "ytpeimnipoohaaaadoor", sum := "1eda16d0cbd040ff5a4880885de0a9f0d2388b1f13a2766e4092f1300de5a800", func := "frisket/frisketlaw06.RequestNots", spec := "requestNots", inPlace := ["internal/bytealg.IndexByteString", "internal/bytealg.IndexString", "internal/bytealg.CountString"], unfollowed := true, recurses := true, named := ["internal/bytealg.MaxLen", "unicode/utf8.first", "unicode/utf8.acceptRanges"], apart := false, laid := [("unicode/utf8.acceptRanges", laid_unicode_utf8_acceptRanges), ("unicode/utf8.first", laid_unicode_utf8_first)] }
def RequestNotsSaid : Prop := requestNotsRow.holds Tryd.pinned (OpenSpec.ofChange requestNotsSpec)

/-- ITS FALSE NEIGHBOUR: 'it returns false'. Refute it at one input. -/
def requestNotsWrong : ChangeSpec := { name := "requestNots", fn := fun _ => fun
  | [d] => { results := [.lit (.bool false)], args := [d] }
  | _ => none }
def RequestNotsWrongFalsely : Prop := requestNotsRow.holds Tryd.pinned (OpenSpec.ofChange requestNotsWrong)

/-- 'frisketlaw06.RequestWrites': WHATEVER THE INPUT: true; the input reads as it did. -/
def requestWritesSpec : ChangeSpec := { name := "requestWrites", fn := fun _ => fun
  | [d1, d2, d3] => { results := [.lit (.bool true)], args := [d1, d2, d3] }
  | _ => none }
def requestWritesRow : OpenClaim := { program := "ytpeimnipoohaaaadoor", sum := "1eda16d0cbd040ff5a4880885de0a9f0d2388b1f13a2766e4092f1300de5a800", func := "frisket/frisketlaw06.RequestWrites", spec := "requestWrites", inPlace := ["internal/bytealg.IndexByteString", "internal/bytealg.IndexString", "internal/bytealg.CountString", "internal/abi.NoEscape", "internal/bytealg.MakeNoZero"], named := ["internal/bytealg.MaxLen", "unicode/utf8.first", "unicode/utf8.acceptRanges"], apart := false, laid := [("unicode/utf8.acceptRanges", laid_unicode_utf8_acceptRanges), ("unicode/utf8.first", laid_unicode_utf8_first)] }
def RequestWritesSaid : Prop := requestWritesRow.holds Tryd.pinned (OpenSpec.ofChange requestWritesSpec)

/-- ITS FALSE NEIGHBOUR: 'it returns false'. Refute it at one input. -/
def requestWritesWrong : ChangeSpec := { name := "requestWrites", fn := fun _ => fun
  | [d1, d2, d3] => { results := [.lit (.bool false)], args := [d1, d2, d3] }
  | _ => none }
def RequestWritesWrongFalsely : Prop := requestWritesRow.holds Tryd.pinned (OpenSpec.ofChange requestWritesWrong)

/-- 'frisketlaw06.RequestBack': WHATEVER THE INPUT: true; the input reads as it did. -/
def requestBackSpec : ChangeSpec := { name := "requestBack", fn := fun _ => fun
  | [d1, d2] => { results := [.lit (.bool true)], args := [d1, d2] }
  | _ => none }
def requestBackRow : OpenClaim := { program := "ytpeimnipoohaaaadoor", sum := "1eda16d0cbd040ff5a4880885de0a9f0d2388b1f13a2766e4092f1300de5a800", func := "frisket/frisketlaw06.RequestBack", spec := "requestBack", inPlace := ["internal/bytealg.IndexByteString", "internal/bytealg.IndexString", "internal/bytealg.CountString", "internal/abi.NoEscape", "internal/bytealg.MakeNoZero"], named := ["internal/bytealg.MaxLen", "unicode/utf8.first", "unicode/utf8.acceptRanges"], apart := false, laid := [("unicode/utf8.acceptRanges", laid_unicode_utf8_acceptRanges), ("unicode/utf8.first", laid_unicode_utf8_first)] }
def RequestBackSaid : Prop := requestBackRow.holds Tryd.pinned (OpenSpec.ofChange requestBackSpec)

/-- ITS FALSE NEIGHBOUR: 'it returns false'. Refute it at one input. -/
def requestBackWrong : ChangeSpec := { name := "requestBack", fn := fun _ => fun
  | [d1, d2] => { results := [.lit (.bool false)], args := [d1, d2] }
  | _ => none }
def RequestBackWrongFalsely : Prop := requestBackRow.holds Tryd.pinned (OpenSpec.ofChange requestBackWrong)

/- THE SECOND FORM. 'bulk': how many values and letters a reading holds, each counted each time it is reached (what is shared counts as often as it is met; a slice's spare places count too). A statement '..UptoSaid' is the law's where the arguments, and the package variables that the reading takes, are together of bulk at most 1048576: NARROWER than '..Said'. Prove '..Said' where nothing that the law and all that it calls make is longer than what came in: it says more and counts as full. Else prove '..UptoSaid'. A law counts once. -/
mutual
def uptoBulk {H : Type} : DataW H → Nat
  | .lit (.string bytes) => bytes.length + 1
  | .lit _ => 1
  | .nil => 1
  | .ptr d => uptoBulk d + 1
  | .slice elems spare => uptoBulkAll elems + uptoBulkAll spare + 1
  | .agg parts => uptoBulkAll parts + 1
  | .iface _ d => uptoBulk d + 1
  | .map entries => uptoBulkEntries entries + 1
  | .held _ => 1
def uptoBulkAll {H : Type} : List (DataW H) → Nat
  | [] => 0
  | d :: r => uptoBulk d + uptoBulkAll r
def uptoBulkEntries {H : Type} : List (Lit × DataW H) → Nat
  | [] => 0
  | x :: r => uptoBulkEntry x + uptoBulkEntries r
def uptoBulkEntry {H : Type} : Lit × DataW H → Nat
  | (.string bytes, d) => bytes.length + uptoBulk d + 1
  | (_, d) => uptoBulk d + 1
 end
def uptoSmall : (H : Type) → List (DataW H) → Bool := fun _ ds => decide (uptoBulkAll ds ≤ 1048576)
def OpenSpec.upto (s : _root_.Go.ChangeSpec) : _root_.Go.OpenSpec := { _root_.Go.OpenSpec.ofChange s with cond := some uptoSmall }

/-- 'frisketlaw06.RequestSplits', WHERE WHAT IT READS IS OF BULK AT MOST 1048576: true; the input reads as it did. -/
def requestSplitsUptoRow : OpenClaim := { program := "ytpeimnipoohaaaadoor", sum := "1eda16d0cbd040ff5a4880885de0a9f0d2388b1f13a2766e4092f1300de5a800", func := "frisket/frisketlaw06.RequestSplits", spec := "requestSplits", inPlace := ["internal/bytealg.IndexByteString", "internal/bytealg.IndexString"], named := ["internal/bytealg.MaxLen", "unicode/utf8.first", "unicode/utf8.acceptRanges"], apart := false, laid := [("unicode/utf8.acceptRanges", laid_unicode_utf8_acceptRanges), ("unicode/utf8.first", laid_unicode_utf8_first)], narrowed := true }
def RequestSplitsUptoSaid : Prop := requestSplitsUptoRow.holds Tryd.pinned (OpenSpec.upto requestSplitsSpec)

/-- 'frisketlaw06.RequestWords', WHERE WHAT IT READS IS OF BULK AT MOST 1048576: true; the input reads as it did. -/
def requestWordsUptoRow : OpenClaim := { program := "ytpeimnipoohaaaadoor", sum := "1eda16d0cbd040ff5a4880885de0a9f0d2388b1f13a2766e4092f1300de5a800", func := "frisket/frisketlaw06.RequestWords", spec := "requestWords", inPlace := ["internal/bytealg.IndexByteString", "internal/bytealg.IndexString"], named := ["internal/bytealg.MaxLen", "unicode/utf8.first", "unicode/utf8.acceptRanges"], apart := false, laid := [("unicode/utf8.acceptRanges", laid_unicode_utf8_acceptRanges), ("unicode/utf8.first", laid_unicode_utf8_first)], narrowed := true }
def RequestWordsUptoSaid : Prop := requestWordsUptoRow.holds Tryd.pinned (OpenSpec.upto requestWordsSpec)

/-- 'frisketlaw06.RequestBraces', WHERE WHAT IT READS IS OF BULK AT MOST 1048576: true; the input reads as it did. -/
def requestBracesUptoRow : OpenClaim := { program := "ytpeimnipoohaaaadoor", sum := "1eda16d0cbd040ff5a4880885de0a9f0d2388b1f13a2766e4092f1300de5a800", func := "frisket/frisketlaw06.RequestBraces", spec := "requestBraces", inPlace := ["internal/bytealg.IndexByteString", "internal/bytealg.IndexString"], named := ["internal/bytealg.MaxLen", "unicode/utf8.first", "unicode/utf8.acceptRanges"], apart := false, laid := [("unicode/utf8.acceptRanges", laid_unicode_utf8_acceptRanges), ("unicode/utf8.first", laid_unicode_utf8_first)], narrowed := true }
def RequestBracesUptoSaid : Prop := requestBracesUptoRow.holds Tryd.pinned (OpenSpec.upto requestBracesSpec)

/-- 'frisketlaw06.RequestConditions', WHERE WHAT IT READS IS OF BULK AT MOST 1048576: true; the input reads as it did. -/
def requestConditionsUptoRow : OpenClaim := { program := "ytpeimnipoohaaaadoor", sum := "1eda16d0cbd040ff5a4880885de0a9f0d2388b1f13a2766e4092f1300de5a800", func := "frisket/frisketlaw06.RequestConditions", spec := "requestConditions", inPlace := ["internal/bytealg.IndexByteString", "internal/bytealg.IndexString", "internal/bytealg.CountString"], unfollowed := true, recurses := true, named := ["internal/bytealg.MaxLen", "unicode/utf8.first", "unicode/utf8.acceptRanges"], apart := false, laid := [("unicode/utf8.acceptRanges", laid_unicode_utf8_acceptRanges), ("unicode/utf8.first", laid_unicode_utf8_first)], narrowed := true }
def RequestConditionsUptoSaid : Prop := requestConditionsUptoRow.holds Tryd.pinned (OpenSpec.upto requestConditionsSpec)

/-- 'frisketlaw06.RequestNots', WHERE WHAT IT READS IS OF BULK AT MOST 1048576: true; the input reads as it did. -/
def requestNotsUptoRow : OpenClaim := { program := "ytpeimnipoohaaaadoor", sum := "1eda16d0cbd040ff5a4880885de0a9f0d2388b1f13a2766e4092f1300de5a800", func := "frisket/frisketlaw06.RequestNots", spec := "requestNots", inPlace := ["internal/bytealg.IndexByteString", "internal/bytealg.IndexString", "internal/bytealg.CountString"], unfollowed := true, recurses := true, named := ["internal/bytealg.MaxLen", "unicode/utf8.first", "unicode/utf8.acceptRanges"], apart := false, laid := [("unicode/utf8.acceptRanges", laid_unicode_utf8_acceptRanges), ("unicode/utf8.first", laid_unicode_utf8_first)], narrowed := true }
def RequestNotsUptoSaid : Prop := requestNotsUptoRow.holds Tryd.pinned (OpenSpec.upto requestNotsSpec)

/-- 'frisketlaw06.RequestWrites', WHERE WHAT IT READS IS OF BULK AT MOST 1048576: true; the input reads as it did. -/
def requestWritesUptoRow : OpenClaim := { program := "ytpeimnipoohaaaadoor", sum := "1eda16d0cbd040ff5a4880885de0a9f0d2388b1f13a2766e4092f1300de5a800", func := "frisket/frisketlaw06.RequestWrites", spec := "requestWrites", inPlace := ["internal/bytealg.IndexByteString", "internal/bytealg.IndexString", "internal/bytealg.CountString", "internal/abi.NoEscape", "internal/bytealg.MakeNoZero"], named := ["internal/bytealg.MaxLen", "unicode/utf8.first", "unicode/utf8.acceptRanges"], apart := false, laid := [("unicode/utf8.acceptRanges", laid_unicode_utf8_acceptRanges), ("unicode/utf8.first", laid_unicode_utf8_first)], narrowed := true }
def RequestWritesUptoSaid : Prop := requestWritesUptoRow.holds Tryd.pinned (OpenSpec.upto requestWritesSpec)

/-- 'frisketlaw06.RequestBack', WHERE WHAT IT READS IS OF BULK AT MOST 1048576: true; the input reads as it did. -/
def requestBackUptoRow : OpenClaim := { program := "ytpeimnipoohaaaadoor", sum := "1eda16d0cbd040ff5a4880885de0a9f0d2388b1f13a2766e4092f1300de5a800", func := "frisket/frisketlaw06.RequestBack", spec := "requestBack", inPlace := ["internal/bytealg.IndexByteString", "internal/bytealg.IndexString", "internal/bytealg.CountString", "internal/abi.NoEscape", "internal/bytealg.MakeNoZero"], named := ["internal/bytealg.MaxLen", "unicode/utf8.first", "unicode/utf8.acceptRanges"], apart := false, laid := [("unicode/utf8.acceptRanges", laid_unicode_utf8_acceptRanges), ("unicode/utf8.first", laid_unicode_utf8_first)], narrowed := true }
def RequestBackUptoSaid : Prop := requestBackUptoRow.holds Tryd.pinned (OpenSpec.upto requestBackSpec)

end Rows
end Go.Proofs.YtpeimnipoohaaaaDoor
