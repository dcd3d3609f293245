/-
  No cell of these rows narrows 'for every input' (looked for: loops, veiled, ifaces, maps, wideKeys, modest, calm, conditions, laid).
  DERIVED. THE GIVEN ROWS OF THIS SEAT. 5 by the template 'for every input the law returns true; each argument reads behind the call as it read before'; 0 by the template 'total and deterministic' (their statements: YtejocidipgfcjaaTotals.lean).
  GIVEN WITH THE SEED: the statements are not yours to turn. If you find one false, say at which input.
  Laid BY PROGRAM, IN A SANDBOX (cutbox-rows.mjs): the forced cells as the released guide's own fill.sh prints them over the translation a0f10559970c1fae… (all of the seat's roots in one cut). By AI agents, Wed Nov 11 2026. No macro, syntax, notation, axiom, sorry.
-/
import Derived.Test.YtejocidipgfcjaaChecked
import GoSem.Claim
import GoSem.ClaimJoined
import GoSem.ClaimMapViews
import Derived.JoinedTies
import Derived.KernelRfl
namespace Go.Proofs.Ytejocidipgfcjaa
/- THE CELL 'sum', in the pinned program and in every row, IS THE sha256 OF THE DUMP (.gsa) THAT YtejocidipgfcjaaProg.lean LOADS. Nothing in Lean hashes anything: it is a label: what it is worth is what the hold of that sum in a sandbox is worth. -/
noncomputable def Try.pinned : Pinned := { name := "ytejocidipgfcjaa", sum := "a0f10559970c1fae20d68ed3a9134782f4c3505871be48ad6d6be75ceff95a9a", checked := Try.checked }
namespace Rows
def none {H : Type} : Left H := { results := [], args := [] }

/-- 'frisketlaw31.TermNear': WHATEVER THE INPUT: true; the input reads as it did. -/
def termNearSpec : ChangeSpec := { name := "termNear", fn := fun _ => fun
  | [d] => { results := [.lit (.bool true)], args := [d] }
  | _ => none }
def termNearRow : OpenClaim := { program := "ytejocidipgfcjaa", sum := "a0f10559970c1fae20d68ed3a9134782f4c3505871be48ad6d6be75ceff95a9a", func := "frisket/frisketlaw31.TermNear", spec := "termNear", plainKeys := false, apart := false }
def TermNearSaid : Prop := termNearRow.holds Try.pinned (OpenSpec.ofChange termNearSpec)

/-- ITS FALSE NEIGHBOUR: 'it returns false'. Refute it at one input. -/
def termNearWrong : ChangeSpec := { name := "termNear", fn := fun _ => fun
  | [d] => { results := [.lit (.bool false)], args := [d] }
  | _ => none }
def TermNearWrongFalsely : Prop := termNearRow.holds Try.pinned (OpenSpec.ofChange termNearWrong)

/-- 'frisketlaw31.TermTexts': WHATEVER THE INPUT: true; the input reads as it did. -/
def termTextsSpec : ChangeSpec := { name := "termTexts", fn := fun _ => fun
  | [d1, d2, d3] => { results := [.lit (.bool true)], args := [d1, d2, d3] }
  | _ => none }
def termTextsRow : OpenClaim := { program := "ytejocidipgfcjaa", sum := "a0f10559970c1fae20d68ed3a9134782f4c3505871be48ad6d6be75ceff95a9a", func := "frisket/frisketlaw31.TermTexts", spec := "termTexts", plainKeys := false, apart := false }
def TermTextsSaid : Prop := termTextsRow.holds Try.pinned (OpenSpec.ofChange termTextsSpec)

/-- ITS FALSE NEIGHBOUR: 'it returns false'. Refute it at one input. -/
def termTextsWrong : ChangeSpec := { name := "termTexts", fn := fun _ => fun
  | [d1, d2, d3] => { results := [.lit (.bool false)], args := [d1, d2, d3] }
  | _ => none }
def TermTextsWrongFalsely : Prop := termTextsRow.holds Try.pinned (OpenSpec.ofChange termTextsWrong)

/-- 'frisketlaw31.TermGlyphs': WHATEVER THE INPUT: true; the input reads as it did. -/
def termGlyphsSpec : ChangeSpec := { name := "termGlyphs", fn := fun _ => fun
  | [d1, d2, d3] => { results := [.lit (.bool true)], args := [d1, d2, d3] }
  | _ => none }
def termGlyphsRow : OpenClaim := { program := "ytejocidipgfcjaa", sum := "a0f10559970c1fae20d68ed3a9134782f4c3505871be48ad6d6be75ceff95a9a", func := "frisket/frisketlaw31.TermGlyphs", spec := "termGlyphs", inPlace := ["internal/abi.NoEscape", "internal/bytealg.MakeNoZero"], unfollowed := true, recurses := true, plainKeys := false, apart := false }
def TermGlyphsSaid : Prop := termGlyphsRow.holds Try.pinned (OpenSpec.ofChange termGlyphsSpec)

/-- ITS FALSE NEIGHBOUR: 'it returns false'. Refute it at one input. -/
def termGlyphsWrong : ChangeSpec := { name := "termGlyphs", fn := fun _ => fun
  | [d1, d2, d3] => { results := [.lit (.bool false)], args := [d1, d2, d3] }
  | _ => none }
def TermGlyphsWrongFalsely : Prop := termGlyphsRow.holds Try.pinned (OpenSpec.ofChange termGlyphsWrong)

/-- 'frisketlaw31.TermRaw': WHATEVER THE INPUT: true; the input reads as it did. -/
def termRawSpec : ChangeSpec := { name := "termRaw", fn := fun _ => fun
  | [d] => { results := [.lit (.bool true)], args := [d] }
  | _ => none }
def termRawRow : OpenClaim := { program := "ytejocidipgfcjaa", sum := "a0f10559970c1fae20d68ed3a9134782f4c3505871be48ad6d6be75ceff95a9a", func := "frisket/frisketlaw31.TermRaw", spec := "termRaw", inPlace := ["internal/abi.NoEscape", "internal/bytealg.MakeNoZero"], unfollowed := true, recurses := true, plainKeys := false, apart := false }
def TermRawSaid : Prop := termRawRow.holds Try.pinned (OpenSpec.ofChange termRawSpec)

/-- ITS FALSE NEIGHBOUR: 'it returns false'. Refute it at one input. -/
def termRawWrong : ChangeSpec := { name := "termRaw", fn := fun _ => fun
  | [d] => { results := [.lit (.bool false)], args := [d] }
  | _ => none }
def TermRawWrongFalsely : Prop := termRawRow.holds Try.pinned (OpenSpec.ofChange termRawWrong)

/-- 'frisketlaw31.TermMade': WHATEVER THE INPUT: true; the input reads as it did. -/
def termMadeSpec : ChangeSpec := { name := "termMade", fn := fun _ => fun
  | [d] => { results := [.lit (.bool true)], args := [d] }
  | _ => none }
def termMadeRow : OpenClaim := { program := "ytejocidipgfcjaa", sum := "a0f10559970c1fae20d68ed3a9134782f4c3505871be48ad6d6be75ceff95a9a", func := "frisket/frisketlaw31.TermMade", spec := "termMade", inPlace := ["internal/abi.NoEscape", "internal/bytealg.MakeNoZero"], unfollowed := true, recurses := true, plainKeys := false, apart := false }
def TermMadeSaid : Prop := termMadeRow.holds Try.pinned (OpenSpec.ofChange termMadeSpec)

/-- ITS FALSE NEIGHBOUR: 'it returns false'. Refute it at one input. -/
def termMadeWrong : ChangeSpec := { name := "termMade", fn := fun _ => fun
  | [d] => { results := [.lit (.bool false)], args := [d] }
  | _ => none }
def TermMadeWrongFalsely : Prop := termMadeRow.holds Try.pinned (OpenSpec.ofChange termMadeWrong)

/- THE SECOND FORM. 'bulk': how many values and letters a reading holds, each counted each time it is reached (what is shared counts as often as it is met; a slice's spare places count too). A statement '..UptoSaid' is the law's where the arguments, and the package variables that the reading takes, are together of bulk at most 1048576: NARROWER than '..Said'. Prove '..Said' where nothing that the law and all that it calls make is longer than what came in: it says more and counts as full. Else prove '..UptoSaid'. A law counts once. -/
mutual
def uptoBulk {H : Type} : DataW H → Nat
  | .lit (.string bytes) => bytes.length + 1
  | .lit _ => 1
  | .nil => 1
  | .ptr d => uptoBulk d + 1
  | .slice elems spare => uptoBulkAll elems + uptoBulkAll spare + 1
  | .agg parts => uptoBulkAll parts + 1
  | .iface _ d => uptoBulk d + 1
  | .map entries => uptoBulkEntries entries + 1
  | .held _ => 1
def uptoBulkAll {H : Type} : List (DataW H) → Nat
  | [] => 0
  | d :: r => uptoBulk d + uptoBulkAll r
def uptoBulkEntries {H : Type} : List (Lit × DataW H) → Nat
  | [] => 0
  | x :: r => uptoBulkEntry x + uptoBulkEntries r
def uptoBulkEntry {H : Type} : Lit × DataW H → Nat
  | (.string bytes, d) => bytes.length + uptoBulk d + 1
  | (_, d) => uptoBulk d + 1
 end
def uptoSmall : (H : Type) → List (DataW H) → Bool := fun _ ds => decide (uptoBulkAll ds ≤ 1048576)
def OpenSpec.upto (s : _root_.Go.ChangeSpec) : _root_.Go.OpenSpec := { _root_.Go.OpenSpec.ofChange s with cond := some uptoSmall }

/-- 'frisketlaw31.TermNear', WHERE WHAT IT READS IS OF BULK AT MOST 1048576: true; the input reads as it did. -/
def termNearUptoRow : OpenClaim := { program := "ytejocidipgfcjaa", sum := "a0f10559970c1fae20d68ed3a9134782f4c3505871be48ad6d6be75ceff95a9a", func := "frisket/frisketlaw31.TermNear", spec := "termNear", plainKeys := false, apart := false, narrowed := true }
def TermNearUptoSaid : Prop := termNearUptoRow.holds Try.pinned (OpenSpec.upto termNearSpec)

/-- 'frisketlaw31.TermTexts', WHERE WHAT IT READS IS OF BULK AT MOST 1048576: true; the input reads as it did. -/
def termTextsUptoRow : OpenClaim := { program := "ytejocidipgfcjaa", sum := "a0f10559970c1fae20d68ed3a9134782f4c3505871be48ad6d6be75ceff95a9a", func := "frisket/frisketlaw31.TermTexts", spec := "termTexts", plainKeys := false, apart := false, narrowed := true }
def TermTextsUptoSaid : Prop := termTextsUptoRow.holds Try.pinned (OpenSpec.upto termTextsSpec)

/-- 'frisketlaw31.TermGlyphs', WHERE WHAT IT READS IS OF BULK AT MOST 1048576: true; the input reads as it did. -/
def termGlyphsUptoRow : OpenClaim := { program := "ytejocidipgfcjaa", sum := "a0f10559970c1fae20d68ed3a9134782f4c3505871be48ad6d6be75ceff95a9a", func := "frisket/frisketlaw31.TermGlyphs", spec := "termGlyphs", inPlace := ["internal/abi.NoEscape", "internal/bytealg.MakeNoZero"], unfollowed := true, recurses := true, plainKeys := false, apart := false, narrowed := true }
def TermGlyphsUptoSaid : Prop := termGlyphsUptoRow.holds Try.pinned (OpenSpec.upto termGlyphsSpec)

/-- 'frisketlaw31.TermRaw', WHERE WHAT IT READS IS OF BULK AT MOST 1048576: true; the input reads as it did. -/
def termRawUptoRow : OpenClaim := { program := "ytejocidipgfcjaa", sum := "a0f10559970c1fae20d68ed3a9134782f4c3505871be48ad6d6be75ceff95a9a", func := "frisket/frisketlaw31.TermRaw", spec := "termRaw", inPlace := ["internal/abi.NoEscape", "internal/bytealg.MakeNoZero"], unfollowed := true, recurses := true, plainKeys := false, apart := false, narrowed := true }
def TermRawUptoSaid : Prop := termRawUptoRow.holds Try.pinned (OpenSpec.upto termRawSpec)

/-- 'frisketlaw31.TermMade', WHERE WHAT IT READS IS OF BULK AT MOST 1048576: true; the input reads as it did. -/
def termMadeUptoRow : OpenClaim := { program := "ytejocidipgfcjaa", sum := "a0f10559970c1fae20d68ed3a9134782f4c3505871be48ad6d6be75ceff95a9a", func := "frisket/frisketlaw31.TermMade", spec := "termMade", inPlace := ["internal/abi.NoEscape", "internal/bytealg.MakeNoZero"], unfollowed := true, recurses := true, plainKeys := false, apart := false, narrowed := true }
def TermMadeUptoSaid : Prop := termMadeUptoRow.holds Try.pinned (OpenSpec.upto termMadeSpec)

end Rows
end Go.Proofs.Ytejocidipgfcjaa
