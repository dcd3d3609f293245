/-
  No cell of these rows narrows 'for every input' (looked for: loops, veiled, ifaces, maps, wideKeys, modest, calm, conditions, laid).
  DERIVED. THE GIVEN ROWS OF THIS SEAT. 3 by the template 'for every input the law returns true; each argument reads behind the call as it read before'; 0 by the template 'total and deterministic' (their statements: YtfpcejkjabmeeaaTotals.lean).
  GIVEN WITH THE SEED: the statements are not yours to turn. If you find one false, say at which input.
  Laid BY PROGRAM, IN A SANDBOX (cutbox-rows.mjs): the forced cells as the released guide's own fill.sh prints them over the translation a6889fc04264fa80… (all of the seat's roots in one cut). By AI agents, Wed Nov 11 2026. No macro, syntax, notation, axiom, sorry.
-/
import Derived.Test.YtfpcejkjabmeeaaChecked
import GoSem.Claim
import GoSem.ClaimJoined
import GoSem.ClaimMapViews
import Derived.JoinedTies
import Derived.KernelRfl
namespace Go.Proofs.Ytfpcejkjabmeeaa
/- THE CELL 'sum', in the pinned program and in every row, IS THE sha256 OF THE DUMP (.gsa) THAT YtfpcejkjabmeeaaProg.lean LOADS. Nothing in Lean hashes anything: it is a label: what it is worth is what the hold of that sum in a sandbox is worth. -/
noncomputable def Try.pinned : Pinned := { name := "ytfpcejkjabmeeaa", sum := "a6889fc04264fa80d9699448aadb6706457cc31d8cfdfcb41ef3d5f0e3273748", checked := Try.checked }
namespace Rows
def none {H : Type} : Left H := { results := [], args := [] }

/-- 'frisketlaw19.CurveRound': WHATEVER THE INPUT: true; the input reads as it did. -/
def curveRoundSpec : ChangeSpec := { name := "curveRound", fn := fun _ => fun
  | [d1, d2] => { results := [.lit (.bool true)], args := [d1, d2] }
  | _ => none }
def curveRoundRow : OpenClaim := { program := "ytfpcejkjabmeeaa", sum := "a6889fc04264fa80d9699448aadb6706457cc31d8cfdfcb41ef3d5f0e3273748", func := "frisket/frisketlaw19.CurveRound", spec := "curveRound", unfollowed := true, recurses := true, apart := false }
def CurveRoundSaid : Prop := curveRoundRow.holds Try.pinned (OpenSpec.ofChange curveRoundSpec)

/-- ITS FALSE NEIGHBOUR: 'it returns false'. Refute it at one input. -/
def curveRoundWrong : ChangeSpec := { name := "curveRound", fn := fun _ => fun
  | [d1, d2] => { results := [.lit (.bool false)], args := [d1, d2] }
  | _ => none }
def CurveRoundWrongFalsely : Prop := curveRoundRow.holds Try.pinned (OpenSpec.ofChange curveRoundWrong)

/-- 'frisketlaw19.CurveInside': WHATEVER THE INPUT: true; the input reads as it did. -/
def curveInsideSpec : ChangeSpec := { name := "curveInside", fn := fun _ => fun
  | [d1, d2] => { results := [.lit (.bool true)], args := [d1, d2] }
  | _ => none }
def curveInsideRow : OpenClaim := { program := "ytfpcejkjabmeeaa", sum := "a6889fc04264fa80d9699448aadb6706457cc31d8cfdfcb41ef3d5f0e3273748", func := "frisket/frisketlaw19.CurveInside", spec := "curveInside", unfollowed := true, recurses := true, apart := false }
def CurveInsideSaid : Prop := curveInsideRow.holds Try.pinned (OpenSpec.ofChange curveInsideSpec)

/-- ITS FALSE NEIGHBOUR: 'it returns false'. Refute it at one input. -/
def curveInsideWrong : ChangeSpec := { name := "curveInside", fn := fun _ => fun
  | [d1, d2] => { results := [.lit (.bool false)], args := [d1, d2] }
  | _ => none }
def CurveInsideWrongFalsely : Prop := curveInsideRow.holds Try.pinned (OpenSpec.ofChange curveInsideWrong)

/-- 'frisketlaw19.CurveBoxes': WHATEVER THE INPUT: true; the input reads as it did. -/
def curveBoxesSpec : ChangeSpec := { name := "curveBoxes", fn := fun _ => fun
  | [d] => { results := [.lit (.bool true)], args := [d] }
  | _ => none }
def curveBoxesRow : OpenClaim := { program := "ytfpcejkjabmeeaa", sum := "a6889fc04264fa80d9699448aadb6706457cc31d8cfdfcb41ef3d5f0e3273748", func := "frisket/frisketlaw19.CurveBoxes", spec := "curveBoxes", unfollowed := true, recurses := true, apart := false }
def CurveBoxesSaid : Prop := curveBoxesRow.holds Try.pinned (OpenSpec.ofChange curveBoxesSpec)

/-- ITS FALSE NEIGHBOUR: 'it returns false'. Refute it at one input. -/
def curveBoxesWrong : ChangeSpec := { name := "curveBoxes", fn := fun _ => fun
  | [d] => { results := [.lit (.bool false)], args := [d] }
  | _ => none }
def CurveBoxesWrongFalsely : Prop := curveBoxesRow.holds Try.pinned (OpenSpec.ofChange curveBoxesWrong)

/- THE SECOND FORM. 'bulk': how many values and letters a reading holds, each counted each time it is reached (what is shared counts as often as it is met; a slice's spare places count too). A statement '..UptoSaid' is the law's where the arguments, and the package variables that the reading takes, are together of bulk at most 1048576: NARROWER than '..Said'. Prove '..Said' where nothing that the law and all that it calls make is longer than what came in: it says more and counts as full. Else prove '..UptoSaid'. A law counts once. -/
mutual
def uptoBulk {H : Type} : DataW H → Nat
  | .lit (.string bytes) => bytes.length + 1
  | .lit _ => 1
  | .nil => 1
  | .ptr d => uptoBulk d + 1
  | .slice elems spare => uptoBulkAll elems + uptoBulkAll spare + 1
  | .agg parts => uptoBulkAll parts + 1
  | .iface _ d => uptoBulk d + 1
  | .map entries => uptoBulkEntries entries + 1
  | .held _ => 1
def uptoBulkAll {H : Type} : List (DataW H) → Nat
  | [] => 0
  | d :: r => uptoBulk d + uptoBulkAll r
def uptoBulkEntries {H : Type} : List (Lit × DataW H) → Nat
  | [] => 0
  | x :: r => uptoBulkEntry x + uptoBulkEntries r
def uptoBulkEntry {H : Type} : Lit × DataW H → Nat
  | (.string bytes, d) => bytes.length + uptoBulk d + 1
  | (_, d) => uptoBulk d + 1
 end
def uptoSmall : (H : Type) → List (DataW H) → Bool := fun _ ds => decide (uptoBulkAll ds ≤ 1048576)
def OpenSpec.upto (s : _root_.Go.ChangeSpec) : _root_.Go.OpenSpec := { _root_.Go.OpenSpec.ofChange s with cond := some uptoSmall }

/-- 'frisketlaw19.CurveRound', WHERE WHAT IT READS IS OF BULK AT MOST 1048576: true; the input reads as it did. -/
def curveRoundUptoRow : OpenClaim := { program := "ytfpcejkjabmeeaa", sum := "a6889fc04264fa80d9699448aadb6706457cc31d8cfdfcb41ef3d5f0e3273748", func := "frisket/frisketlaw19.CurveRound", spec := "curveRound", unfollowed := true, recurses := true, apart := false, narrowed := true }
def CurveRoundUptoSaid : Prop := curveRoundUptoRow.holds Try.pinned (OpenSpec.upto curveRoundSpec)

/-- 'frisketlaw19.CurveInside', WHERE WHAT IT READS IS OF BULK AT MOST 1048576: true; the input reads as it did. -/
def curveInsideUptoRow : OpenClaim := { program := "ytfpcejkjabmeeaa", sum := "a6889fc04264fa80d9699448aadb6706457cc31d8cfdfcb41ef3d5f0e3273748", func := "frisket/frisketlaw19.CurveInside", spec := "curveInside", unfollowed := true, recurses := true, apart := false, narrowed := true }
def CurveInsideUptoSaid : Prop := curveInsideUptoRow.holds Try.pinned (OpenSpec.upto curveInsideSpec)

/-- 'frisketlaw19.CurveBoxes', WHERE WHAT IT READS IS OF BULK AT MOST 1048576: true; the input reads as it did. -/
def curveBoxesUptoRow : OpenClaim := { program := "ytfpcejkjabmeeaa", sum := "a6889fc04264fa80d9699448aadb6706457cc31d8cfdfcb41ef3d5f0e3273748", func := "frisket/frisketlaw19.CurveBoxes", spec := "curveBoxes", unfollowed := true, recurses := true, apart := false, narrowed := true }
def CurveBoxesUptoSaid : Prop := curveBoxesUptoRow.holds Try.pinned (OpenSpec.upto curveBoxesSpec)

end Rows
end Go.Proofs.Ytfpcejkjabmeeaa
