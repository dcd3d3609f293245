/-
  No cell of these rows narrows 'for every input' (looked for: loops, veiled, ifaces, maps, wideKeys, modest, calm, conditions, laid).
  DERIVED. THE GIVEN ROWS OF THIS SEAT. 3 by the template 'for every input the law returns true; each argument reads behind the call as it read before'; 0 by the template 'total and deterministic' (their statements: YtcnebeoodkeaoaaTotals.lean).
  GIVEN WITH THE SEED: the statements are not yours to turn. If you find one false, say at which input.
  Laid BY PROGRAM, IN A SANDBOX (cutbox-rows.mjs): the forced cells as the released guide's own fill.sh prints them over the translation f2dd25357c65bc76… (all of the seat's roots in one cut). By AI agents, Wed Nov 11 2026. No macro, syntax, notation, axiom, sorry.
-/
import Derived.Test.YtcnebeoodkeaoaaChecked
import GoSem.Claim
import GoSem.ClaimJoined
import GoSem.ClaimMapViews
import Derived.JoinedTies
import Derived.KernelRfl
namespace Go.Proofs.Ytcnebeoodkeaoaa
/- THE CELL 'sum', in the pinned program and in every row, IS THE sha256 OF THE DUMP (.gsa) THAT YtcnebeoodkeaoaaProg.lean LOADS. Nothing in Lean hashes anything: it is a label: what it is worth is what the hold of that sum in a sandbox is worth. -/
noncomputable def Try.pinned : Pinned := { name := "ytcnebeoodkeaoaa", sum := "f2dd25357c65bc768cb1b2fbd505a8ca944d21c13bdabe94dff048b58a9e3b0e", checked := Try.checked }
namespace Rows
def none {H : Type} : Left H := { results := [], args := [] }

/-- 'frisketlaw30.RasterCells': WHATEVER THE INPUT: true; the input reads as it did. -/
def rasterCellsSpec : ChangeSpec := { name := "rasterCells", fn := fun _ => fun
  | [d1, d2, d3] => { results := [.lit (.bool true)], args := [d1, d2, d3] }
  | _ => none }
def rasterCellsRow : OpenClaim := { program := "ytcnebeoodkeaoaa", sum := "f2dd25357c65bc768cb1b2fbd505a8ca944d21c13bdabe94dff048b58a9e3b0e", func := "frisket/frisketlaw30.RasterCells", spec := "rasterCells", apart := false }
def RasterCellsSaid : Prop := rasterCellsRow.holds Try.pinned (OpenSpec.ofChange rasterCellsSpec)

/-- ITS FALSE NEIGHBOUR: 'it returns false'. Refute it at one input. -/
def rasterCellsWrong : ChangeSpec := { name := "rasterCells", fn := fun _ => fun
  | [d1, d2, d3] => { results := [.lit (.bool false)], args := [d1, d2, d3] }
  | _ => none }
def RasterCellsWrongFalsely : Prop := rasterCellsRow.holds Try.pinned (OpenSpec.ofChange rasterCellsWrong)

/-- 'frisketlaw30.RasterLines': WHATEVER THE INPUT: true; the input reads as it did. -/
def rasterLinesSpec : ChangeSpec := { name := "rasterLines", fn := fun _ => fun
  | [d] => { results := [.lit (.bool true)], args := [d] }
  | _ => none }
def rasterLinesRow : OpenClaim := { program := "ytcnebeoodkeaoaa", sum := "f2dd25357c65bc768cb1b2fbd505a8ca944d21c13bdabe94dff048b58a9e3b0e", func := "frisket/frisketlaw30.RasterLines", spec := "rasterLines", unfollowed := true, recurses := true, apart := false }
def RasterLinesSaid : Prop := rasterLinesRow.holds Try.pinned (OpenSpec.ofChange rasterLinesSpec)

/-- ITS FALSE NEIGHBOUR: 'it returns false'. Refute it at one input. -/
def rasterLinesWrong : ChangeSpec := { name := "rasterLines", fn := fun _ => fun
  | [d] => { results := [.lit (.bool false)], args := [d] }
  | _ => none }
def RasterLinesWrongFalsely : Prop := rasterLinesRow.holds Try.pinned (OpenSpec.ofChange rasterLinesWrong)

/-- 'frisketlaw30.RasterNothing': WHATEVER THE INPUT: true; the input reads as it did. -/
def rasterNothingSpec : ChangeSpec := { name := "rasterNothing", fn := fun _ => fun
  | [d1, d2, d3] => { results := [.lit (.bool true)], args := [d1, d2, d3] }
  | _ => none }
def rasterNothingRow : OpenClaim := { program := "ytcnebeoodkeaoaa", sum := "f2dd25357c65bc768cb1b2fbd505a8ca944d21c13bdabe94dff048b58a9e3b0e", func := "frisket/frisketlaw30.RasterNothing", spec := "rasterNothing", inPlace := ["internal/abi.NoEscape", "internal/bytealg.MakeNoZero"], unfollowed := true, recurses := true, apart := false }
def RasterNothingSaid : Prop := rasterNothingRow.holds Try.pinned (OpenSpec.ofChange rasterNothingSpec)

/-- ITS FALSE NEIGHBOUR: 'it returns false'. Refute it at one input. -/
def rasterNothingWrong : ChangeSpec := { name := "rasterNothing", fn := fun _ => fun
  | [d1, d2, d3] => { results := [.lit (.bool false)], args := [d1, d2, d3] }
  | _ => none }
def RasterNothingWrongFalsely : Prop := rasterNothingRow.holds Try.pinned (OpenSpec.ofChange rasterNothingWrong)

/- THE SECOND FORM. 'bulk': how many values and letters a reading holds, each counted each time it is reached (what is shared counts as often as it is met; a slice's spare places count too). A statement '..UptoSaid' is the law's where the arguments, and the package variables that the reading takes, are together of bulk at most 1048576: NARROWER than '..Said'. Prove '..Said' where nothing that the law and all that it calls make is longer than what came in: it says more and counts as full. Else prove '..UptoSaid'. A law counts once. -/
mutual
def uptoBulk {H : Type} : DataW H → Nat
  | .lit (.string bytes) => bytes.length + 1
  | .lit _ => 1
  | .nil => 1
  | .ptr d => uptoBulk d + 1
  | .slice elems spare => uptoBulkAll elems + uptoBulkAll spare + 1
  | .agg parts => uptoBulkAll parts + 1
  | .iface _ d => uptoBulk d + 1
  | .map entries => uptoBulkEntries entries + 1
  | .held _ => 1
def uptoBulkAll {H : Type} : List (DataW H) → Nat
  | [] => 0
  | d :: r => uptoBulk d + uptoBulkAll r
def uptoBulkEntries {H : Type} : List (Lit × DataW H) → Nat
  | [] => 0
  | x :: r => uptoBulkEntry x + uptoBulkEntries r
def uptoBulkEntry {H : Type} : Lit × DataW H → Nat
  | (.string bytes, d) => bytes.length + uptoBulk d + 1
  | (_, d) => uptoBulk d + 1
 end
def uptoSmall : (H : Type) → List (DataW H) → Bool := fun _ ds => decide (uptoBulkAll ds ≤ 1048576)
def OpenSpec.upto (s : _root_.Go.ChangeSpec) : _root_.Go.OpenSpec := { _root_.Go.OpenSpec.ofChange s with cond := some uptoSmall }

/-- 'frisketlaw30.RasterCells', WHERE WHAT IT READS IS OF BULK AT MOST 1048576: true; the input reads as it did. -/
def rasterCellsUptoRow : OpenClaim := { program := "ytcnebeoodkeaoaa", sum := "f2dd25357c65bc768cb1b2fbd505a8ca944d21c13bdabe94dff048b58a9e3b0e", func := "frisket/frisketlaw30.RasterCells", spec := "rasterCells", apart := false, narrowed := true }
def RasterCellsUptoSaid : Prop := rasterCellsUptoRow.holds Try.pinned (OpenSpec.upto rasterCellsSpec)

/-- 'frisketlaw30.RasterLines', WHERE WHAT IT READS IS OF BULK AT MOST 1048576: true; the input reads as it did. -/
def rasterLinesUptoRow : OpenClaim := { program := "ytcnebeoodkeaoaa", sum := "f2dd25357c65bc768cb1b2fbd505a8ca944d21c13bdabe94dff048b58a9e3b0e", func := "frisket/frisketlaw30.RasterLines", spec := "rasterLines", unfollowed := true, recurses := true, apart := false, narrowed := true }
def RasterLinesUptoSaid : Prop := rasterLinesUptoRow.holds Try.pinned (OpenSpec.upto rasterLinesSpec)

/-- 'frisketlaw30.RasterNothing', WHERE WHAT IT READS IS OF BULK AT MOST 1048576: true; the input reads as it did. -/
def rasterNothingUptoRow : OpenClaim := { program := "ytcnebeoodkeaoaa", sum := "f2dd25357c65bc768cb1b2fbd505a8ca944d21c13bdabe94dff048b58a9e3b0e", func := "frisket/frisketlaw30.RasterNothing", spec := "rasterNothing", inPlace := ["internal/abi.NoEscape", "internal/bytealg.MakeNoZero"], unfollowed := true, recurses := true, apart := false, narrowed := true }
def RasterNothingUptoSaid : Prop := rasterNothingUptoRow.holds Try.pinned (OpenSpec.upto rasterNothingSpec)

end Rows
end Go.Proofs.Ytcnebeoodkeaoaa
