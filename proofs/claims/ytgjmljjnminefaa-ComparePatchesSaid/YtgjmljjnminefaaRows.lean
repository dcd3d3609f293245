/-
  No cell of these rows narrows 'for every input' (looked for: loops, veiled, ifaces, maps, wideKeys, modest, calm, conditions, laid).
  DERIVED. THE GIVEN ROWS OF THIS SEAT. 4 by the template 'for every input the law returns true; each argument reads behind the call as it read before'; 0 by the template 'total and deterministic' (their statements: YtgjmljjnminefaaTotals.lean).
  GIVEN WITH THE SEED: the statements are not yours to turn. If you find one false, say at which input.
  Laid BY PROGRAM, IN A SANDBOX (cutbox-rows.mjs): the forced cells as the released guide's own fill.sh prints them over the translation b6fa53b0fc5f655c… (all of the seat's roots in one cut). By AI agents, Wed Nov 11 2026. No macro, syntax, notation, axiom, sorry.
-/
import Derived.Test.YtgjmljjnminefaaChecked
import GoSem.Claim
import GoSem.ClaimJoined
import GoSem.ClaimMapViews
import Derived.JoinedTies
import Derived.KernelRfl
namespace Go.Proofs.Ytgjmljjnminefaa
/- THE CELL 'sum', in the pinned program and in every row, IS THE sha256 OF THE DUMP (.gsa) THAT YtgjmljjnminefaaProg.lean LOADS. Nothing in Lean hashes anything: it is a label: what it is worth is what the hold of that sum in a sandbox is worth. -/
noncomputable def Try.pinned : Pinned := { name := "ytgjmljjnminefaa", sum := "b6fa53b0fc5f655c707577e0375d7dfacbd368cd477c665a5dbd7eb17266fffd", checked := Try.checked }
namespace Rows
def none {H : Type} : Left H := { results := [], args := [] }

/-- 'frisketlaw36.ComparePages': WHATEVER THE INPUT: true; the input reads as it did. -/
def comparePagesSpec : ChangeSpec := { name := "comparePages", fn := fun _ => fun
  | [d1, d2, d3] => { results := [.lit (.bool true)], args := [d1, d2, d3] }
  | _ => none }
def comparePagesRow : OpenClaim := { program := "ytgjmljjnminefaa", sum := "b6fa53b0fc5f655c707577e0375d7dfacbd368cd477c665a5dbd7eb17266fffd", func := "frisket/frisketlaw36.ComparePages", spec := "comparePages", unfollowed := true, recurses := true, apart := false }
def ComparePagesSaid : Prop := comparePagesRow.holds Try.pinned (OpenSpec.ofChange comparePagesSpec)

/-- ITS FALSE NEIGHBOUR: 'it returns false'. Refute it at one input. -/
def comparePagesWrong : ChangeSpec := { name := "comparePages", fn := fun _ => fun
  | [d1, d2, d3] => { results := [.lit (.bool false)], args := [d1, d2, d3] }
  | _ => none }
def ComparePagesWrongFalsely : Prop := comparePagesRow.holds Try.pinned (OpenSpec.ofChange comparePagesWrong)

/-- 'frisketlaw36.ComparePatches': WHATEVER THE INPUT: true; the input reads as it did. -/
def comparePatchesSpec : ChangeSpec := { name := "comparePatches", fn := fun _ => fun
  | [d1, d2, d3] => { results := [.lit (.bool true)], args := [d1, d2, d3] }
  | _ => none }
def comparePatchesRow : OpenClaim := { program := "ytgjmljjnminefaa", sum := "b6fa53b0fc5f655c707577e0375d7dfacbd368cd477c665a5dbd7eb17266fffd", func := "frisket/frisketlaw36.ComparePatches", spec := "comparePatches", unfollowed := true, recurses := true, apart := false }
def ComparePatchesSaid : Prop := comparePatchesRow.holds Try.pinned (OpenSpec.ofChange comparePatchesSpec)

/-- ITS FALSE NEIGHBOUR: 'it returns false'. Refute it at one input. -/
def comparePatchesWrong : ChangeSpec := { name := "comparePatches", fn := fun _ => fun
  | [d1, d2, d3] => { results := [.lit (.bool false)], args := [d1, d2, d3] }
  | _ => none }
def ComparePatchesWrongFalsely : Prop := comparePatchesRow.holds Try.pinned (OpenSpec.ofChange comparePatchesWrong)

/-- 'frisketlaw36.CompareBetter': WHATEVER THE INPUT: true; the input reads as it did. -/
def compareBetterSpec : ChangeSpec := { name := "compareBetter", fn := fun _ => fun
  | [d1, d2, d3] => { results := [.lit (.bool true)], args := [d1, d2, d3] }
  | _ => none }
def compareBetterRow : OpenClaim := { program := "ytgjmljjnminefaa", sum := "b6fa53b0fc5f655c707577e0375d7dfacbd368cd477c665a5dbd7eb17266fffd", func := "frisket/frisketlaw36.CompareBetter", spec := "compareBetter", unfollowed := true, recurses := true, apart := false }
def CompareBetterSaid : Prop := compareBetterRow.holds Try.pinned (OpenSpec.ofChange compareBetterSpec)

/-- ITS FALSE NEIGHBOUR: 'it returns false'. Refute it at one input. -/
def compareBetterWrong : ChangeSpec := { name := "compareBetter", fn := fun _ => fun
  | [d1, d2, d3] => { results := [.lit (.bool false)], args := [d1, d2, d3] }
  | _ => none }
def CompareBetterWrongFalsely : Prop := compareBetterRow.holds Try.pinned (OpenSpec.ofChange compareBetterWrong)

/-- 'frisketlaw36.CompareApplies': WHATEVER THE INPUT: true; the input reads as it did. -/
def compareAppliesSpec : ChangeSpec := { name := "compareApplies", fn := fun _ => fun
  | [d1, d2, d3] => { results := [.lit (.bool true)], args := [d1, d2, d3] }
  | _ => none }
def compareAppliesRow : OpenClaim := { program := "ytgjmljjnminefaa", sum := "b6fa53b0fc5f655c707577e0375d7dfacbd368cd477c665a5dbd7eb17266fffd", func := "frisket/frisketlaw36.CompareApplies", spec := "compareApplies", unfollowed := true, recurses := true, apart := false }
def CompareAppliesSaid : Prop := compareAppliesRow.holds Try.pinned (OpenSpec.ofChange compareAppliesSpec)

/-- ITS FALSE NEIGHBOUR: 'it returns false'. Refute it at one input. -/
def compareAppliesWrong : ChangeSpec := { name := "compareApplies", fn := fun _ => fun
  | [d1, d2, d3] => { results := [.lit (.bool false)], args := [d1, d2, d3] }
  | _ => none }
def CompareAppliesWrongFalsely : Prop := compareAppliesRow.holds Try.pinned (OpenSpec.ofChange compareAppliesWrong)

/- THE SECOND FORM. 'bulk': how many values and letters a reading holds, each counted each time it is reached (what is shared counts as often as it is met; a slice's spare places count too). A statement '..UptoSaid' is the law's where the arguments, and the package variables that the reading takes, are together of bulk at most 1048576: NARROWER than '..Said'. Prove '..Said' where nothing that the law and all that it calls make is longer than what came in: it says more and counts as full. Else prove '..UptoSaid'. A law counts once. -/
mutual
def uptoBulk {H : Type} : DataW H → Nat
  | .lit (.string bytes) => bytes.length + 1
  | .lit _ => 1
  | .nil => 1
  | .ptr d => uptoBulk d + 1
  | .slice elems spare => uptoBulkAll elems + uptoBulkAll spare + 1
  | .agg parts => uptoBulkAll parts + 1
  | .iface _ d => uptoBulk d + 1
  | .map entries => uptoBulkEntries entries + 1
  | .held _ => 1
def uptoBulkAll {H : Type} : List (DataW H) → Nat
  | [] => 0
  | d :: r => uptoBulk d + uptoBulkAll r
def uptoBulkEntries {H : Type} : List (Lit × DataW H) → Nat
  | [] => 0
  | x :: r => uptoBulkEntry x + uptoBulkEntries r
def uptoBulkEntry {H : Type} : Lit × DataW H → Nat
  | (.string bytes, d) => bytes.length + uptoBulk d + 1
  | (_, d) => uptoBulk d + 1
 end
def uptoSmall : (H : Type) → List (DataW H) → Bool := fun _ ds => decide (uptoBulkAll ds ≤ 1048576)
def OpenSpec.upto (s : _root_.Go.ChangeSpec) : _root_.Go.OpenSpec := { _root_.Go.OpenSpec.ofChange s with cond := some uptoSmall }

/-- 'frisketlaw36.ComparePages', WHERE WHAT IT READS IS OF BULK AT MOST 1048576: true; the input reads as it did. -/
def comparePagesUptoRow : OpenClaim := { program := "ytgjmljjnminefaa", sum := "b6fa53b0fc5f655c707577e0375d7dfacbd368cd477c665a5dbd7eb17266fffd", func := "frisket/frisketlaw36.ComparePages", spec := "comparePages", unfollowed := true, recurses := true, apart := false, narrowed := true }
def ComparePagesUptoSaid : Prop := comparePagesUptoRow.holds Try.pinned (OpenSpec.upto comparePagesSpec)

/-- 'frisketlaw36.ComparePatches', WHERE WHAT IT READS IS OF BULK AT MOST 1048576: true; the input reads as it did. -/
def comparePatchesUptoRow : OpenClaim := { program := "ytgjmljjnminefaa", sum := "b6fa53b0fc5f655c707577e0375d7dfacbd368cd477c665a5dbd7eb17266fffd", func := "frisket/frisketlaw36.ComparePatches", spec := "comparePatches", unfollowed := true, recurses := true, apart := false, narrowed := true }
def ComparePatchesUptoSaid : Prop := comparePatchesUptoRow.holds Try.pinned (OpenSpec.upto comparePatchesSpec)

/-- 'frisketlaw36.CompareBetter', WHERE WHAT IT READS IS OF BULK AT MOST 1048576: true; the input reads as it did. -/
def compareBetterUptoRow : OpenClaim := { program := "ytgjmljjnminefaa", sum := "b6fa53b0fc5f655c707577e0375d7dfacbd368cd477c665a5dbd7eb17266fffd", func := "frisket/frisketlaw36.CompareBetter", spec := "compareBetter", unfollowed := true, recurses := true, apart := false, narrowed := true }
def CompareBetterUptoSaid : Prop := compareBetterUptoRow.holds Try.pinned (OpenSpec.upto compareBetterSpec)

/-- 'frisketlaw36.CompareApplies', WHERE WHAT IT READS IS OF BULK AT MOST 1048576: true; the input reads as it did. -/
def compareAppliesUptoRow : OpenClaim := { program := "ytgjmljjnminefaa", sum := "b6fa53b0fc5f655c707577e0375d7dfacbd368cd477c665a5dbd7eb17266fffd", func := "frisket/frisketlaw36.CompareApplies", spec := "compareApplies", unfollowed := true, recurses := true, apart := false, narrowed := true }
def CompareAppliesUptoSaid : Prop := compareAppliesUptoRow.holds Try.pinned (OpenSpec.upto compareAppliesSpec)

end Rows
end Go.Proofs.Ytgjmljjnminefaa
