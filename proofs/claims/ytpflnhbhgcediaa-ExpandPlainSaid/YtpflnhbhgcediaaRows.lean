/-
  No cell of these rows narrows 'for every input' (looked for: loops, veiled, ifaces, maps, wideKeys, modest, calm, conditions, laid).
  DERIVED. THE GIVEN ROWS OF THIS SEAT. 4 by the template 'for every input the law returns true; each argument reads behind the call as it read before'; 0 by the template 'total and deterministic' (their statements: YtpflnhbhgcediaaTotals.lean).
  GIVEN WITH THE SEED: the statements are not yours to turn. If you find one false, say at which input.
  Laid BY PROGRAM, IN A SANDBOX (cutbox-rows.mjs): the forced cells as the released guide's own fill.sh prints them over the translation 484a7be702b0c955… (all of the seat's roots in one cut). By AI agents, Wed Nov 11 2026. No macro, syntax, notation, axiom, sorry.
-/
import Derived.Test.YtpflnhbhgcediaaChecked
import GoSem.Claim
import GoSem.ClaimJoined
import GoSem.ClaimMapViews
import Derived.JoinedTies
import Derived.KernelRfl
namespace Go.Proofs.Ytpflnhbhgcediaa
/- THE CELL 'sum', in the pinned program and in every row, IS THE sha256 OF THE DUMP (.gsa) THAT YtpflnhbhgcediaaProg.lean LOADS. Nothing in Lean hashes anything: it is a label: what it is worth is what the hold of that sum in a sandbox is worth. -/
noncomputable def Try.pinned : Pinned := { name := "ytpflnhbhgcediaa", sum := "484a7be702b0c9552f57206212d9c178144ff4740ba9645f9764c300696a57d6", checked := Try.checked }
namespace Rows
def none {H : Type} : Left H := { results := [], args := [] }

/-- 'frisketlaw04.ExpandDoes': WHATEVER THE INPUT: true; the input reads as it did. -/
def expandDoesSpec : ChangeSpec := { name := "expandDoes", fn := fun _ => fun
  | [d1, d2, d3] => { results := [.lit (.bool true)], args := [d1, d2, d3] }
  | _ => none }
def expandDoesRow : OpenClaim := { program := "ytpflnhbhgcediaa", sum := "484a7be702b0c9552f57206212d9c178144ff4740ba9645f9764c300696a57d6", func := "frisket/frisketlaw04.ExpandDoes", spec := "expandDoes", inPlace := ["internal/bytealg.IndexByteString", "internal/bytealg.IndexString", "internal/abi.NoEscape"], unfollowed := true, recurses := true, named := ["internal/bytealg.MaxLen"], apart := false }
def ExpandDoesSaid : Prop := expandDoesRow.holds Try.pinned (OpenSpec.ofChange expandDoesSpec)

/-- ITS FALSE NEIGHBOUR: 'it returns false'. Refute it at one input. -/
def expandDoesWrong : ChangeSpec := { name := "expandDoes", fn := fun _ => fun
  | [d1, d2, d3] => { results := [.lit (.bool false)], args := [d1, d2, d3] }
  | _ => none }
def ExpandDoesWrongFalsely : Prop := expandDoesRow.holds Try.pinned (OpenSpec.ofChange expandDoesWrong)

/-- 'frisketlaw04.ExpandBits': WHATEVER THE INPUT: true; the input reads as it did. -/
def expandBitsSpec : ChangeSpec := { name := "expandBits", fn := fun _ => fun
  | [d1, d2, d3] => { results := [.lit (.bool true)], args := [d1, d2, d3] }
  | _ => none }
def expandBitsRow : OpenClaim := { program := "ytpflnhbhgcediaa", sum := "484a7be702b0c9552f57206212d9c178144ff4740ba9645f9764c300696a57d6", func := "frisket/frisketlaw04.ExpandBits", spec := "expandBits", inPlace := ["internal/bytealg.IndexByteString", "internal/bytealg.IndexString", "internal/abi.NoEscape"], unfollowed := true, recurses := true, named := ["internal/bytealg.MaxLen"], apart := false }
def ExpandBitsSaid : Prop := expandBitsRow.holds Try.pinned (OpenSpec.ofChange expandBitsSpec)

/-- ITS FALSE NEIGHBOUR: 'it returns false'. Refute it at one input. -/
def expandBitsWrong : ChangeSpec := { name := "expandBits", fn := fun _ => fun
  | [d1, d2, d3] => { results := [.lit (.bool false)], args := [d1, d2, d3] }
  | _ => none }
def ExpandBitsWrongFalsely : Prop := expandBitsRow.holds Try.pinned (OpenSpec.ofChange expandBitsWrong)

/-- 'frisketlaw04.ExpandNil': WHATEVER THE INPUT: true; the input reads as it did. -/
def expandNilSpec : ChangeSpec := { name := "expandNil", fn := fun _ => fun
  | [d1, d2] => { results := [.lit (.bool true)], args := [d1, d2] }
  | _ => none }
def expandNilRow : OpenClaim := { program := "ytpflnhbhgcediaa", sum := "484a7be702b0c9552f57206212d9c178144ff4740ba9645f9764c300696a57d6", func := "frisket/frisketlaw04.ExpandNil", spec := "expandNil", inPlace := ["internal/bytealg.IndexByteString", "internal/bytealg.IndexString", "internal/abi.NoEscape"], unfollowed := true, recurses := true, named := ["internal/bytealg.MaxLen"], apart := false }
def ExpandNilSaid : Prop := expandNilRow.holds Try.pinned (OpenSpec.ofChange expandNilSpec)

/-- ITS FALSE NEIGHBOUR: 'it returns false'. Refute it at one input. -/
def expandNilWrong : ChangeSpec := { name := "expandNil", fn := fun _ => fun
  | [d1, d2] => { results := [.lit (.bool false)], args := [d1, d2] }
  | _ => none }
def ExpandNilWrongFalsely : Prop := expandNilRow.holds Try.pinned (OpenSpec.ofChange expandNilWrong)

/-- 'frisketlaw04.ExpandPlain': WHATEVER THE INPUT: true; the input reads as it did. -/
def expandPlainSpec : ChangeSpec := { name := "expandPlain", fn := fun _ => fun
  | [d] => { results := [.lit (.bool true)], args := [d] }
  | _ => none }
def expandPlainRow : OpenClaim := { program := "ytpflnhbhgcediaa", sum := "484a7be702b0c9552f57206212d9c178144ff4740ba9645f9764c300696a57d6", func := "frisket/frisketlaw04.ExpandPlain", spec := "expandPlain", inPlace := ["internal/bytealg.IndexByteString", "internal/bytealg.IndexString", "internal/abi.NoEscape"], unfollowed := true, recurses := true, named := ["internal/bytealg.MaxLen"], apart := false }
def ExpandPlainSaid : Prop := expandPlainRow.holds Try.pinned (OpenSpec.ofChange expandPlainSpec)

/-- ITS FALSE NEIGHBOUR: 'it returns false'. Refute it at one input. -/
def expandPlainWrong : ChangeSpec := { name := "expandPlain", fn := fun _ => fun
  | [d] => { results := [.lit (.bool false)], args := [d] }
  | _ => none }
def ExpandPlainWrongFalsely : Prop := expandPlainRow.holds Try.pinned (OpenSpec.ofChange expandPlainWrong)

/- THE SECOND FORM. 'bulk': how many values and letters a reading holds, each counted each time it is reached (what is shared counts as often as it is met; a slice's spare places count too). A statement '..UptoSaid' is the law's where the arguments, and the package variables that the reading takes, are together of bulk at most 1048576: NARROWER than '..Said'. Prove '..Said' where nothing that the law and all that it calls make is longer than what came in: it says more and counts as full. Else prove '..UptoSaid'. A law counts once. -/
mutual
def uptoBulk {H : Type} : DataW H → Nat
  | .lit (.string bytes) => bytes.length + 1
  | .lit _ => 1
  | .nil => 1
  | .ptr d => uptoBulk d + 1
  | .slice elems spare => uptoBulkAll elems + uptoBulkAll spare + 1
  | .agg parts => uptoBulkAll parts + 1
  | .iface _ d => uptoBulk d + 1
  | .map entries => uptoBulkEntries entries + 1
  | .held _ => 1
def uptoBulkAll {H : Type} : List (DataW H) → Nat
  | [] => 0
  | d :: r => uptoBulk d + uptoBulkAll r
def uptoBulkEntries {H : Type} : List (Lit × DataW H) → Nat
  | [] => 0
  | x :: r => uptoBulkEntry x + uptoBulkEntries r
def uptoBulkEntry {H : Type} : Lit × DataW H → Nat
  | (.string bytes, d) => bytes.length + uptoBulk d + 1
  | (_, d) => uptoBulk d + 1
 end
def uptoSmall : (H : Type) → List (DataW H) → Bool := fun _ ds => decide (uptoBulkAll ds ≤ 1048576)
def OpenSpec.upto (s : _root_.Go.ChangeSpec) : _root_.Go.OpenSpec := { _root_.Go.OpenSpec.ofChange s with cond := some uptoSmall }

/-- 'frisketlaw04.ExpandDoes', WHERE WHAT IT READS IS OF BULK AT MOST 1048576: true; the input reads as it did. -/
def expandDoesUptoRow : OpenClaim := { program := "ytpflnhbhgcediaa", sum := "484a7be702b0c9552f57206212d9c178144ff4740ba9645f9764c300696a57d6", func := "frisket/frisketlaw04.ExpandDoes", spec := "expandDoes", inPlace := ["internal/bytealg.IndexByteString", "internal/bytealg.IndexString", "internal/abi.NoEscape"], unfollowed := true, recurses := true, named := ["internal/bytealg.MaxLen"], apart := false, narrowed := true }
def ExpandDoesUptoSaid : Prop := expandDoesUptoRow.holds Try.pinned (OpenSpec.upto expandDoesSpec)

/-- 'frisketlaw04.ExpandBits', WHERE WHAT IT READS IS OF BULK AT MOST 1048576: true; the input reads as it did. -/
def expandBitsUptoRow : OpenClaim := { program := "ytpflnhbhgcediaa", sum := "484a7be702b0c9552f57206212d9c178144ff4740ba9645f9764c300696a57d6", func := "frisket/frisketlaw04.ExpandBits", spec := "expandBits", inPlace := ["internal/bytealg.IndexByteString", "internal/bytealg.IndexString", "internal/abi.NoEscape"], unfollowed := true, recurses := true, named := ["internal/bytealg.MaxLen"], apart := false, narrowed := true }
def ExpandBitsUptoSaid : Prop := expandBitsUptoRow.holds Try.pinned (OpenSpec.upto expandBitsSpec)

/-- 'frisketlaw04.ExpandNil', WHERE WHAT IT READS IS OF BULK AT MOST 1048576: true; the input reads as it did. -/
def expandNilUptoRow : OpenClaim := { program := "ytpflnhbhgcediaa", sum := "484a7be702b0c9552f57206212d9c178144ff4740ba9645f9764c300696a57d6", func := "frisket/frisketlaw04.ExpandNil", spec := "expandNil", inPlace := ["internal/bytealg.IndexByteString", "internal/bytealg.IndexString", "internal/abi.NoEscape"], unfollowed := true, recurses := true, named := ["internal/bytealg.MaxLen"], apart := false, narrowed := true }
def ExpandNilUptoSaid : Prop := expandNilUptoRow.holds Try.pinned (OpenSpec.upto expandNilSpec)

/-- 'frisketlaw04.ExpandPlain', WHERE WHAT IT READS IS OF BULK AT MOST 1048576: true; the input reads as it did. -/
def expandPlainUptoRow : OpenClaim := { program := "ytpflnhbhgcediaa", sum := "484a7be702b0c9552f57206212d9c178144ff4740ba9645f9764c300696a57d6", func := "frisket/frisketlaw04.ExpandPlain", spec := "expandPlain", inPlace := ["internal/bytealg.IndexByteString", "internal/bytealg.IndexString", "internal/abi.NoEscape"], unfollowed := true, recurses := true, named := ["internal/bytealg.MaxLen"], apart := false, narrowed := true }
def ExpandPlainUptoSaid : Prop := expandPlainUptoRow.holds Try.pinned (OpenSpec.upto expandPlainSpec)

end Rows
end Go.Proofs.Ytpflnhbhgcediaa
