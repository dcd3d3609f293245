-- Written by a program of this session (myprint.py) out of the translation; Lean checks it.
import Derived.Test.YtejocidipgfcjaaProg
import Derived.Below
import Derived.Deep.Draws
import Derived.Deep.AppendLies
import Derived.Maps.AppendAt
import Derived.OwnWalk
import Derived.Laws.BytesArg
import Derived.Laws.MakeOwn
import Derived.Laws.OwnMore
import Derived.Deep.OwnRows
import Derived.Tactics
import Derived.Lib.ConvBytes
import Derived.Laws.Slices
import Derived.WalkKit
import Derived.KernelRfl
import Derived.RowKit3
import Derived.Deep.LoopGhost
import Derived.Deep.QuietTactic
import Derived.BigQuiet
import Derived.WideLaws
import Derived.Deep.DeepCutAuto
import Derived.Deep.CutBlock
import Derived.Deep.RegionHeld3
import Derived.Laws.Rows
import Derived.Lib.AppendStr
import Derived.ArgAppend
import Derived.Laws.IdiomCopy
import Derived.OrdersHeld
import Derived.Laws.BitsLemmas
import Derived.RowKit
import Derived.Test.YtejocidipgfcjaaWWords
import Derived.Test.YtejocidipgfcjaaWLast
import Derived.Test.YtejocidipgfcjaaWTab
import Derived.Test.YtejocidipgfcjaaWFour
import Derived.Test.YtejocidipgfcjaaWQPut
import Derived.Test.YtejocidipgfcjaaWApart
import Derived.Test.YtejocidipgfcjaaWArr
import Derived.Test.YtejocidipgfcjaaWZeros
import Derived.Test.YtejocidipgfcjaaWFoot
import Derived.Test.YtejocidipgfcjaaWKept
import Derived.Test.YtejocidipgfcjaaWShare
import Derived.Test.YtejocidipgfcjaaWN
import Derived.Test.YtejocidipgfcjaaWFootNe
import Derived.Test.YtejocidipgfcjaaWAt
import Derived.Test.YtejocidipgfcjaaWEqStruct
import Derived.Test.YtejocidipgfcjaaWRepsOne
import Derived.Test.YtejocidipgfcjaaWInv
import Derived.Test.YtejocidipgfcjaaWInvWords
import Derived.Test.YtejocidipgfcjaaWGuard
import Derived.Test.YtejocidipgfcjaaWNEv
import Derived.Test.YtejocidipgfcjaaWMore
namespace Go.Proofs.Ytejocidipgfcjaa.QTermTexts
open Go.RowKit Go.Proofs.YtejocidipgfcjaaW.PrintWords Go.Proofs.YtejocidipgfcjaaW.PrintLast Go.Proofs.YtejocidipgfcjaaW.PrintMore
attribute [local go_sem] max2_int min2_int max_two min_two max_three min_three max_four min_four   -- for this text's walks alone
set_option linter.unusedVariables false
set_option linter.unusedSimpArgs false



def errW : Option Int → Value
  | none => .nilIface
  | some c => .iface 0 (.int .i64 c)
theorem errW_none : errW none = .nilIface := rfl
theorem errW_some (c : Int) : errW (some c) = .iface 0 (.int .i64 c) := rfl

theorem info5 : (Try.prog.info? 5).map (fun i => (i.zero, i.size, i.bytes)) = some (some (.int .u8 0), 1, 1) := by kernel_rfl
theorem info9 : (Try.prog.info? 9).map (fun i => (i.zero, i.size, i.bytes)) = some (some (.string ⟨#[]⟩), 1, 16) := by kernel_rfl
-- the values' own types

end Go.Proofs.Ytejocidipgfcjaa.QTermTexts
