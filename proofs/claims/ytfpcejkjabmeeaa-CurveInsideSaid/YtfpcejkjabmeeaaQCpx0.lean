-- Written by a program of this session (myprint.py) out of the translation; Lean checks it.
import Derived.Test.YtfpcejkjabmeeaaProg
import Derived.Below
import Derived.Deep.Draws
import Derived.Deep.AppendLies
import Derived.Maps.AppendAt
import Derived.OwnWalk
import Derived.Laws.BytesArg
import Derived.Laws.MakeOwn
import Derived.Laws.OwnMore
import Derived.Deep.OwnRows
import Derived.Tactics
import Derived.Lib.ConvBytes
import Derived.Laws.Slices
import Derived.WalkKit
import Derived.KernelRfl
import Derived.RowKit3
import Derived.Deep.LoopGhost
import Derived.Deep.QuietTactic
import Derived.BigQuiet
import Derived.WideLaws
import Derived.Deep.DeepCutAuto
import Derived.Deep.CutBlock
import Derived.Deep.RegionHeld3
import Derived.Laws.Rows
import Derived.Lib.AppendStr
import Derived.ArgAppend
import Derived.Laws.IdiomCopy
import Derived.OrdersHeld
import Derived.Laws.BitsLemmas
import Derived.RowKit
import Derived.Test.YtfpcejkjabmeeaaWWords
import Derived.Test.YtfpcejkjabmeeaaWLast
import Derived.Test.YtfpcejkjabmeeaaWTab
import Derived.Test.YtfpcejkjabmeeaaWFour
import Derived.Test.YtfpcejkjabmeeaaWQPut
import Derived.Test.YtfpcejkjabmeeaaWApart
import Derived.Test.YtfpcejkjabmeeaaWArr
import Derived.Test.YtfpcejkjabmeeaaWZeros
import Derived.Test.YtfpcejkjabmeeaaWFoot
import Derived.Test.YtfpcejkjabmeeaaWKept
import Derived.Test.YtfpcejkjabmeeaaWShare
import Derived.Test.YtfpcejkjabmeeaaWN
import Derived.Test.YtfpcejkjabmeeaaWFootNe
import Derived.Test.YtfpcejkjabmeeaaWAt
import Derived.Test.YtfpcejkjabmeeaaWEqStruct
import Derived.Test.YtfpcejkjabmeeaaWRepsOne
import Derived.Test.YtfpcejkjabmeeaaWInv
import Derived.Test.YtfpcejkjabmeeaaWInvWords
import Derived.Test.YtfpcejkjabmeeaaWGuard
import Derived.Test.YtfpcejkjabmeeaaWNEv
import Derived.Test.YtfpcejkjabmeeaaWMore
namespace Go.Proofs.Ytfpcejkjabmeeaa.QCp
open Go.RowKit Go.Proofs.YtfpcejkjabmeeaaW.PrintWords Go.Proofs.YtfpcejkjabmeeaaW.PrintLast Go.Proofs.YtfpcejkjabmeeaaW.PrintMore
attribute [local go_sem] max2_int min2_int max_two min_two max_three min_three max_four min_four   -- for this text's walks alone
set_option linter.unusedVariables false
set_option linter.unusedSimpArgs false



def errW : Option Int → Value
  | none => .nilIface
  | some c => .iface 0 (.int .i64 c)
theorem errW_none : errW none = .nilIface := rfl
theorem errW_some (c : Int) : errW (some c) = .iface 0 (.int .i64 c) := rfl

-- the values' own types

end Go.Proofs.Ytfpcejkjabmeeaa.QCp
