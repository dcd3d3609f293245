-- Written by a program of this session (myprint.py) out of the translation; Lean checks it.
import Derived.Test.YtcnebeoodkeaoaaProg
import Derived.Below
import Derived.Deep.Draws
import Derived.Deep.AppendLies
import Derived.Maps.AppendAt
import Derived.OwnWalk
import Derived.Laws.BytesArg
import Derived.Laws.MakeOwn
import Derived.Laws.OwnMore
import Derived.Deep.OwnRows
import Derived.Tactics
import Derived.Lib.ConvBytes
import Derived.Laws.Slices
import Derived.WalkKit
import Derived.KernelRfl
import Derived.RowKit3
import Derived.Deep.LoopGhost
import Derived.Deep.QuietTactic
import Derived.BigQuiet
import Derived.WideLaws
import Derived.Deep.DeepCutAuto
import Derived.Deep.CutBlock
import Derived.Deep.RegionHeld3
import Derived.Laws.Rows
import Derived.Lib.AppendStr
import Derived.ArgAppend
import Derived.Laws.IdiomCopy
import Derived.OrdersHeld
import Derived.Laws.BitsLemmas
import Derived.RowKit
import Derived.Test.YtcnebeoodkeaoaaWWords
import Derived.Test.YtcnebeoodkeaoaaWLast
import Derived.Test.YtcnebeoodkeaoaaWTab
import Derived.Test.YtcnebeoodkeaoaaWFour
import Derived.Test.YtcnebeoodkeaoaaWQPut
import Derived.Test.YtcnebeoodkeaoaaWApart
import Derived.Test.YtcnebeoodkeaoaaWArr
import Derived.Test.YtcnebeoodkeaoaaWZeros
import Derived.Test.YtcnebeoodkeaoaaWFoot
import Derived.Test.YtcnebeoodkeaoaaWKept
import Derived.Test.YtcnebeoodkeaoaaWShare
import Derived.Test.YtcnebeoodkeaoaaWN
import Derived.Test.YtcnebeoodkeaoaaWFootNe
import Derived.Test.YtcnebeoodkeaoaaWAt
import Derived.Test.YtcnebeoodkeaoaaWEqStruct
import Derived.Test.YtcnebeoodkeaoaaWRepsOne
import Derived.Test.YtcnebeoodkeaoaaWInv
import Derived.Test.YtcnebeoodkeaoaaWInvWords
import Derived.Test.YtcnebeoodkeaoaaWGuard
import Derived.Test.YtcnebeoodkeaoaaWNEv
import Derived.Test.YtcnebeoodkeaoaaWMore
namespace Go.Proofs.Ytcnebeoodkeaoaa.QFl
open Go.RowKit Go.Proofs.YtcnebeoodkeaoaaW.PrintWords Go.Proofs.YtcnebeoodkeaoaaW.PrintLast Go.Proofs.YtcnebeoodkeaoaaW.PrintMore
attribute [local go_sem] max2_int min2_int max_two min_two max_three min_three max_four min_four   -- for this text's walks alone
set_option linter.unusedVariables false
set_option linter.unusedSimpArgs false



def errW : Option Int → Value
  | none => .nilIface
  | some c => .iface 0 (.int .i64 c)
theorem errW_none : errW none = .nilIface := rfl
theorem errW_some (c : Int) : errW (some c) = .iface 0 (.int .i64 c) := rfl

-- the values' own types

end Go.Proofs.Ytcnebeoodkeaoaa.QFl
