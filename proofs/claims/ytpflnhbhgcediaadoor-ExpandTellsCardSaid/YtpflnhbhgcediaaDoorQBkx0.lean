-- Words of the kit's print, shortened by a program of this session to what this claim uses.

import Derived.Test.YtpflnhbhgcediaaDoorProg
import Derived.Below
import Derived.Deep.Draws
import Derived.Deep.AppendLies
import Derived.Maps.AppendAt
import Derived.OwnWalk
import Derived.Laws.BytesArg
import Derived.Laws.MakeOwn
import Derived.Laws.OwnMore
import Derived.Deep.OwnRows
import Derived.Tactics
import Derived.Lib.ConvBytes
import Derived.Laws.Slices
import Derived.WalkKit
import Derived.KernelRfl
import Derived.RowKit3
import Derived.Deep.LoopGhost
import Derived.Deep.QuietTactic
import Derived.BigQuiet
import Derived.WideLaws
import Derived.Deep.DeepCutAuto
import Derived.Deep.CutBlock
import Derived.Deep.RegionHeld3
import Derived.Laws.Rows
import Derived.Lib.AppendStr
import Derived.ArgAppend
import Derived.Laws.IdiomCopy
import Derived.OrdersHeld
import Derived.Laws.BitsLemmas
import Derived.RowKit
import Derived.Test.YtpflnhbhgcediaaDoorWWords
import Derived.Test.YtpflnhbhgcediaaDoorWLast
import Derived.Test.YtpflnhbhgcediaaDoorWTab
import Derived.Test.YtpflnhbhgcediaaDoorWApart
import Derived.Test.YtpflnhbhgcediaaDoorWFoot
import Derived.Test.YtpflnhbhgcediaaDoorWKept
import Derived.Test.YtpflnhbhgcediaaDoorWShare
import Derived.Test.YtpflnhbhgcediaaDoorWN
import Derived.Laws.StructEq
import Derived.Test.YtpflnhbhgcediaaDoorWRepsOne
import Derived.Test.YtpflnhbhgcediaaDoorWGuard
import Derived.Test.YtpflnhbhgcediaaDoorWMore
namespace Go.Proofs.YtpflnhbhgcediaaDoor.QBk
open Go.RowKit Go.Proofs.YtpflnhbhgcediaaDoorW.PrintWords Go.Proofs.YtpflnhbhgcediaaDoorW.PrintLast Go.Proofs.YtpflnhbhgcediaaDoorW.PrintMore
attribute [local go_sem] max2_int min2_int max_two min_two max_three min_three max_four min_four
set_option linter.unusedVariables false
set_option linter.unusedSimpArgs false
def errW : Option Int → Value
  | none => .nilIface
  | some c => .iface 0 (.int .i64 c)
theorem errW_none : errW none = .nilIface := rfl
theorem errW_some (c : Int) : errW (some c) = .iface 0 (.int .i64 c) := rfl
end Go.Proofs.YtpflnhbhgcediaaDoor.QBk

