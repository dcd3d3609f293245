-- Written by a program of this session (myprint.py) out of the translation; Lean checks it.
import Derived.Test.YtpeimnipoohaaaaDoorProg
import Derived.Below
import Derived.Deep.Draws
import Derived.Deep.AppendLies
import Derived.Maps.AppendAt
import Derived.OwnWalk
import Derived.Laws.BytesArg
import Derived.Laws.MakeOwn
import Derived.Laws.OwnMore
import Derived.Deep.OwnRows
import Derived.Tactics
import Derived.Lib.ConvBytes
import Derived.Laws.Slices
import Derived.WalkKit
import Derived.KernelRfl
import Derived.RowKit3
import Derived.Deep.LoopGhost
import Derived.Deep.QuietTactic
import Derived.BigQuiet
import Derived.WideLaws
import Derived.Deep.DeepCutAuto
import Derived.Deep.CutBlock
import Derived.Deep.RegionHeld3
import Derived.Laws.Rows
import Derived.Lib.AppendStr
import Derived.ArgAppend
import Derived.Laws.IdiomCopy
import Derived.OrdersHeld
import Derived.Laws.BitsLemmas
import Derived.RowKit
import Derived.Test.YtpeimnipoohaaaaDoorWWords
import Derived.Test.YtpeimnipoohaaaaDoorWLast
import Derived.Test.YtpeimnipoohaaaaDoorWTab
import Derived.Test.YtpeimnipoohaaaaDoorWFour
import Derived.Test.YtpeimnipoohaaaaDoorWQPut
import Derived.Test.YtpeimnipoohaaaaDoorWApart
import Derived.Test.YtpeimnipoohaaaaDoorWArr
import Derived.Test.YtpeimnipoohaaaaDoorWZeros
import Derived.Test.YtpeimnipoohaaaaDoorWFoot
import Derived.Test.YtpeimnipoohaaaaDoorWKept
import Derived.Test.YtpeimnipoohaaaaDoorWShare
import Derived.Test.YtpeimnipoohaaaaDoorWN
import Derived.Test.YtpeimnipoohaaaaDoorWFootNe
import Derived.Test.YtpeimnipoohaaaaDoorWAt
import Derived.Test.YtpeimnipoohaaaaDoorWEqStruct
import Derived.Test.YtpeimnipoohaaaaDoorWRepsOne
import Derived.Test.YtpeimnipoohaaaaDoorWInv
import Derived.Test.YtpeimnipoohaaaaDoorWInvWords
import Derived.Test.YtpeimnipoohaaaaDoorWGuard
import Derived.Test.YtpeimnipoohaaaaDoorWNEv
import Derived.Test.YtpeimnipoohaaaaDoorWMore
namespace Go.Proofs.YtpeimnipoohaaaaDoor.QRq
open Go.RowKit Go.Proofs.YtpeimnipoohaaaaDoorW.PrintWords Go.Proofs.YtpeimnipoohaaaaDoorW.PrintLast Go.Proofs.YtpeimnipoohaaaaDoorW.PrintMore
attribute [local go_sem] max2_int min2_int max_two min_two max_three min_three max_four min_four   -- for this text's walks alone
set_option linter.unusedVariables false
set_option linter.unusedSimpArgs false



def errW : Option Int → Value
  | none => .nilIface
  | some c => .iface 0 (.int .i64 c)
theorem errW_none : errW none = .nilIface := rfl
theorem errW_some (c : Int) : errW (some c) = .iface 0 (.int .i64 c) := rfl

theorem info5 : (Tryd.prog.info? 5).map (fun i => (i.zero, i.size, i.bytes)) = some (some (.int .u8 0), 1, 1) := by kernel_rfl
theorem info9 : (Tryd.prog.info? 9).map (fun i => (i.zero, i.size, i.bytes)) = some (some (.string ⟨#[]⟩), 1, 16) := by kernel_rfl
-- the values' own types

end Go.Proofs.YtpeimnipoohaaaaDoor.QRq
