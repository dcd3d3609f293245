-- Words of the kit's print, shortened by a program of this session to what this claim uses.

import Derived.Test.YtgjmljjnminefaaWInv
import Derived.Test.YtgjmljjnminefaaWFootNe
namespace Go.Proofs.YtgjmljjnminefaaW.PrintWords
open Go.RowKit
end Go.Proofs.YtgjmljjnminefaaW.PrintWords
namespace Go.Proofs.YtgjmljjnminefaaW.PrintLast
section
variable {ops : Array Oper} {a : Act} {o og : Oper} {g : Nat} {t : Tmp} {u : Bool}
end
end Go.Proofs.YtgjmljjnminefaaW.PrintLast

