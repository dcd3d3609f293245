-- Words of the kit's print, shortened by a program of this session to what this claim uses.

import Derived.Test.YtgjmljjnminefaaWTab
namespace Go.Proofs.YtgjmljjnminefaaW.PrintLast
section
variable {P : Program} {ops : Array Oper} {Q : Exit → Act → World → Prop} {md : Region.Mode} {S : World → Prop} {ds : List Nat} {T : Bool × List (List Nat × List Nat)}
end
end Go.Proofs.YtgjmljjnminefaaW.PrintLast

