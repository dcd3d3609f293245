-- Words of the kit's print, shortened by a program of this session to what this claim uses.

import Derived.Test.YtgjmljjnminefaaWN
namespace Go.Proofs.YtgjmljjnminefaaW.PrintWords
open Go.RowKit
namespace Kd
section
variable {α : Type} {d : Kd α} {W : World} {g n : Nat} {S ok : Nat → Prop} {A : Option Addr} {ad : Addr} {xs : List α}
end
end Kd
end Go.Proofs.YtgjmljjnminefaaW.PrintWords

