-- Words of the kit's print, shortened by a program of this session to what this claim uses.

import Derived.Test.YtpflnhbhgcediaaWEqStruct
import Derived.ChangeKeysEq
import Derived.KernelRfl
namespace Go.Proofs.YtpflnhbhgcediaaA
open Go.RowKit
section
variable {P : Program} {d n : Nat} {e : TypeId} {xs ys : Array Value} {i : Nat} {is : List Nat} {a b : Value} {r s : Bool} {w : World}
end
end Go.Proofs.YtpflnhbhgcediaaA

