-- Words of the kit's print, shortened by a program of this session to what this claim uses.

import Derived.Test.YtegcelmjejhnfaaDoorWLast
import Derived.Test.YtegcelmjejhnfaaDoorWMore
namespace Go.Proofs.YtegcelmjejhnfaaDoorN
open Go.RowKit Go.Proofs.YtegcelmjejhnfaaDoorW.PrintWords Go.Proofs.YtegcelmjejhnfaaDoorW.PrintLast Go.Proofs.YtegcelmjejhnfaaDoorW.PrintMore
theorem w64 {x : Int} (h0 : -9223372036854775808 ≤ x) (h1 : x ≤ 9223372036854775807) : wrap64 x = x := by
  unfold wrap64
  omega
theorem not_false {p : Prop} (h : ¬ p) : false = true ↔ p := by simp [h]
end Go.Proofs.YtegcelmjejhnfaaDoorN

