-- Words of the kit's print, shortened by a program of this session to what this claim uses.

import Derived.Test.YtegcelmjejhnfaaDoorWLast
import Derived.Test.YtegcelmjejhnfaaDoorWMore
namespace Go.Proofs.YtegcelmjejhnfaaDoorN
open Go.RowKit Go.Proofs.YtegcelmjejhnfaaDoorW.PrintWords Go.Proofs.YtegcelmjejhnfaaDoorW.PrintLast Go.Proofs.YtegcelmjejhnfaaDoorW.PrintMore
theorem w64 {x : Int} (h0 : -9223372036854775808 ≤ x) (h1 : x ≤ 9223372036854775807) : wrap64 x = x := by
  unfold wrap64
  omega
theorem u64_eq (x : Int) : IntKind.u64.wrap x = x % 18446744073709551616 := by simp [IntKind.wrap, IntKind.signed, IntKind.bits]
theorem u64_range (x : Int) : 0 ≤ IntKind.u64.wrap x ∧ IntKind.u64.wrap x < 18446744073709551616 := by
  rw [u64_eq]
  omega
theorem not_false {p : Prop} (h : ¬ p) : false = true ↔ p := by simp [h]
end Go.Proofs.YtegcelmjejhnfaaDoorN

