-- Words of the kit's print, shortened by a program of this session to what this claim uses.

import Derived.Test.YtpflnhbhgcediaaWLast
import Derived.Test.YtpflnhbhgcediaaWMore
namespace Go.Proofs.YtpflnhbhgcediaaN
open Go.RowKit Go.Proofs.YtpflnhbhgcediaaW.PrintWords Go.Proofs.YtpflnhbhgcediaaW.PrintLast Go.Proofs.YtpflnhbhgcediaaW.PrintMore
theorem w64 {x : Int} (h0 : -9223372036854775808 ≤ x) (h1 : x ≤ 9223372036854775807) : wrap64 x = x := by
  unfold wrap64
  omega
end Go.Proofs.YtpflnhbhgcediaaN

