-- Words of the kit's print, shortened by a program of this session to what this claim uses.

import Derived.Test.YtpflnhbhgcediaaWLast
import Derived.Test.YtpflnhbhgcediaaWMore
namespace Go.Proofs.Ytpflnhbhgcediaa.FnVal
open Go.RowKit Go.Proofs.YtpflnhbhgcediaaW.PrintWords Go.Proofs.YtpflnhbhgcediaaW.PrintLast Go.Proofs.YtpflnhbhgcediaaW.PrintMore
section
variable {P : Program} {ops : Array Oper} {Q : Exit → Act → World → Prop}
end
end Go.Proofs.Ytpflnhbhgcediaa.FnVal

