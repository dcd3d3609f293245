-- Words of the kit's print, shortened by a program of this session to what this claim uses.

import Derived.Test.YtpflnhbhgcediaaDoorWLast
import Derived.Test.YtpflnhbhgcediaaDoorWMore
namespace Go.Proofs.YtpflnhbhgcediaaDoor.FnVal
open Go.RowKit Go.Proofs.YtpflnhbhgcediaaDoorW.PrintWords Go.Proofs.YtpflnhbhgcediaaDoorW.PrintLast Go.Proofs.YtpflnhbhgcediaaDoorW.PrintMore
section
variable {P : Program} {ops : Array Oper} {Q : Exit → Act → World → Prop}
end
end Go.Proofs.YtpflnhbhgcediaaDoor.FnVal

