/- The law's answer. -/
import Derived.Test.YtpflnhbhgcediaaRdExpandNil
namespace Go.Proofs.Ytpflnhbhgcediaa.PureExpandNil
set_option linter.unusedVariables false
open Go.RowKit Go.Proofs.YtpflnhbhgcediaaR Go.Proofs.Ytpflnhbhgcediaa.QNl Go.Proofs.YtpflnhbhgcediaaW.PrintWords Go.Proofs.YtpflnhbhgcediaaW.PrintLast
theorem ExpandNil (a0 : ByteArray) (a1 : Bool) (g0 : R9.good a0) : frisketlaw04_ExpandNil.f a0 a1 = some true := rfl
end Go.Proofs.Ytpflnhbhgcediaa.PureExpandNil
