import Derived.Test.YtpflnhbhgcediaaRow
import Derived.Test.YtpflnhbhgcediaaQNlx0
namespace Go.Proofs.Ytpflnhbhgcediaa.PureExpandNil
open Go.RowKit Go.Proofs.YtpflnhbhgcediaaR Go.Proofs.YtpflnhbhgcediaaW.PrintWords Go.Proofs.Ytpflnhbhgcediaa.QNl
def R9 : Rdg Try.prog 9 ByteArray := Rdg.string Try.underlying9
def R4 : Rdg Try.prog 4 Bool := Rdg.bool Try.underlying4
end Go.Proofs.Ytpflnhbhgcediaa.PureExpandNil
