import Derived.Test.YtpflnhbhgcediaaRow
import Derived.Test.YtpflnhbhgcediaaQPlx0
namespace Go.Proofs.Ytpflnhbhgcediaa.PureExpandPlain
open Go.RowKit Go.Proofs.YtpflnhbhgcediaaR Go.Proofs.YtpflnhbhgcediaaW.PrintWords Go.Proofs.Ytpflnhbhgcediaa.QPl
def R9 : Rdg Try.prog 9 ByteArray := Rdg.string Try.underlying9
end Go.Proofs.Ytpflnhbhgcediaa.PureExpandPlain
