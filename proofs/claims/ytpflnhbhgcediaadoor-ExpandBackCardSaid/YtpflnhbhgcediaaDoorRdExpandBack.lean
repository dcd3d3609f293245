import Derived.Test.YtpflnhbhgcediaaDoorRow
import Derived.Test.YtpflnhbhgcediaaDoorQBcx0
namespace Go.Proofs.YtpflnhbhgcediaaDoor.PureExpandBack
open Go.RowKit Go.Proofs.YtpflnhbhgcediaaDoorR Go.Proofs.YtpflnhbhgcediaaDoorW.PrintWords Go.Proofs.YtpflnhbhgcediaaDoor.QBc
def R9 : Rdg Tryd.prog 9 ByteArray := Rdg.string Tryd.underlying9
def R5 : Rdg Tryd.prog 5 Int := Rdg.int .u8 Tryd.underlying5
end Go.Proofs.YtpflnhbhgcediaaDoor.PureExpandBack
