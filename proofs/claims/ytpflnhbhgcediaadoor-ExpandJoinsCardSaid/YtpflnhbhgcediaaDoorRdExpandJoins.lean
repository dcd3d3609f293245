import Derived.Test.YtpflnhbhgcediaaDoorRow
import Derived.Test.YtpflnhbhgcediaaDoorQJox2
namespace Go.Proofs.YtpflnhbhgcediaaDoor.PureExpandJoins
open Go.RowKit Go.Proofs.YtpflnhbhgcediaaDoorR Go.Proofs.YtpflnhbhgcediaaDoorW.PrintWords Go.Proofs.YtpflnhbhgcediaaDoor.QJo
def R9e : Rdg Tryd.prog 9 ByteArray := Rdg.string Tryd.underlying9
def R29 : Rdg Tryd.prog 29 (List ByteArray) := Rdg.slice ((⟨#[]⟩ : ByteArray)) R9e Tryd.underlying29 (by kernel_rfl) (B := 16) (by kernel_rfl)
end Go.Proofs.YtpflnhbhgcediaaDoor.PureExpandJoins
