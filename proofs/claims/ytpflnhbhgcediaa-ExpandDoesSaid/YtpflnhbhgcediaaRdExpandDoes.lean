import Derived.Test.YtpflnhbhgcediaaRow
import Derived.Test.YtpflnhbhgcediaaQDox1
namespace Go.Proofs.Ytpflnhbhgcediaa.PureExpandDoes
open Go.RowKit Go.Proofs.YtpflnhbhgcediaaR Go.Proofs.YtpflnhbhgcediaaW.PrintWords Go.Proofs.Ytpflnhbhgcediaa.QDo
def R9 : Rdg Try.prog 9 ByteArray := Rdg.string Try.underlying9
def R4 : Rdg Try.prog 4 Bool := Rdg.bool Try.underlying4
def R9e : Rdg Try.prog 9 ByteArray := Rdg.string Try.underlying9
def R22 : Rdg Try.prog 22 (List ByteArray) := Rdg.slice ((⟨#[]⟩ : ByteArray)) R9e Try.underlying22 (by kernel_rfl) (B := 16) (by kernel_rfl)
end Go.Proofs.Ytpflnhbhgcediaa.PureExpandDoes
