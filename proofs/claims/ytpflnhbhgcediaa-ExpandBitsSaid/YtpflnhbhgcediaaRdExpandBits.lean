import Derived.Test.YtpflnhbhgcediaaRow
import Derived.Test.YtpflnhbhgcediaaQBtx1
namespace Go.Proofs.Ytpflnhbhgcediaa.PureExpandBits
open Go.RowKit Go.Proofs.YtpflnhbhgcediaaR Go.Proofs.YtpflnhbhgcediaaW.PrintWords Go.Proofs.Ytpflnhbhgcediaa.QBt
def R5e : Rdg Try.prog 5 Int := Rdg.int .u8 Try.underlying5
def R26 : Rdg Try.prog 26 (List Int) := Rdg.slice (0) R5e Try.underlying26 (by kernel_rfl) (B := 1) (by kernel_rfl)
def R4 : Rdg Try.prog 4 Bool := Rdg.bool Try.underlying4
def R26e : Rdg Try.prog 26 (List Int) := Rdg.slice (0) R5e Try.underlying26 (by kernel_rfl) (B := 1) (by kernel_rfl)
def R27 : Rdg Try.prog 27 (List (List Int)) := Rdg.slice ([]) R26e Try.underlying27 (by kernel_rfl) (B := 24) (by kernel_rfl)
end Go.Proofs.Ytpflnhbhgcediaa.PureExpandBits
