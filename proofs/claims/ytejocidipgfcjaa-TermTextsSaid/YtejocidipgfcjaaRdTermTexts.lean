import Derived.Test.YtejocidipgfcjaaRow
import Derived.Test.YtejocidipgfcjaaQTermTextsx2
namespace Go.Proofs.Ytejocidipgfcjaa.PureTermTexts
open Go.RowKit Go.Proofs.YtejocidipgfcjaaR Go.Proofs.YtejocidipgfcjaaW.PrintWords Go.Proofs.Ytejocidipgfcjaa.QTermTexts
def R9 : Rdg Try.prog 9 ByteArray := Rdg.string Try.underlying9
def R3e : Rdg Try.prog 3 Int := Rdg.int .i64 Try.underlying3
def R33 : Rdg Try.prog 33 (List Int) := Rdg.slice (0) R3e Try.underlying33 (by kernel_rfl) (B := 8) (by kernel_rfl)
end Go.Proofs.Ytejocidipgfcjaa.PureTermTexts
