import Derived.Test.YtpeimnipoohaaaaDoorRow
import Derived.Test.YtpeimnipoohaaaaDoorQRwx4
namespace Go.Proofs.YtpeimnipoohaaaaDoor.PureRequestWrites
open Go.RowKit Go.Proofs.YtpeimnipoohaaaaDoorR Go.Proofs.YtpeimnipoohaaaaDoorW.PrintWords Go.Proofs.YtpeimnipoohaaaaDoor.QRw
def R9 : Rdg Tryd.prog 9 ByteArray := Rdg.string Tryd.underlying9
def R9e : Rdg Tryd.prog 9 ByteArray := Rdg.string Tryd.underlying9
def R25 : Rdg Tryd.prog 25 (List ByteArray) := Rdg.slice ((⟨#[]⟩ : ByteArray)) R9e Tryd.underlying25 (by kernel_rfl) (B := 16) (by kernel_rfl)
def R5e : Rdg Tryd.prog 5 Int := Rdg.int .u8 Tryd.underlying5
def R27e : Rdg Tryd.prog 27 (List Int) := Rdg.slice (0) R5e Tryd.underlying27 (by kernel_rfl) (B := 1) (by kernel_rfl)
def R39 : Rdg Tryd.prog 39 (List (List Int)) := Rdg.slice ([]) R27e Tryd.underlying39 (by kernel_rfl) (B := 24) (by kernel_rfl)
end Go.Proofs.YtpeimnipoohaaaaDoor.PureRequestWrites
