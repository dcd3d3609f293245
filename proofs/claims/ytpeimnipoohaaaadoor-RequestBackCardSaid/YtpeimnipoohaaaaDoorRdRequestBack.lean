import Derived.Test.YtpeimnipoohaaaaDoorRow
import Derived.Test.YtpeimnipoohaaaaDoorQRwx4
namespace Go.Proofs.YtpeimnipoohaaaaDoor.PureRequestBack
open Go.RowKit Go.Proofs.YtpeimnipoohaaaaDoorR Go.Proofs.YtpeimnipoohaaaaDoorW.PrintWords Go.Proofs.YtpeimnipoohaaaaDoor.QRw
def R9 : Rdg Tryd.prog 9 ByteArray := Rdg.string Tryd.underlying9
def R9e : Rdg Tryd.prog 9 ByteArray := Rdg.string Tryd.underlying9
def R25 : Rdg Tryd.prog 25 (List ByteArray) := Rdg.slice ((⟨#[]⟩ : ByteArray)) R9e Tryd.underlying25 (by kernel_rfl) (B := 16) (by kernel_rfl)
end Go.Proofs.YtpeimnipoohaaaaDoor.PureRequestBack
