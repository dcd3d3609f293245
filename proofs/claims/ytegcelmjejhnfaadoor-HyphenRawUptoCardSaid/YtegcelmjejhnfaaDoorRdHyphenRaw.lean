import Derived.Test.YtegcelmjejhnfaaDoorRowB
import Derived.Test.YtegcelmjejhnfaaDoorQHyx17
namespace Go.Proofs.YtegcelmjejhnfaaDoor.PureHyphenRaw
open Go.RowKit Go.Proofs.YtegcelmjejhnfaaDoorRB Go.Proofs.YtegcelmjejhnfaaDoorW.PrintWords Go.Proofs.YtegcelmjejhnfaaDoor.QHy
def R9e : Rdg Tryd.prog 9 ByteArray := Rdg.string Tryd.underlying9
def R26e : Rdg Tryd.prog 26 (List ByteArray) := Rdg.slice ((⟨#[]⟩ : ByteArray)) R9e Tryd.underlying26 (by kernel_rfl) (B := 16) (by kernel_rfl)
def R3e : Rdg Tryd.prog 3 Int := Rdg.int .i64 Tryd.underlying3
def R46 : Rdg Tryd.prog 46 (ByteArray × (List ByteArray) × (List ByteArray) × Int × Int) := Rdg.struct (RdgF.cons R9e rfl (by kernel_rfl) (RdgF.cons R26e rfl (by kernel_rfl) (RdgF.cons R26e rfl (by kernel_rfl) (RdgF.cons R3e rfl (by kernel_rfl) (RdgF.one R3e rfl (by kernel_rfl)))))) id id (fun _ => rfl) Tryd.underlying46 (by kernel_rfl)
end Go.Proofs.YtegcelmjejhnfaaDoor.PureHyphenRaw
