import Derived.Test.YtegcelmjejhnfaaDoorRow
import Derived.Test.YtegcelmjejhnfaaDoorQHyx15
namespace Go.Proofs.YtegcelmjejhnfaaDoor.PureHyphenMade
open Go.RowKit Go.Proofs.YtegcelmjejhnfaaDoorR Go.Proofs.YtegcelmjejhnfaaDoorW.PrintWords Go.Proofs.YtegcelmjejhnfaaDoor.QHy
def R3e : Rdg Tryd.prog 3 Int := Rdg.int .i64 Tryd.underlying3
def R22e : Rdg Tryd.prog 22 (List Int) := Rdg.slice (0) R3e Tryd.underlying22 (by kernel_rfl) (B := 8) (by kernel_rfl)
def R36 : Rdg Tryd.prog 36 ((List Int) × (List Int) × (List Int) × Int × Int) := Rdg.struct (RdgF.cons R22e rfl (by kernel_rfl) (RdgF.cons R22e rfl (by kernel_rfl) (RdgF.cons R22e rfl (by kernel_rfl) (RdgF.cons R3e rfl (by kernel_rfl) (RdgF.one R3e rfl (by kernel_rfl)))))) id id (fun _ => rfl) Tryd.underlying36 (by kernel_rfl)
end Go.Proofs.YtegcelmjejhnfaaDoor.PureHyphenMade
