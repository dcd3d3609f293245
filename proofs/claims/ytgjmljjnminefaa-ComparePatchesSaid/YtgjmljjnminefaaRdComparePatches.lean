import Derived.Test.YtgjmljjnminefaaRow
import Derived.Test.YtgjmljjnminefaaQCPx15
namespace Go.Proofs.Ytgjmljjnminefaa.PureComparePatches
open Go.RowKit Go.Proofs.YtgjmljjnminefaaR Go.Proofs.YtgjmljjnminefaaW.PrintWords Go.Proofs.Ytgjmljjnminefaa.QCP
def R5e : Rdg Try.prog 5 Int := Rdg.int .u8 Try.underlying5
def R37 : Rdg Try.prog 37 (List Int) := Rdg.slice (0) R5e Try.underlying37 (by kernel_rfl) (B := 1) (by kernel_rfl)
def R3e : Rdg Try.prog 3 Int := Rdg.int .i64 Try.underlying3
def R9e : Rdg Try.prog 9 ByteArray := Rdg.string Try.underlying9
def R67e : Rdg Try.prog 67 (List Int) := Rdg.slice (0) R3e Try.underlying67 (by kernel_rfl) (B := 8) (by kernel_rfl)
def R69e : Rdg Try.prog 69 S69 := Rdg.struct (RdgF.cons R3e rfl (by kernel_rfl) (RdgF.cons R3e rfl (by kernel_rfl) (RdgF.cons R3e rfl (by kernel_rfl) (RdgF.cons R3e rfl (by kernel_rfl) (RdgF.cons R3e rfl (by kernel_rfl) (RdgF.cons R9e rfl (by kernel_rfl) (RdgF.cons R9e rfl (by kernel_rfl) (RdgF.cons R9e rfl (by kernel_rfl) (RdgF.one R67e rfl (by kernel_rfl)))))))))) (fun x : S69 => (x.f0, x.f1, x.f2, x.f3, x.f4, x.f5, x.f6, x.f7, x.f8)) (fun y => ⟨y.1, y.2.1, y.2.2.1, y.2.2.2.1, y.2.2.2.2.1, y.2.2.2.2.2.1, y.2.2.2.2.2.2.1, y.2.2.2.2.2.2.2.1, y.2.2.2.2.2.2.2.2⟩) (fun _ => rfl) Try.underlying69 (by kernel_rfl)
def R22e : Rdg Try.prog 22 (List S69) := Rdg.slice (z69) R69e Try.underlying22 (by kernel_rfl) (B := 112) (by kernel_rfl)
def R39 : Rdg Try.prog 39 (Int × Int × (List S69)) := Rdg.struct (RdgF.cons R3e rfl (by kernel_rfl) (RdgF.cons R3e rfl (by kernel_rfl) (RdgF.one R22e rfl (by kernel_rfl)))) id id (fun _ => rfl) Try.underlying39 (by kernel_rfl)
end Go.Proofs.Ytgjmljjnminefaa.PureComparePatches
