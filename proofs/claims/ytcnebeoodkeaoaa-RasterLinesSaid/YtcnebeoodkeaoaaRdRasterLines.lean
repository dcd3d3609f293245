import Derived.Test.YtcnebeoodkeaoaaRow
import Derived.Test.YtcnebeoodkeaoaaQRasterLinesx4
namespace Go.Proofs.Ytcnebeoodkeaoaa.PureRasterLines
open Go.RowKit Go.Proofs.YtcnebeoodkeaoaaR Go.Proofs.YtcnebeoodkeaoaaW.PrintWords Go.Proofs.Ytcnebeoodkeaoaa.QRasterLines
def R3e : Rdg Try.prog 3 Int := Rdg.int .i64 Try.underlying3
def R36 : Rdg Try.prog 36 (Int × Int × Int × Int) := Rdg.struct (RdgF.cons R3e rfl (by kernel_rfl) (RdgF.cons R3e rfl (by kernel_rfl) (RdgF.cons R3e rfl (by kernel_rfl) (RdgF.one R3e rfl (by kernel_rfl))))) id id (fun _ => rfl) Try.underlying36 (by kernel_rfl)
end Go.Proofs.Ytcnebeoodkeaoaa.PureRasterLines
