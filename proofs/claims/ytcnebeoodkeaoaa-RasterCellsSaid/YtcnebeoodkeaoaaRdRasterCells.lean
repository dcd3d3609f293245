import Derived.Test.YtcnebeoodkeaoaaRow
import Derived.Test.YtcnebeoodkeaoaaQRasterCellsx3
namespace Go.Proofs.Ytcnebeoodkeaoaa.PureRasterCells
open Go.RowKit Go.Proofs.YtcnebeoodkeaoaaR Go.Proofs.YtcnebeoodkeaoaaW.PrintWords Go.Proofs.Ytcnebeoodkeaoaa.QRasterCells
def R3e : Rdg Try.prog 3 Int := Rdg.int .i64 Try.underlying3
def R23 : Rdg Try.prog 23 (Int × Int × Int) := Rdg.struct (RdgF.cons R3e rfl (by kernel_rfl) (RdgF.cons R3e rfl (by kernel_rfl) (RdgF.one R3e rfl (by kernel_rfl)))) id id (fun _ => rfl) Try.underlying23 (by kernel_rfl)
def R3 : Rdg Try.prog 3 Int := Rdg.int .i64 Try.underlying3
end Go.Proofs.Ytcnebeoodkeaoaa.PureRasterCells
