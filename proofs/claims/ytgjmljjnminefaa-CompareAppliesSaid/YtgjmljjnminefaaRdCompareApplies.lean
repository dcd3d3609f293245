import Derived.Test.YtgjmljjnminefaaRow
import Derived.Test.YtgjmljjnminefaaQCompareAppliesx17
namespace Go.Proofs.Ytgjmljjnminefaa.PureCompareApplies
open Go.RowKit Go.Proofs.YtgjmljjnminefaaR Go.Proofs.YtgjmljjnminefaaW.PrintWords Go.Proofs.Ytgjmljjnminefaa.QCompareApplies
def R5e : Rdg Try.prog 5 Int := Rdg.int .u8 Try.underlying5
def R37 : Rdg Try.prog 37 (List Int) := Rdg.slice (0) R5e Try.underlying37 (by kernel_rfl) (B := 1) (by kernel_rfl)
def R3e : Rdg Try.prog 3 Int := Rdg.int .i64 Try.underlying3
def R54e : Rdg Try.prog 54 S54 := Rdg.struct (RdgF.cons R3e rfl (by kernel_rfl) (RdgF.cons R3e rfl (by kernel_rfl) (RdgF.one R3e rfl (by kernel_rfl)))) (fun x : S54 => (x.f0, x.f1, x.f2)) (fun y => ⟨y.1, y.2.1, y.2.2⟩) (fun _ => rfl) Try.underlying54 (by kernel_rfl)
def R52 : Rdg Try.prog 52 (List S54) := Rdg.slice (z54) R54e Try.underlying52 (by kernel_rfl) (B := 24) (by kernel_rfl)
end Go.Proofs.Ytgjmljjnminefaa.PureCompareApplies
