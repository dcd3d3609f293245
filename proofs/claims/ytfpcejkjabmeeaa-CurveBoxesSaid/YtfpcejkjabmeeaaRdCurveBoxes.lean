import Derived.Test.YtfpcejkjabmeeaaRow
import Derived.Test.YtfpcejkjabmeeaaQCurveBoxesx4
namespace Go.Proofs.Ytfpcejkjabmeeaa.PureCurveBoxes
open Go.RowKit Go.Proofs.YtfpcejkjabmeeaaR Go.Proofs.YtfpcejkjabmeeaaW.PrintWords Go.Proofs.Ytfpcejkjabmeeaa.QCurveBoxes
def R3e : Rdg Try.prog 3 Int := Rdg.int .i64 Try.underlying3
def R28e : Rdg Try.prog 28 S28 := Rdg.array (e := 3) (n := 2) (by kernel_rfl) (RdgF.cons R3e rfl (by kernel_rfl) (RdgF.one R3e rfl (by kernel_rfl))) (fun x : S28 => (x.f0, x.f1)) (fun y => ⟨y.1, y.2⟩) (fun _ => rfl) Try.underlying28 (by kernel_rfl)
def R23e : Rdg Try.prog 23 (List S28) := Rdg.slice (z28) R28e Try.underlying23 (by kernel_rfl) (B := 16) (by kernel_rfl)
def R37 : Rdg Try.prog 37 ((List S28) × S28 × Int × Int) := Rdg.struct (RdgF.cons R23e rfl (by kernel_rfl) (RdgF.cons R28e rfl (by kernel_rfl) (RdgF.cons R3e rfl (by kernel_rfl) (RdgF.one R3e rfl (by kernel_rfl))))) id id (fun _ => rfl) Try.underlying37 (by kernel_rfl)
end Go.Proofs.Ytfpcejkjabmeeaa.PureCurveBoxes
