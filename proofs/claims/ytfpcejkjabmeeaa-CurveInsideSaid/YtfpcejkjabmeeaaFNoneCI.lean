/- The points of ovals, arcs and splines are not spoken of here: no answer is claimed of them. -/
import Derived.Test.YtfpcejkjabmeeaaFValidCI
namespace Go.Proofs.Ytfpcejkjabmeeaa.QCI
open Go.RowKit Go.Proofs.YtfpcejkjabmeeaaW.PrintWords Go.Proofs.YtfpcejkjabmeeaaW.PrintLast Go.Proofs.YtfpcejkjabmeeaaW.PrintMore
set_option linter.unusedVariables false
def curve_arcPoints.f (l0 : List Int) (a1 : Int) : Option (List S28) := none
theorem curve_arcPoints.calls (A0 : Option Addr) (c0 : Nat) (l0 : List Int) (a1 : Int) (r : List S28) (w : World) (hr0 : Kd.C (Kd.int .i64) w A0 l0.length l0) (hc0 : l0.length ≤ c0) (h : curve_arcPoints.f l0 a1 = some r) :
    Calls Try.prog 17 #[.slice A0 l0.length c0, .int .i64 a1] w fun e w' => ∃ v_ : Value, e = .returned v_ ∧ Kd.R k28 28 w' w.heap.size (fun _ => True) v_ r ∧ Below w.heap.size w w' := by cases h
end Go.Proofs.Ytfpcejkjabmeeaa.QCI
