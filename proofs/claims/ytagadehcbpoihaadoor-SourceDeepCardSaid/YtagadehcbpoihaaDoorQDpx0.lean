/- The stack never has more than 50 frames: the law's walk, in the print's form. -/
import Derived.Test.YtagadehcbpoihaaDoorFDeepLSl
namespace Go.Proofs.YtagadehcbpoihaaDoor.QDp
set_option linter.unusedVariables false
open Go.RowKit Go.Proofs.YtagadehcbpoihaaDoorW.PrintWords Go.Proofs.YtagadehcbpoihaaDoorW.PrintLast Go.Proofs.YtagadehcbpoihaaDoorW.PrintMore
def frisketlaw05_SourceDeep.f (a0 : Int) : Option Bool := some true
theorem frisketlaw05_SourceDeep.calls (a0 : Int) (r : Bool) (w : World) (h : frisketlaw05_SourceDeep.f a0 = some r) :
    Calls Tryd.prog 4 #[.int .i64 a0] w fun e w' => e = .returned (.bool r) ∧ Below w.heap.size w w' := by
  obtain rfl := Option.some.inj h
  exact Sane5.deep_calls a0 w
end Go.Proofs.YtagadehcbpoihaaDoor.QDp
