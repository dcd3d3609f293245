/- The law's answer. -/
import Derived.Test.YtagadehcbpoihaaDoorRdSourceDeep
namespace Go.Proofs.YtagadehcbpoihaaDoor.PureSourceDeep
set_option linter.unusedVariables false
open Go.RowKit Go.Proofs.YtagadehcbpoihaaDoorR Go.Proofs.YtagadehcbpoihaaDoor.QDp Go.Proofs.YtagadehcbpoihaaDoorW.PrintWords Go.Proofs.YtagadehcbpoihaaDoorW.PrintLast
theorem SourceDeep (a0 : Int) (g0 : R3.good a0) : frisketlaw05_SourceDeep.f a0 = some true := rfl
end Go.Proofs.YtagadehcbpoihaaDoor.PureSourceDeep
