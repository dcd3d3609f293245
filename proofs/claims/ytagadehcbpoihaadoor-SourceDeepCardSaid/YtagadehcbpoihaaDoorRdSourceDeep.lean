import Derived.Test.YtagadehcbpoihaaDoorRow
import Derived.Test.YtagadehcbpoihaaDoorQDpx0
namespace Go.Proofs.YtagadehcbpoihaaDoor.PureSourceDeep
open Go.RowKit Go.Proofs.YtagadehcbpoihaaDoorR Go.Proofs.YtagadehcbpoihaaDoorW.PrintWords Go.Proofs.YtagadehcbpoihaaDoor.QDp
def R3 : Rdg Tryd.prog 3 Int := Rdg.int .i64 Tryd.underlying3
end Go.Proofs.YtagadehcbpoihaaDoor.PureSourceDeep
