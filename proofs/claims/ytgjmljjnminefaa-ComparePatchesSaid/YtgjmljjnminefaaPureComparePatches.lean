/- The plain law of ComparePatches, at every input. -/
import Derived.Test.YtgjmljjnminefaaRdComparePatches
import Derived.Test.YtgjmljjnminefaaPatchesCP
namespace Go.Proofs.Ytgjmljjnminefaa.PureComparePatches
open Go.RowKit Go.Proofs.YtgjmljjnminefaaR Go.Proofs.Ytgjmljjnminefaa.QCP Go.Proofs.YtgjmljjnminefaaW.PrintWords Go.Proofs.YtgjmljjnminefaaW.PrintLast
set_option linter.unusedVariables false in
theorem ComparePatches (l0 : List Int) (l1 : List Int) (x2_0 : Int) (x2_1 : Int) (x2_2 : List S69) (g0 : R37.good l0) (g1 : R37.good l1) (g2 : R39.good (x2_0, x2_1, x2_2)) : ∃ k, frisketlaw36_ComparePatches.f k l0 l1 x2_0 x2_1 x2_2 = some true := by
  have h : R22e.good x2_2 := g2.2.2
  refine Evl.Evl.out (PatchesCP.law_ev l0 l1 x2_0 x2_1 x2_2 fun m hm => ?_)
  have h2 : R69e.good m := h.2.2 m hm
  have h3 : R67e.good m.f8 := h2.2.2.2.2.2.2.2.2
  have h4 : m.f8.length * 8 ≤ 140737488351232 := h3.2.1
  omega
end Go.Proofs.Ytgjmljjnminefaa.PureComparePatches
