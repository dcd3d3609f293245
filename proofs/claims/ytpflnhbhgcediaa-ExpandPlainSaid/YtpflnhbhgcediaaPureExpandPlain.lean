/- The law's answer. -/
import Derived.Test.YtpflnhbhgcediaaRdExpandPlain
namespace Go.Proofs.Ytpflnhbhgcediaa.PureExpandPlain
set_option linter.unusedVariables false
open Go.RowKit Go.Proofs.YtpflnhbhgcediaaR Go.Proofs.Ytpflnhbhgcediaa.QPl Go.Proofs.YtpflnhbhgcediaaW.PrintWords Go.Proofs.YtpflnhbhgcediaaW.PrintLast
theorem ExpandPlain (a0 : ByteArray) (g0 : R9.good a0) : frisketlaw04_ExpandPlain.f a0 = some true := by
  have h : a0.size ≤ 140737488351232 := g0
  exact if_pos (by omega)
end Go.Proofs.Ytpflnhbhgcediaa.PureExpandPlain
