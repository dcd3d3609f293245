/- Without anybody who is asked, all texts are refused: the law's walk. -/
import Derived.Test.YtpflnhbhgcediaaFSaneCEx
namespace Go.Proofs.Ytpflnhbhgcediaa.QNl
set_option linter.unusedVariables false
open Go.RowKit Go.Proofs.YtpflnhbhgcediaaW.PrintWords Go.Proofs.YtpflnhbhgcediaaW.PrintLast Go.Proofs.YtpflnhbhgcediaaW.PrintMore
def frisketlaw04_ExpandNil.f (a0 : ByteArray) (a1 : Bool) : Option Bool := some true
theorem frisketlaw04_ExpandNil.calls (a0 : ByteArray) (a1 : Bool) (r : Bool) (w : World) (h : frisketlaw04_ExpandNil.f a0 a1 = some r) :
    Calls Try.prog 5 #[.string a0, .bool a1] w fun e w' => e = .returned (.bool r) ∧ Below w.heap.size w w' := by
  obtain rfl := Option.some.inj h
  exact Sane4.nil_calls a0 a1 w
end Go.Proofs.Ytpflnhbhgcediaa.QNl
