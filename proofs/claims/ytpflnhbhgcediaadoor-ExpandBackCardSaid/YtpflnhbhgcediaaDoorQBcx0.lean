/- Expand in copy mode of Protect is the text: the law's walk. -/
import Derived.Test.YtpflnhbhgcediaaDoorFBackE
namespace Go.Proofs.YtpflnhbhgcediaaDoor.QBc
open Go.RowKit Go.Proofs.YtpflnhbhgcediaaDoorW.PrintWords Go.Proofs.YtpflnhbhgcediaaDoorW.PrintLast Go.Proofs.YtpflnhbhgcediaaDoorW.PrintMore
set_option linter.unusedVariables false
def frisketlaw04_ExpandBack.f (a0 : ByteArray) (a1 : Int) : Option Bool := if 0 ≤ a1 ∧ a1 ≤ 255 then some true else none
theorem frisketlaw04_ExpandBack.calls (a0 : ByteArray) (a1 : Int) (r : Bool) (w : World) (h : frisketlaw04_ExpandBack.f a0 a1 = some r) :
    Calls Tryd.prog 3 #[.string a0, .int .u8 a1] w fun e w' => e = .returned (.bool r) ∧ Below w.heap.size w w' := by
  unfold frisketlaw04_ExpandBack.f at h
  split at h
  · rename_i ht
    obtain rfl := Option.some.inj h
    exact Back4.back_calls a0 a1 ht w
  · cases h
end Go.Proofs.YtpflnhbhgcediaaDoor.QBc
