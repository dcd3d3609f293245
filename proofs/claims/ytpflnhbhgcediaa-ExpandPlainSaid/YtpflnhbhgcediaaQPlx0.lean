/- A plain text is left as it is, and asks nothing; one that is not plain asks, or loses something: the law's walk. -/
import Derived.Test.YtpflnhbhgcediaaFPl5Ea
namespace Go.Proofs.Ytpflnhbhgcediaa.QPl
set_option linter.unusedVariables false
open Go.RowKit Go.Proofs.YtpflnhbhgcediaaW.PrintWords Go.Proofs.YtpflnhbhgcediaaW.PrintLast Go.Proofs.YtpflnhbhgcediaaW.PrintMore Go.Proofs.Ytpflnhbhgcediaa.Str
def frisketlaw04_ExpandPlain.f (a0 : ByteArray) : Option Bool := if a0.size < 1000000000000000 then some true else none
theorem frisketlaw04_ExpandPlain.calls (a0 : ByteArray) (r : Bool) (w : World) (h : frisketlaw04_ExpandPlain.f a0 = some r) :
    Calls Try.prog 6 #[.string a0] w fun e w' => e = .returned (.bool r) ∧ Below w.heap.size w w' := by
  unfold frisketlaw04_ExpandPlain.f at h
  split at h
  · rename_i hc
    obtain rfl := Option.some.inj h
    have g := Ex4.plain_law a0.data.toList (by rw [Array.length_toList]; exact hc) w
    rw [← mkB_data] at g
    exact g
  · cases h
end Go.Proofs.Ytpflnhbhgcediaa.QPl
