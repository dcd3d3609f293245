/- The law's answer. -/
import Derived.Test.YtpflnhbhgcediaaDoorRdExpandBack
namespace Go.Proofs.YtpflnhbhgcediaaDoor.PureExpandBack
open Go.RowKit Go.Proofs.YtpflnhbhgcediaaDoorR Go.Proofs.YtpflnhbhgcediaaDoor.QBc Go.Proofs.YtpflnhbhgcediaaDoorW.PrintWords Go.Proofs.YtpflnhbhgcediaaDoorW.PrintLast
set_option linter.unusedVariables false
theorem ExpandBack (a0 : ByteArray) (a1 : Int) (g0 : R9.good a0) (g1 : R5.good a1) : frisketlaw04_ExpandBack.f a0 a1 = some true := by
  have h : (Lit.int .u8 a1).wf = true := g1
  have h2 : 0 ≤ a1 ∧ a1 ≤ 255 := by
    have h3 : (decide ((0 : Int) ≤ a1) && decide (a1 ≤ 255)) = true := h
    rw [Bool.and_eq_true] at h3
    exact ⟨of_decide_eq_true h3.1, of_decide_eq_true h3.2⟩
  unfold frisketlaw04_ExpandBack.f
  rw [if_pos h2]
end Go.Proofs.YtpflnhbhgcediaaDoor.PureExpandBack
