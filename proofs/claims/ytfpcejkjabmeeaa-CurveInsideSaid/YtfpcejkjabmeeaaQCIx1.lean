-- Written by a program of this session (myprint.py) out of the translation; Lean checks it.
import Derived.Test.YtfpcejkjabmeeaaQCIx0
import Derived.Test.YtfpcejkjabmeeaaArrEq
namespace Go.Proofs.Ytfpcejkjabmeeaa.QCI
open Go.RowKit Go.Proofs.YtfpcejkjabmeeaaW.PrintWords Go.Proofs.YtfpcejkjabmeeaaW.PrintLast Go.Proofs.YtfpcejkjabmeeaaW.PrintMore
attribute [local go_sem] max2_int min2_int max_two min_two max_three min_three max_four min_four   -- for this text's walks alone
set_option linter.unusedVariables false
set_option linter.unusedSimpArgs false

theorem eqA28 (d : Nat) (w : World) (x0 y0 : Int) (x1 y1 : Int) :
    (Op.equalIn (d + 2) 28 (.agg #[.int .i64 x0, .int .i64 x1]) (.agg #[.int .i64 y0, .int .i64 y1])).run Try.prog w = .ok (x0 == y0 && (x1 == y1)) w := by
  obtain ⟨i0_, hi0_, _⟩ := Option.map_eq_some_iff.1 (show (Try.prog.info? 3).map (fun _ => ()) = some () by kernel_rfl)
  refine Go.Proofs.YtfpcejkjabmeeaaA.eqB_of (c := 1) Try.underlying28 hi0_ (by kernel_rfl) ?_
  refine Go.Proofs.YtfpcejkjabmeeaaA.eqi_cons (i := 0) (by go_simp; rfl) (by go_simp; rfl) (by go_simp) ?_
  exact Go.Proofs.YtfpcejkjabmeeaaA.eqi_last (i := 1) (by go_simp; rfl) (by go_simp; rfl) (by go_simp)
end Go.Proofs.Ytfpcejkjabmeeaa.QCI
