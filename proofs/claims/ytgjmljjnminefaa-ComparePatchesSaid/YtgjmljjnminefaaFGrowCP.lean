/- What slices.Grow does with nil: an empty row with room. -/
import Derived.Lib.SliceRun
import Derived.Test.YtgjmljjnminefaaNum
import Derived.Test.YtgjmljjnminefaaQCPx0
namespace Go.Proofs.Ytgjmljjnminefaa.QCP
open Go.RowKit Go.Proofs.YtgjmljjnminefaaW.PrintWords Go.Proofs.YtgjmljjnminefaaW.PrintLast Go.Proofs.YtgjmljjnminefaaW.PrintMore Go.Proofs.YtgjmljjnminefaaN
attribute [local go_sem] max2_int min2_int max_two min_two max_three min_three max_four min_four
set_option linter.unusedVariables false
set_option linter.unusedSimpArgs false
def api_Mark_43.f (l0 : List S69) (a1 : Int) : Option (List S69) := if 0 ≤ a1 ∧ a1 < 1000000 then some [] else none
set_option maxHeartbeats 8000000 in
set_option maxRecDepth 100000 in
theorem grow_nil (a1 : Int) (r : List S69) (w : World) (h : api_Mark_43.f [] a1 = some r) :
    Calls Try.prog 43 #[.slice none 0 0, .int .i64 a1] w fun e w' => ∃ v0_ : Value, e = .returned (v0_) ∧ Kd.S k69 69 w' w.heap.size (fun _ => True) v0_ r ∧ Below w.heap.size w w' := by
  unfold api_Mark_43.f at h
  split at h
  · rename_i hk
    cases h
    have HB := Aside0.mk (Below.refl w.heap.size w)
    have e1 : wrap64 (a1 - 0) = a1 := by rw [Int.sub_zero]; exact w64 (by omega) (by omega)
    have e2 : IntKind.i64.wrap (a1 - 0) = a1 := (i64_w _).trans e1
    have e3 : IntKind.i64.wrap a1 = a1 := (i64_w _).trans (w64 (by omega) (by omega))
    have c3b0 : decide (a1 < 0) = false := decide_eq_false (by omega)
    by_cases c4 : 0 < a1
    · have c4b0 : decide (0 < a1) = true := decide_eq_true c4
      have c6b1 : decide (0 ≤ a1) = true := decide_eq_true hk.1
      have LM := Aside0.mk (show a1.toNat < 1000000 by omega)
      clear c4 hk e1
      go_enter Try.func43, Try.ntmps43
      go_wp2_with (first | (at_builtin; refine Kd.S_append_zeros k69 (w0 := w) w.heap.size rfl (.tmp 20) (.tmp 21) 22 3 69 (.agg #[(.int .i64 0), (.int .i64 0), (.int .i64 0), (.int .i64 0), (.int .i64 0), (.string ⟨#[]⟩), (.string ⟨#[]⟩), (.string ⟨#[]⟩), (.slice none 0 0)]) 112 rfl Try.underlying22 Try.underlying3 info69 rfl (by decide) (by omega) (.slice none 0 0) ([] : List (S69)) z69 (a1 : Int) (fun _ => True) rfl rfl (k69_mkM _ _ _ z69 (Kd.R_nil _ _ _ _ _)) ?aF ?aO (of_decide_eq_true (by first | (with_reducible assumption) | assumption)) ?aB ?aS ?aL ?_; (case aB => exact (by repeat (first | (with_reducible first | exact HB.out | apply below_alloc | apply pw_below_drewN | apply below_drew1) | exact HB.out))); (case aF => exact (fun _ _ => trivial)); (case aO => exact ((Kd.S_nil _ _ _ _ _))); (case aS => exact (below_size (by repeat (first | (with_reducible first | exact HB.out | apply below_alloc | apply pw_below_drewN | apply below_drew1) | exact HB.out)))); (case aL => have := LM.out; simp only [List.length_nil]; omega); intro v329 w8 ho hb hg hat; obtain ⟨A8, c8, rfl⟩ := Kd.S_slice ho; have n0_ := Aside0.mk (hb); have n1_ := Aside0.mk (ho); clear HB; have HB := n0_; have HO330 := n1_; clear n0_ n1_; clear ho hb hg hat))
      go_ret
      exact ⟨_, rfl, Kd.S_take (m := 0) HO330.out (Nat.zero_le _), by repeat (first | (with_reducible first | exact HB.out | apply below_alloc | apply pw_below_drewN | apply below_drew1) | exact HB.out)⟩
    · have c4b0 : decide (0 < a1) = false := decide_eq_false c4
      go_enter Try.func43, Try.ntmps43
      go_wp2
      go_ret
      exact ⟨_, rfl, Kd.S_nil _ _ _ _ _, by repeat (first | (with_reducible first | exact HB.out | apply below_alloc | apply pw_below_drewN | apply below_drew1) | exact HB.out)⟩
  · cases h
end Go.Proofs.Ytgjmljjnminefaa.QCP
