/- The law TermNear is true at every input: a cell's place is at most half a cell from the place. No condition. -/
import Derived.Test.YtejocidipgfcjaaRows
import Derived.Test.YtejocidipgfcjaaRow
import Derived.Test.YtejocidipgfcjaaPureTermNear
namespace Go.Proofs.Ytejocidipgfcjaa.termNear
open Go.ChangeShapes Go.WideShapes Go.ChangeAt Go.RowKit Go.Proofs.YtejocidipgfcjaaR Go.Proofs.YtejocidipgfcjaaW.PrintWords
theorem own : ownKnob Try.prog.godebug = none := by kernel_rfl
theorem laidOut : laidOutB Try.prog = true := by kernel_rfl
def R3 : Rdg Try.prog 3 Int := Rdg.int .i64 Try.underlying3
def R23 : Rdg Try.prog 23 (Int × Int × Int × Int) := Rdg.struct (RdgF.cons R3 rfl (by kernel_rfl) (RdgF.cons R3 rfl (by kernel_rfl) (RdgF.cons R3 rfl (by kernel_rfl) (RdgF.one R3 rfl (by kernel_rfl))))) id id (fun _ => rfl) Try.underlying23 (by kernel_rfl)
set_option maxRecDepth 100000 in
theorem lifted (os : Os) (started : os.Started) (H : Type) (enc : TypeId × Value → H) :
    ReturnsInHanded {} Try.checked os 3 .any (Rows.termNearSpec.pre6 enc Try.prog Try.f3 Rows.termNearRow.domain false) (Rows.termNearSpec.post enc Try.prog Try.f3 false true false false) := by
  refine returnsInHanded_of_change_sized (C := Try.checked) own started (by kernel_rfl) Try.func3
    (ChangeSpec.witness6 (enc := enc) (C := Try.checked) false ⟨#[], #[.agg #[.int .i64 0, .int .i64 0, .int .i64 0, .int .i64 0]], []⟩ 8 (by kernel_rfl) (by kernel_rfl) (by kernel_rfl) (by kernel_rfl)) ?_
  intro W base args ds gs before hval0 hW hcnd hsz0 _
  have hsz : (DataW.weightsEach Try.prog (Try.f3.params.toList ++ Rows.termNearSpec.plain.varTypes Try.prog) (ds ++ gs)).all (· ≤ reachBytes) = true := hsz0
  have hval : ∀ (j : Nat) t v, Try.f3.params[j]? = some t → args[j]? = some v → Value.okWide Try.prog W .any base t v := hval0
  have hW' := hW
  obtain ⟨p, q, hA0, hV, rfl, hfz, hnd⟩ := hW
  have hA : DataW.TrodAll enc Try.prog W 0 (fun _ => true) true Try.f3.params.toList args.toList ds p := hA0
  rw [Try.params3] at hA hval hsz
  obtain ⟨v0, vs0, d0, ds0, p0, q0, hargs, rfl, rfl, h0, r0⟩ := trodAll_cons hA
  obtain ⟨rfl, rfl, rfl⟩ := trodAll_nil r0
  obtain rfl : args = #[v0] := by cases args; simp_all
  obtain ⟨rfl, rfl⟩ := trodVars_none hV
  obtain ⟨cs, rfl, _⟩ := okWide_struct Try.underlying23 (hval 0 23 v0 rfl rfl)
  obtain ⟨⟨a, b, c, d⟩, k0, g0⟩ := R23.arg h0 (weights_arg hsz (j := 0) rfl rfl)
  obtain ⟨_, _, e0, rfl, ⟨_, _, rfl, rfl, ⟨_, _, rfl, rfl, rfl⟩⟩⟩ := k0
  rw [agg_of e0] at hW' ⊢
  obtain ⟨ga, gb, gc, gd⟩ := g0
  clear hA0 hval0 hsz0 hsz
  obtain ⟨k, h⟩ := Pure.TermNear a b c d
  refine (PTermNear.frisketlaw31_TermNear.calls k a b c d true W h).mono fun e W' ⟨he, bel⟩ => ?_
  subst he
  exact ⟨_, rfl, law_post laidOut hW' rfl (by kernel_rfl) ⟨rfl, rfl, rfl⟩ rfl rfl Try.underlying4 rfl bel⟩
theorem over : Rows.termNearRow.holds Try.pinned (OpenSpec.ofChange Rows.termNearSpec) :=
  OpenClaim.holds_of_wide 3 Try.f3 rfl rfl rfl rfl rfl rfl rfl ⟨rfl, rfl, rfl, rfl, rfl⟩ rfl rfl rfl rfl rfl (by kernel_rfl) Try.func3 (by kernel_rfl)
    (of_decide_eq_true (by kernel_rfl)) (by unfold Func.isWrapper; first | (rw [if_pos (by decide +kernel)]; kernel_rfl) | (rw [if_neg (by decide +kernel)]; exact ⟨rfl, rfl⟩))
    (fun os started H enc _ => lifted os started H enc)
theorem proved : Rows.TermNearSaid := over
#print axioms proved
end Go.Proofs.Ytejocidipgfcjaa.termNear
namespace Go.Proofs.Ytejocidipgfcjaa
theorem termNear_holds : Rows.TermNearSaid := termNear.proved
end Go.Proofs.Ytejocidipgfcjaa
