/- Of any points and numbers: the box, the root and the nearness are what the document says. No condition. -/
import Derived.Test.YtfpcejkjabmeeaaRows
import Derived.Test.YtfpcejkjabmeeaaRow
import Derived.Test.YtfpcejkjabmeeaaPureCurveBoxes
namespace Go.Proofs.Ytfpcejkjabmeeaa.curveBoxes
open Go.ChangeShapes Go.WideShapes Go.ChangeAt Go.RowKit Go.Proofs.YtfpcejkjabmeeaaR Go.Proofs.YtfpcejkjabmeeaaW.PrintWords Go.Proofs.Ytfpcejkjabmeeaa.QCurveBoxes Go.Proofs.Ytfpcejkjabmeeaa.PureCurveBoxes
theorem own : ownKnob Try.prog.godebug = none := by kernel_rfl
theorem laidOut : laidOutB Try.prog = true := by kernel_rfl
set_option maxRecDepth 100000 in
theorem lifted (os : Os) (started : os.Started) (H : Type) (enc : TypeId × Value → H) :
    ReturnsInHanded {} Try.checked os 5 .any (Rows.curveBoxesSpec.pre6 enc Try.prog Try.f5 Rows.curveBoxesRow.domain false) (Rows.curveBoxesSpec.post enc Try.prog Try.f5 false true false false) := by
  refine returnsInHanded_of_change_sized (C := Try.checked) own started (by kernel_rfl) Try.func5
    (ChangeSpec.witness6 (enc := enc) (C := Try.checked) false ⟨#[], #[.agg #[.slice none 0 0, .int .i64 0, .int .i64 0, .int .i64 0, .int .i64 0]], []⟩ 8 (by kernel_rfl) (by kernel_rfl) (by kernel_rfl) (by kernel_rfl)) ?_
  intro W base args ds gs before hval0 hW hcnd hsz0 _
  have hsz : (DataW.weightsEach Try.prog (Try.f5.params.toList ++ Rows.curveBoxesSpec.plain.varTypes Try.prog) (ds ++ gs)).all (· ≤ reachBytes) = true := hsz0
  have hval : ∀ (j : Nat) t v, Try.f5.params[j]? = some t → args[j]? = some v → Value.okWide Try.prog W .any base t v := hval0
  have hW' := hW
  obtain ⟨p, q, hA0, hV, rfl, hfz, hnd⟩ := hW
  have hA : DataW.TrodAll enc Try.prog W 0 (fun _ => true) true Try.f5.params.toList args.toList ds p := hA0
  rw [Try.params5] at hA hval hsz
  obtain ⟨v0, vs0, d0, ds0, p0, q0, hargs, rfl, rfl, h0, r0⟩ := trodAll_cons hA
  obtain ⟨rfl, rfl, rfl⟩ := trodAll_nil r0
  obtain rfl : args = #[v0] := by cases args; simp_all
  obtain ⟨rfl, rfl⟩ := trodVars_none hV
  obtain ⟨cs0, rfl, _⟩ := okWide_struct Try.underlying37 (hval 0 37 v0 rfl rfl)
  obtain ⟨⟨y0_0, y0_1, y0_2, y0_3⟩, k0, g0⟩ := R37.arg h0 (weights_arg hsz (j := 0) rfl rfl)
  obtain ⟨_, _, e0, ⟨A0_0, c0_0, rfl, hc0_0, hr0_0⟩, ⟨_, _, rfl, ⟨_, _, rfl, rfl, rfl⟩, ⟨_, _, rfl, rfl, rfl⟩⟩⟩ := k0
  rw [agg_of e0] at hW' ⊢
  clear hA0 hval0 hsz0 hsz hval
  obtain ⟨k, h⟩ := CurveBoxes y0_0 y0_1 y0_2 y0_3 g0
  refine (frisketlaw19_CurveBoxes.calls k _ _ y0_0 y0_1.f0 y0_1.f1 y0_2 y0_3 true W hr0_0 hc0_0 h).mono fun e W' ⟨he, bel⟩ => ?_
  subst he
  exact ⟨_, rfl, law_post laidOut hW' rfl (by kernel_rfl) ⟨rfl, rfl, rfl⟩ rfl rfl Try.underlying4 rfl bel⟩
theorem over : Rows.curveBoxesRow.holds Try.pinned (OpenSpec.ofChange Rows.curveBoxesSpec) :=
  OpenClaim.holds_of_wide 5 Try.f5 rfl rfl rfl rfl rfl rfl rfl ⟨rfl, rfl, rfl, rfl, rfl⟩ rfl rfl rfl rfl rfl (by kernel_rfl) Try.func5 (by kernel_rfl)
    (of_decide_eq_true (by kernel_rfl)) (by unfold Func.isWrapper; first | (rw [if_pos (by decide +kernel)]; kernel_rfl) | (rw [if_neg (by decide +kernel)]; exact ⟨rfl, rfl⟩))
    (fun os started H enc _ => lifted os started H enc)
theorem proved : Rows.CurveBoxesSaid := over
#print axioms proved
end Go.Proofs.Ytfpcejkjabmeeaa.curveBoxes
namespace Go.Proofs.Ytfpcejkjabmeeaa
theorem curveBoxes_holds : Rows.CurveBoxesSaid := curveBoxes.proved
end Go.Proofs.Ytfpcejkjabmeeaa
