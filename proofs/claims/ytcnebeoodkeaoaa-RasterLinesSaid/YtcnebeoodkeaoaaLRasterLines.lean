/- A line of cells is the one that the document tells: it has its ends, and neighbours differ by at most one. No condition. -/
import Derived.Test.YtcnebeoodkeaoaaRows
import Derived.Test.YtcnebeoodkeaoaaRow
import Derived.Test.YtcnebeoodkeaoaaPureRasterLines
namespace Go.Proofs.Ytcnebeoodkeaoaa.rasterLines
open Go.ChangeShapes Go.WideShapes Go.ChangeAt Go.RowKit Go.Proofs.YtcnebeoodkeaoaaR Go.Proofs.YtcnebeoodkeaoaaW.PrintWords Go.Proofs.Ytcnebeoodkeaoaa.QRasterLines Go.Proofs.Ytcnebeoodkeaoaa.PureRasterLines
theorem own : ownKnob Try.prog.godebug = none := by kernel_rfl
theorem laidOut : laidOutB Try.prog = true := by kernel_rfl
set_option maxRecDepth 100000 in
theorem lifted (os : Os) (started : os.Started) (H : Type) (enc : TypeId × Value → H) :
    ReturnsInHanded {} Try.checked os 4 .any (Rows.rasterLinesSpec.pre6 enc Try.prog Try.f4 Rows.rasterLinesRow.domain false) (Rows.rasterLinesSpec.post enc Try.prog Try.f4 false true false false) := by
  refine returnsInHanded_of_change_sized (C := Try.checked) own started (by kernel_rfl) Try.func4
    (ChangeSpec.witness6 (enc := enc) (C := Try.checked) false ⟨#[], #[.agg #[.int .i64 0, .int .i64 0, .int .i64 0, .int .i64 0]], []⟩ 8 (by kernel_rfl) (by kernel_rfl) (by kernel_rfl) (by kernel_rfl)) ?_
  intro W base args ds gs before hval0 hW hcnd hsz0 _
  have hsz : (DataW.weightsEach Try.prog (Try.f4.params.toList ++ Rows.rasterLinesSpec.plain.varTypes Try.prog) (ds ++ gs)).all (· ≤ reachBytes) = true := hsz0
  have hval : ∀ (j : Nat) t v, Try.f4.params[j]? = some t → args[j]? = some v → Value.okWide Try.prog W .any base t v := hval0
  have hW' := hW
  obtain ⟨p, q, hA0, hV, rfl, hfz, hnd⟩ := hW
  have hA : DataW.TrodAll enc Try.prog W 0 (fun _ => true) true Try.f4.params.toList args.toList ds p := hA0
  rw [Try.params4] at hA hval hsz
  obtain ⟨v0, vs0, d0, ds0, p0, q0, hargs, rfl, rfl, h0, r0⟩ := trodAll_cons hA
  obtain ⟨rfl, rfl, rfl⟩ := trodAll_nil r0
  obtain rfl : args = #[v0] := by cases args; simp_all
  obtain ⟨rfl, rfl⟩ := trodVars_none hV
  obtain ⟨cs0, rfl, _⟩ := okWide_struct Try.underlying36 (hval 0 36 v0 rfl rfl)
  obtain ⟨⟨x0_0, x0_1, x0_2, x0_3⟩, k0, g0⟩ := R36.arg h0 (weights_arg hsz (j := 0) rfl rfl)
  obtain ⟨_, _, e0, rfl, ⟨_, _, rfl, rfl, ⟨_, _, rfl, rfl, rfl⟩⟩⟩ := k0
  rw [agg_of e0] at hW' ⊢
  clear hA0 hval0 hsz0 hsz hval
  obtain ⟨k, h⟩ := RasterLines x0_0 x0_1 x0_2 x0_3 g0
  refine (frisketlaw30_RasterLines.calls k x0_0 x0_1 x0_2 x0_3 true W  h).mono fun e W' ⟨he, bel⟩ => ?_
  subst he
  exact ⟨_, rfl, law_post laidOut hW' rfl (by kernel_rfl) ⟨rfl, rfl, rfl⟩ rfl rfl Try.underlying4 rfl bel⟩
theorem over : Rows.rasterLinesRow.holds Try.pinned (OpenSpec.ofChange Rows.rasterLinesSpec) :=
  OpenClaim.holds_of_wide 4 Try.f4 rfl rfl rfl rfl rfl rfl rfl ⟨rfl, rfl, rfl, rfl, rfl⟩ rfl rfl rfl rfl rfl (by kernel_rfl) Try.func4 (by kernel_rfl)
    (of_decide_eq_true (by kernel_rfl)) (by unfold Func.isWrapper; first | (rw [if_pos (by decide +kernel)]; kernel_rfl) | (rw [if_neg (by decide +kernel)]; exact ⟨rfl, rfl⟩))
    (fun os started H enc _ => lifted os started H enc)
theorem proved : Rows.RasterLinesSaid := over
#print axioms proved
end Go.Proofs.Ytcnebeoodkeaoaa.rasterLines
namespace Go.Proofs.Ytcnebeoodkeaoaa
theorem rasterLines_holds : Rows.RasterLinesSaid := rasterLines.proved
end Go.Proofs.Ytcnebeoodkeaoaa
