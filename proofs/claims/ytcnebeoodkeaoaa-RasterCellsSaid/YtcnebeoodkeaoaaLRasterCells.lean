/- The law RasterCells is true at every input: places and cells go over into each other as the document says. No condition. -/
import Derived.Test.YtcnebeoodkeaoaaRows
import Derived.Test.YtcnebeoodkeaoaaRow
import Derived.Test.YtcnebeoodkeaoaaPureRasterCells
namespace Go.Proofs.Ytcnebeoodkeaoaa.rasterCells
open Go.ChangeShapes Go.WideShapes Go.ChangeAt Go.RowKit Go.Proofs.YtcnebeoodkeaoaaR Go.Proofs.YtcnebeoodkeaoaaW.PrintWords Go.Proofs.Ytcnebeoodkeaoaa.QRasterCells Go.Proofs.Ytcnebeoodkeaoaa.PureRasterCells
theorem own : ownKnob Try.prog.godebug = none := by kernel_rfl
theorem laidOut : laidOutB Try.prog = true := by kernel_rfl
set_option maxRecDepth 100000 in
theorem lifted (os : Os) (started : os.Started) (H : Type) (enc : TypeId × Value → H) :
    ReturnsInHanded {} Try.checked os 3 .any (Rows.rasterCellsSpec.pre6 enc Try.prog Try.f3 Rows.rasterCellsRow.domain false) (Rows.rasterCellsSpec.post enc Try.prog Try.f3 false true false false) := by
  refine returnsInHanded_of_change_sized (C := Try.checked) own started (by kernel_rfl) Try.func3
    (ChangeSpec.witness6 (enc := enc) (C := Try.checked) false ⟨#[], #[.agg #[.int .i64 0, .int .i64 0, .int .i64 0], .int .i64 0, .int .i64 0], []⟩ 8 (by kernel_rfl) (by kernel_rfl) (by kernel_rfl) (by kernel_rfl)) ?_
  intro W base args ds gs before hval0 hW hcnd hsz0 _
  have hsz : (DataW.weightsEach Try.prog (Try.f3.params.toList ++ Rows.rasterCellsSpec.plain.varTypes Try.prog) (ds ++ gs)).all (· ≤ reachBytes) = true := hsz0
  have hval : ∀ (j : Nat) t v, Try.f3.params[j]? = some t → args[j]? = some v → Value.okWide Try.prog W .any base t v := hval0
  have hW' := hW
  obtain ⟨p, q, hA0, hV, rfl, hfz, hnd⟩ := hW
  have hA : DataW.TrodAll enc Try.prog W 0 (fun _ => true) true Try.f3.params.toList args.toList ds p := hA0
  rw [Try.params3] at hA hval hsz
  obtain ⟨v0, vs0, d0, ds0, p0, q0, hargs, rfl, rfl, h0, r0⟩ := trodAll_cons hA
  obtain ⟨v1, vs1, d1, ds1, p1, q1, rfl, rfl, rfl, h1, r1⟩ := trodAll_cons r0
  obtain ⟨v2, vs2, d2, ds2, p2, q2, rfl, rfl, rfl, h2, r2⟩ := trodAll_cons r1
  obtain ⟨rfl, rfl, rfl⟩ := trodAll_nil r2
  obtain rfl : args = #[v0, v1, v2] := by cases args; simp_all
  obtain ⟨rfl, rfl⟩ := trodVars_none hV
  obtain ⟨cs0, rfl, _⟩ := okWide_struct Try.underlying23 (hval 0 23 v0 rfl rfl)
  obtain ⟨⟨x0_0, x0_1, x0_2⟩, k0, g0⟩ := R23.arg h0 (weights_arg hsz (j := 0) rfl rfl)
  obtain ⟨_, _, e0, rfl, ⟨_, _, rfl, rfl, rfl⟩⟩ := k0
  rw [agg_of e0] at hW' ⊢
  obtain ⟨n1, rfl⟩ := okWide_int Try.underlying3 (hval 1 3 v1 rfl rfl)
  obtain ⟨a1, e1, g1⟩ := R3.arg h1 (weights_arg hsz (j := 1) rfl rfl)
  obtain rfl : n1 = a1 := by have e : [Value.int .i64 n1] = [Value.int .i64 a1] := e1; simpa using e
  obtain ⟨n2, rfl⟩ := okWide_int Try.underlying3 (hval 2 3 v2 rfl rfl)
  obtain ⟨a2, e2, g2⟩ := R3.arg h2 (weights_arg hsz (j := 2) rfl rfl)
  obtain rfl : n2 = a2 := by have e : [Value.int .i64 n2] = [Value.int .i64 a2] := e2; simpa using e
  clear hA0 hval0 hsz0 hsz hval
  obtain ⟨k, h⟩ := RasterCells x0_0 x0_1 x0_2 n1 n2 g0 g1 g2
  refine (frisketlaw30_RasterCells.calls k x0_0 x0_1 x0_2 n1 n2 true W  h).mono fun e W' ⟨he, bel⟩ => ?_
  subst he
  exact ⟨_, rfl, law_post laidOut hW' rfl (by kernel_rfl) ⟨rfl, rfl, rfl⟩ rfl rfl Try.underlying4 rfl bel⟩
theorem over : Rows.rasterCellsRow.holds Try.pinned (OpenSpec.ofChange Rows.rasterCellsSpec) :=
  OpenClaim.holds_of_wide 3 Try.f3 rfl rfl rfl rfl rfl rfl rfl ⟨rfl, rfl, rfl, rfl, rfl⟩ rfl rfl rfl rfl rfl (by kernel_rfl) Try.func3 (by kernel_rfl)
    (of_decide_eq_true (by kernel_rfl)) (by unfold Func.isWrapper; first | (rw [if_pos (by decide +kernel)]; kernel_rfl) | (rw [if_neg (by decide +kernel)]; exact ⟨rfl, rfl⟩))
    (fun os started H enc _ => lifted os started H enc)
theorem proved : Rows.RasterCellsSaid := over
#print axioms proved
end Go.Proofs.Ytcnebeoodkeaoaa.rasterCells
namespace Go.Proofs.Ytcnebeoodkeaoaa
theorem rasterCells_holds : Rows.RasterCellsSaid := rasterCells.proved
end Go.Proofs.Ytcnebeoodkeaoaa
