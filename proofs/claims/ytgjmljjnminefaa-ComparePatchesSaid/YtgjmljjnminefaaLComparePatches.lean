/- A patch of two lists of marks is the one of the document; used, it makes the other list; any patch is used as the document says: true at every input. No condition. -/
import Derived.Test.YtgjmljjnminefaaRows
import Derived.Test.YtgjmljjnminefaaRow
import Derived.Test.YtgjmljjnminefaaPureComparePatches
namespace Go.Proofs.Ytgjmljjnminefaa.comparePatches
open Go.ChangeShapes Go.WideShapes Go.ChangeAt Go.RowKit Go.Proofs.YtgjmljjnminefaaR Go.Proofs.YtgjmljjnminefaaW.PrintWords Go.Proofs.Ytgjmljjnminefaa.QCP Go.Proofs.Ytgjmljjnminefaa.PureComparePatches
theorem own : ownKnob Try.prog.godebug = none := by kernel_rfl
theorem laidOut : laidOutB Try.prog = true := by kernel_rfl
set_option maxRecDepth 100000 in
theorem lifted (os : Os) (started : os.Started) (H : Type) (enc : TypeId × Value → H) :
    ReturnsInHanded {} Try.checked os 4 .any (Rows.comparePatchesSpec.pre6 enc Try.prog Try.f4 Rows.comparePatchesRow.domain false) (Rows.comparePatchesSpec.post enc Try.prog Try.f4 false true false false) := by
  refine returnsInHanded_of_change_sized (C := Try.checked) own started (by kernel_rfl) Try.func4
    (ChangeSpec.witness6 (enc := enc) (C := Try.checked) false ⟨#[], #[.slice none 0 0, .slice none 0 0, .agg #[.int .i64 0, .int .i64 0, .slice none 0 0]], []⟩ 8 (by kernel_rfl) (by kernel_rfl) (by kernel_rfl) (by kernel_rfl)) ?_
  intro W base args ds gs before hval0 hW hcnd hsz0 _
  have hsz : (DataW.weightsEach Try.prog (Try.f4.params.toList ++ Rows.comparePatchesSpec.plain.varTypes Try.prog) (ds ++ gs)).all (· ≤ reachBytes) = true := hsz0
  have hval : ∀ (j : Nat) t v, Try.f4.params[j]? = some t → args[j]? = some v → Value.okWide Try.prog W .any base t v := hval0
  have hW' := hW
  obtain ⟨p, q, hA0, hV, rfl, hfz, hnd⟩ := hW
  have hA : DataW.TrodAll enc Try.prog W 0 (fun _ => true) true Try.f4.params.toList args.toList ds p := hA0
  rw [Try.params4] at hA hval hsz
  obtain ⟨v0, vs0, d0, ds0, p0, q0, hargs, rfl, rfl, h0, r0⟩ := trodAll_cons hA
  obtain ⟨v1, vs1, d1, ds1, p1, q1, rfl, rfl, rfl, h1, r1⟩ := trodAll_cons r0
  obtain ⟨v2, vs2, d2, ds2, p2, q2, rfl, rfl, rfl, h2, r2⟩ := trodAll_cons r1
  obtain ⟨rfl, rfl, rfl⟩ := trodAll_nil r2
  obtain rfl : args = #[v0, v1, v2] := by cases args; simp_all
  obtain ⟨rfl, rfl⟩ := trodVars_none hV
  obtain ⟨A0, m0, c0, rfl⟩ := okWide_slice Try.underlying37 (hval 0 37 v0 rfl rfl)
  obtain ⟨l0, ⟨B0, b0, e0, hc0, hr0⟩, g0⟩ := R37.arg h0 (weights_arg hsz (j := 0) rfl rfl)
  obtain ⟨rfl, rfl, rfl⟩ : A0 = B0 ∧ m0 = l0.length ∧ c0 = b0 := by have e : [Value.slice A0 m0 c0] = [Value.slice B0 l0.length b0] := e0; simpa using e
  obtain ⟨A1, m1, c1, rfl⟩ := okWide_slice Try.underlying37 (hval 1 37 v1 rfl rfl)
  obtain ⟨l1, ⟨B1, b1, e1, hc1, hr1⟩, g1⟩ := R37.arg h1 (weights_arg hsz (j := 1) rfl rfl)
  obtain ⟨rfl, rfl, rfl⟩ : A1 = B1 ∧ m1 = l1.length ∧ c1 = b1 := by have e : [Value.slice A1 m1 c1] = [Value.slice B1 l1.length b1] := e1; simpa using e
  obtain ⟨cs2, rfl, _⟩ := okWide_struct Try.underlying39 (hval 2 39 v2 rfl rfl)
  obtain ⟨⟨x2_0, x2_1, x2_2⟩, k2, g2⟩ := R39.arg h2 (weights_arg hsz (j := 2) rfl rfl)
  obtain ⟨_, _, e2, rfl, ⟨_, _, rfl, rfl, ⟨A2_2, c2_2, rfl, hc2_2, hr2_2⟩⟩⟩ := k2
  rw [agg_of e2] at hW' ⊢
  clear hA0 hval0 hsz0 hsz hval
  obtain ⟨k, h⟩ := ComparePatches l0 l1 x2_0 x2_1 x2_2 g0 g1 g2
  refine (frisketlaw36_ComparePatches.calls k _ _ l0 _ _ l1 x2_0 x2_1 _ _ x2_2 true W hr0 hc0 hr1 hc1 hr2_2 hc2_2 h).mono fun e W' ⟨he, bel⟩ => ?_
  subst he
  exact ⟨_, rfl, law_post laidOut hW' rfl (by kernel_rfl) ⟨rfl, rfl, rfl⟩ rfl rfl Try.underlying4 rfl bel⟩
theorem over : Rows.comparePatchesRow.holds Try.pinned (OpenSpec.ofChange Rows.comparePatchesSpec) :=
  OpenClaim.holds_of_wide 4 Try.f4 rfl rfl rfl rfl rfl rfl rfl ⟨rfl, rfl, rfl, rfl, rfl⟩ rfl rfl rfl rfl rfl (by kernel_rfl) Try.func4 (by kernel_rfl)
    (of_decide_eq_true (by kernel_rfl)) (by unfold Func.isWrapper; first | (rw [if_pos (by decide +kernel)]; kernel_rfl) | (rw [if_neg (by decide +kernel)]; exact ⟨rfl, rfl⟩))
    (fun os started H enc _ => lifted os started H enc)
theorem proved : Rows.ComparePatchesSaid := over
#print axioms proved
end Go.Proofs.Ytgjmljjnminefaa.comparePatches
namespace Go.Proofs.Ytgjmljjnminefaa
theorem comparePatches_holds : Rows.ComparePatchesSaid := comparePatches.proved
end Go.Proofs.Ytgjmljjnminefaa
