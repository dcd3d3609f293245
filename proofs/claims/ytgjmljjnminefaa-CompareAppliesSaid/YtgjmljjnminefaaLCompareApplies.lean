/- Any edits are applied as the document says, or refused: true at every input. No condition. -/
import Derived.Test.YtgjmljjnminefaaRows
import Derived.Test.YtgjmljjnminefaaRow
import Derived.Test.YtgjmljjnminefaaPureCompareApplies
namespace Go.Proofs.Ytgjmljjnminefaa.compareApplies
open Go.ChangeShapes Go.WideShapes Go.ChangeAt Go.RowKit Go.Proofs.YtgjmljjnminefaaR Go.Proofs.YtgjmljjnminefaaW.PrintWords Go.Proofs.Ytgjmljjnminefaa.QCompareApplies Go.Proofs.Ytgjmljjnminefaa.PureCompareApplies
theorem own : ownKnob Try.prog.godebug = none := by kernel_rfl
theorem laidOut : laidOutB Try.prog = true := by kernel_rfl
set_option maxRecDepth 100000 in
theorem lifted (os : Os) (started : os.Started) (H : Type) (enc : TypeId × Value → H) :
    ReturnsInHanded {} Try.checked os 6 .any (Rows.compareAppliesSpec.pre6 enc Try.prog Try.f6 Rows.compareAppliesRow.domain false) (Rows.compareAppliesSpec.post enc Try.prog Try.f6 false true false false) := by
  refine returnsInHanded_of_change_sized (C := Try.checked) own started (by kernel_rfl) Try.func6
    (ChangeSpec.witness6 (enc := enc) (C := Try.checked) false ⟨#[], #[.slice none 0 0, .slice none 0 0, .slice none 0 0], []⟩ 8 (by kernel_rfl) (by kernel_rfl) (by kernel_rfl) (by kernel_rfl)) ?_
  intro W base args ds gs before hval0 hW hcnd hsz0 _
  have hsz : (DataW.weightsEach Try.prog (Try.f6.params.toList ++ Rows.compareAppliesSpec.plain.varTypes Try.prog) (ds ++ gs)).all (· ≤ reachBytes) = true := hsz0
  have hval : ∀ (j : Nat) t v, Try.f6.params[j]? = some t → args[j]? = some v → Value.okWide Try.prog W .any base t v := hval0
  have hW' := hW
  obtain ⟨p, q, hA0, hV, rfl, hfz, hnd⟩ := hW
  have hA : DataW.TrodAll enc Try.prog W 0 (fun _ => true) true Try.f6.params.toList args.toList ds p := hA0
  rw [Try.params6] at hA hval hsz
  obtain ⟨v0, vs0, d0, ds0, p0, q0, hargs, rfl, rfl, h0, r0⟩ := trodAll_cons hA
  obtain ⟨v1, vs1, d1, ds1, p1, q1, rfl, rfl, rfl, h1, r1⟩ := trodAll_cons r0
  obtain ⟨v2, vs2, d2, ds2, p2, q2, rfl, rfl, rfl, h2, r2⟩ := trodAll_cons r1
  obtain ⟨rfl, rfl, rfl⟩ := trodAll_nil r2
  obtain rfl : args = #[v0, v1, v2] := by cases args; simp_all
  obtain ⟨rfl, rfl⟩ := trodVars_none hV
  obtain ⟨A0, m0, c0, rfl⟩ := okWide_slice Try.underlying37 (hval 0 37 v0 rfl rfl)
  obtain ⟨l0, ⟨B0, b0, e0, hc0, hr0⟩, g0⟩ := R37.arg h0 (weights_arg hsz (j := 0) rfl rfl)
  obtain ⟨rfl, rfl, rfl⟩ : A0 = B0 ∧ m0 = l0.length ∧ c0 = b0 := by have e : [Value.slice A0 m0 c0] = [Value.slice B0 l0.length b0] := e0; simpa using e
  obtain ⟨A1, m1, c1, rfl⟩ := okWide_slice Try.underlying52 (hval 1 52 v1 rfl rfl)
  obtain ⟨l1, ⟨B1, b1, e1, hc1, hr1⟩, g1⟩ := R52.arg h1 (weights_arg hsz (j := 1) rfl rfl)
  obtain ⟨rfl, rfl, rfl⟩ : A1 = B1 ∧ m1 = l1.length ∧ c1 = b1 := by have e : [Value.slice A1 m1 c1] = [Value.slice B1 l1.length b1] := e1; simpa using e
  obtain ⟨A2, m2, c2, rfl⟩ := okWide_slice Try.underlying37 (hval 2 37 v2 rfl rfl)
  obtain ⟨l2, ⟨B2, b2, e2, hc2, hr2⟩, g2⟩ := R37.arg h2 (weights_arg hsz (j := 2) rfl rfl)
  obtain ⟨rfl, rfl, rfl⟩ : A2 = B2 ∧ m2 = l2.length ∧ c2 = b2 := by have e : [Value.slice A2 m2 c2] = [Value.slice B2 l2.length b2] := e2; simpa using e
  clear hA0 hval0 hsz0 hsz hval
  obtain ⟨k, h⟩ := CompareApplies l0 l1 l2 g0 g1 g2
  refine (frisketlaw36_CompareApplies.calls k _ _ l0 _ _ l1 _ _ l2 true W hr0 hc0 hr1 hc1 hr2 hc2 h).mono fun e W' ⟨he, bel⟩ => ?_
  subst he
  exact ⟨_, rfl, law_post laidOut hW' rfl (by kernel_rfl) ⟨rfl, rfl, rfl⟩ rfl rfl Try.underlying4 rfl bel⟩
theorem over : Rows.compareAppliesRow.holds Try.pinned (OpenSpec.ofChange Rows.compareAppliesSpec) :=
  OpenClaim.holds_of_wide 6 Try.f6 rfl rfl rfl rfl rfl rfl rfl ⟨rfl, rfl, rfl, rfl, rfl⟩ rfl rfl rfl rfl rfl (by kernel_rfl) Try.func6 (by kernel_rfl)
    (of_decide_eq_true (by kernel_rfl)) (by unfold Func.isWrapper; first | (rw [if_pos (by decide +kernel)]; kernel_rfl) | (rw [if_neg (by decide +kernel)]; exact ⟨rfl, rfl⟩))
    (fun os started H enc _ => lifted os started H enc)
theorem proved : Rows.CompareAppliesSaid := over
#print axioms proved
end Go.Proofs.Ytgjmljjnminefaa.compareApplies
namespace Go.Proofs.Ytgjmljjnminefaa
theorem compareApplies_holds : Rows.CompareAppliesSaid := compareApplies.proved
end Go.Proofs.Ytgjmljjnminefaa
