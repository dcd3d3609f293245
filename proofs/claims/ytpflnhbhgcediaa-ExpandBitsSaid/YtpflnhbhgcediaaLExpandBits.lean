/- Texts that are made of escapes and parts of them are expanded as the document says, with answers made likewise. -/
import Derived.Test.YtpflnhbhgcediaaRows
import Derived.Test.YtpflnhbhgcediaaRow
import Derived.Test.YtpflnhbhgcediaaPureExpandBits
namespace Go.Proofs.Ytpflnhbhgcediaa.expandBits
open Go.ChangeShapes Go.WideShapes Go.ChangeAt Go.RowKit Go.Proofs.YtpflnhbhgcediaaR Go.Proofs.YtpflnhbhgcediaaW.PrintWords Go.Proofs.Ytpflnhbhgcediaa.QBt Go.Proofs.Ytpflnhbhgcediaa.PureExpandBits
theorem own : ownKnob Try.prog.godebug = none := by kernel_rfl
theorem laidOut : laidOutB Try.prog = true := by kernel_rfl
set_option maxRecDepth 100000 in
theorem lifted (os : Os) (started : os.Started) (H : Type) (enc : TypeId × Value → H) :
    ReturnsInHanded {} Try.checked os 4 .any (Rows.expandBitsSpec.pre6 enc Try.prog Try.f4 Rows.expandBitsRow.domain false) (Rows.expandBitsSpec.post enc Try.prog Try.f4 false true false false) := by
  refine returnsInHanded_of_change_sized (C := Try.checked) own started (by kernel_rfl) Try.func4
    (ChangeSpec.witness6 (enc := enc) (C := Try.checked) false ⟨#[], #[.slice none 0 0, .bool false, .slice none 0 0], []⟩ 8 (by kernel_rfl) (by kernel_rfl) (by kernel_rfl) (by kernel_rfl)) ?_
  intro W base args ds gs before hval0 hW hcnd hsz0 _
  have hsz : (DataW.weightsEach Try.prog (Try.f4.params.toList ++ Rows.expandBitsSpec.plain.varTypes Try.prog) (ds ++ gs)).all (· ≤ reachBytes) = true := hsz0
  have hval : ∀ (j : Nat) t v, Try.f4.params[j]? = some t → args[j]? = some v → Value.okWide Try.prog W .any base t v := hval0
  have hW' := hW
  obtain ⟨p, q, hA0, hV, rfl, hfz, hnd⟩ := hW
  have hA : DataW.TrodAll enc Try.prog W 0 (fun _ => true) true Try.f4.params.toList args.toList ds p := hA0
  rw [Try.params4] at hA hval hsz
  obtain ⟨v0, vs0, d0, ds0, p0, q0, hargs, rfl, rfl, h0, r0⟩ := trodAll_cons hA
  obtain ⟨v1, vs1, d1, ds1, p1, q1, rfl, rfl, rfl, h1, r1⟩ := trodAll_cons r0
  obtain ⟨v2, vs2, d2, ds2, p2, q2, rfl, rfl, rfl, h2, r2⟩ := trodAll_cons r1
  obtain ⟨rfl, rfl, rfl⟩ := trodAll_nil r2
  obtain rfl : args = #[v0, v1, v2] := by cases args; simp_all
  obtain ⟨rfl, rfl⟩ := trodVars_none hV
  obtain ⟨A0, m0, c0, rfl⟩ := okWide_slice Try.underlying26 (hval 0 26 v0 rfl rfl)
  obtain ⟨l0, ⟨B0, b0, e0, hc0, hr0⟩, g0⟩ := R26.arg h0 (weights_arg hsz (j := 0) rfl rfl)
  obtain ⟨rfl, rfl, rfl⟩ : A0 = B0 ∧ m0 = l0.length ∧ c0 = b0 := by have e : [Value.slice A0 m0 c0] = [Value.slice B0 l0.length b0] := e0; simpa using e
  obtain ⟨n1, rfl⟩ := okWide_bool Try.underlying4 (hval 1 4 v1 rfl rfl)
  obtain ⟨A2, m2, c2, rfl⟩ := okWide_slice Try.underlying27 (hval 2 27 v2 rfl rfl)
  obtain ⟨l2, ⟨B2, b2, e2, hc2, hr2⟩, g2⟩ := R27.arg h2 (weights_arg hsz (j := 2) rfl rfl)
  obtain ⟨rfl, rfl, rfl⟩ : A2 = B2 ∧ m2 = l2.length ∧ c2 = b2 := by have e : [Value.slice A2 m2 c2] = [Value.slice B2 l2.length b2] := e2; simpa using e
  clear hA0 hval0 hsz0 hsz hval
  obtain ⟨k, h⟩ := ExpandBits l0 n1 l2 g0 g2
  refine (frisketlaw04_ExpandBits.calls k _ _ l0 n1 _ _ l2 true W hr0 hc0 hr2 hc2 h).mono fun e W' ⟨he, bel⟩ => ?_
  subst he
  exact ⟨_, rfl, law_post laidOut hW' rfl (by kernel_rfl) ⟨rfl, rfl, rfl⟩ rfl rfl Try.underlying4 rfl bel⟩
theorem over : Rows.expandBitsRow.holds Try.pinned (OpenSpec.ofChange Rows.expandBitsSpec) :=
  OpenClaim.holds_of_wide 4 Try.f4 rfl rfl rfl rfl rfl rfl rfl ⟨rfl, rfl, rfl, rfl, rfl⟩ rfl rfl rfl rfl rfl (by kernel_rfl) Try.func4 (by kernel_rfl)
    (of_decide_eq_true (by kernel_rfl)) (by unfold Func.isWrapper; first | (rw [if_pos (by decide +kernel)]; kernel_rfl) | (rw [if_neg (by decide +kernel)]; exact ⟨rfl, rfl⟩))
    (fun os started H enc _ => lifted os started H enc)
theorem proved : Rows.ExpandBitsSaid := over
#print axioms proved
end Go.Proofs.Ytpflnhbhgcediaa.expandBits
namespace Go.Proofs.Ytpflnhbhgcediaa
theorem expandBits_holds : Rows.ExpandBitsSaid := expandBits.proved
end Go.Proofs.Ytpflnhbhgcediaa
