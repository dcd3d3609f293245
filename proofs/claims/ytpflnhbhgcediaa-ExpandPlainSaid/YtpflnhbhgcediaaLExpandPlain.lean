/- A plain text is left as it is, and asks nothing; a text that is not plain asks, or loses something. -/
import Derived.Test.YtpflnhbhgcediaaRows
import Derived.Test.YtpflnhbhgcediaaRow
import Derived.Test.YtpflnhbhgcediaaPureExpandPlain
namespace Go.Proofs.Ytpflnhbhgcediaa.expandPlain
open Go.ChangeShapes Go.WideShapes Go.ChangeAt Go.RowKit Go.Proofs.YtpflnhbhgcediaaR Go.Proofs.YtpflnhbhgcediaaW.PrintWords Go.Proofs.Ytpflnhbhgcediaa.QPl Go.Proofs.Ytpflnhbhgcediaa.PureExpandPlain
theorem own : ownKnob Try.prog.godebug = none := by kernel_rfl
theorem laidOut : laidOutB Try.prog = true := by kernel_rfl
set_option maxRecDepth 100000 in
theorem lifted (os : Os) (started : os.Started) (H : Type) (enc : TypeId × Value → H) :
    ReturnsInHanded {} Try.checked os 6 .any (Rows.expandPlainSpec.pre6 enc Try.prog Try.f6 Rows.expandPlainRow.domain false) (Rows.expandPlainSpec.post enc Try.prog Try.f6 false true false false) := by
  refine returnsInHanded_of_change_sized (C := Try.checked) own started (by kernel_rfl) Try.func6
    (ChangeSpec.witness6 (enc := enc) (C := Try.checked) false ⟨#[], #[.string ByteArray.empty], []⟩ 8 (by kernel_rfl) (by kernel_rfl) (by kernel_rfl) (by kernel_rfl)) ?_
  intro W base args ds gs before hval0 hW hcnd hsz0 _
  have hsz : (DataW.weightsEach Try.prog (Try.f6.params.toList ++ Rows.expandPlainSpec.plain.varTypes Try.prog) (ds ++ gs)).all (· ≤ reachBytes) = true := hsz0
  have hval : ∀ (j : Nat) t v, Try.f6.params[j]? = some t → args[j]? = some v → Value.okWide Try.prog W .any base t v := hval0
  have hW' := hW
  obtain ⟨p, q, hA0, hV, rfl, hfz, hnd⟩ := hW
  have hA : DataW.TrodAll enc Try.prog W 0 (fun _ => true) true Try.f6.params.toList args.toList ds p := hA0
  rw [Try.params6] at hA hval hsz
  obtain ⟨v0, vs0, d0, ds0, p0, q0, hargs, rfl, rfl, h0, r0⟩ := trodAll_cons hA
  obtain ⟨rfl, rfl, rfl⟩ := trodAll_nil r0
  obtain rfl : args = #[v0] := by cases args; simp_all
  obtain ⟨rfl, rfl⟩ := trodVars_none hV
  obtain ⟨n0, rfl⟩ := okWide_string Try.underlying9 (hval 0 9 v0 rfl rfl)
  obtain ⟨a0, e0, g0⟩ := R9.arg h0 (weights_arg hsz (j := 0) rfl rfl)
  obtain rfl : n0 = a0 := by have e : [Value.string n0] = [Value.string a0] := e0; simpa using e
  clear hA0 hval0 hsz0 hsz hval
  have h := ExpandPlain n0 g0
  refine (frisketlaw04_ExpandPlain.calls n0 true W  h).mono fun e W' ⟨he, bel⟩ => ?_
  subst he
  exact ⟨_, rfl, law_post laidOut hW' rfl (by kernel_rfl) ⟨rfl, rfl, rfl⟩ rfl rfl Try.underlying4 rfl bel⟩
theorem over : Rows.expandPlainRow.holds Try.pinned (OpenSpec.ofChange Rows.expandPlainSpec) :=
  OpenClaim.holds_of_wide 6 Try.f6 rfl rfl rfl rfl rfl rfl rfl ⟨rfl, rfl, rfl, rfl, rfl⟩ rfl rfl rfl rfl rfl (by kernel_rfl) Try.func6 (by kernel_rfl)
    (of_decide_eq_true (by kernel_rfl)) (by unfold Func.isWrapper; first | (rw [if_pos (by decide +kernel)]; kernel_rfl) | (rw [if_neg (by decide +kernel)]; exact ⟨rfl, rfl⟩))
    (fun os started H enc _ => lifted os started H enc)
theorem proved : Rows.ExpandPlainSaid := over
#print axioms proved
end Go.Proofs.Ytpflnhbhgcediaa.expandPlain
namespace Go.Proofs.Ytpflnhbhgcediaa
theorem expandPlain_holds : Rows.ExpandPlainSaid := expandPlain.proved
end Go.Proofs.Ytpflnhbhgcediaa
