/- What strings.Fields, hyphen.Exception and slices.ContainsFunc compute, as far as hyphen's functions call them. -/
import Derived.Test.YtegcelmjejhnfaaDoorFRepHy
import Derived.Test.YtegcelmjejhnfaaDoorPredStrsHy
import Derived.Test.YtegcelmjejhnfaaDoorQHex1
namespace Go.Proofs.YtegcelmjejhnfaaDoor.QHy
open Go.RowKit Go.Proofs.YtegcelmjejhnfaaDoorW.PrintWords Go.Proofs.YtegcelmjejhnfaaDoorW.PrintLast Go.Proofs.YtegcelmjejhnfaaDoorW.PrintMore Go.Proofs.YtegcelmjejhnfaaDoorN
set_option linter.unusedVariables false
set_option linter.unusedSimpArgs false
def asciiB (s : ByteArray) : Bool := s.data.toList.all fun b => decide (b.toNat < 128)
def strings_Fields.f (a0 : ByteArray) : Option (List ByteArray) :=
  if a0.size < 4294967281 ∧ asciiB a0 = true ∧ (Lib.fields a0.data.toList).length ≤ 1000000 then some ((Lib.fields a0.data.toList).map fun l => ⟨l.toArray⟩) else none
theorem strings_Fields.calls (a0 : ByteArray) (r : List ByteArray) (w : World) (hT : Tab w) (h : strings_Fields.f a0 = some r) :
    Calls Tryd.prog 36 #[.string a0] w fun e w' => ∃ v0_ : Value, e = .returned (v0_) ∧ Kd.R Kd.string 9 w' w.heap.size (fun _ => True) v0_ r ∧ Below w.heap.size w w' := by
  unfold strings_Fields.f at h
  split at h
  · rename_i hc
    cases h
    have hascii : ∀ (j : Nat) b, a0.data.toList[j]? = some b → b.toNat < 128 := fun j b hj => by
      have := List.all_eq_true.1 hc.2.1 b (List.mem_of_getElem? hj)
      simpa using this
    refine (Any.strings_Fields Lay.l157 (by kernel_rfl) (by kernel_rfl) a0 w hc.1 hascii hT.1).mono ?_
    rintro e w' ⟨rfl, rfl⟩
    refine ⟨_, rfl, Kd.R_of_own (enc := Value.string) (h1 := fun _ => rfl) ⟨by simp [encs], Or.inr ⟨w.heap.size, _, _, by rw [List.length_map], Nat.le_refl _, blk_new w _, by rw [List.length_map]; exact Nat.le_refl _, ?_, ?_, ?_⟩⟩ (fun _ _ => trivial), below_alloc (Below.refl _ _) _⟩
    · have := hc.2.2
      have e : maxLen = 9223372036854775807 := rfl
      omega
    · simp
    · simp [encs, List.take_of_length_le, Function.comp_def]
  · cases h
def hyphen_Exception.f (a0 : ByteArray) : Option Bool := QHe.hyphen_Exception.f a0
theorem hyphen_Exception.calls (a0 : ByteArray) (r : Bool) (w : World) (hT : Tab w) (h : hyphen_Exception.f a0 = some r) :
    Calls Tryd.prog 22 #[.string a0] w fun e w' => e = .returned (.bool r) ∧ Below w.heap.size w w' := QHe.hyphen_Exception.calls a0 r w hT h
/-- Is one of the texts no exception? -/
def noExc (s : ByteArray) : Bool := QHe.hyphen_Points_1.f s == some true
def slices_ContainsFunc_string_string.f (l0 : List ByteArray) (a1 : Unit) : Option Bool := if l0.length < 4611686018427387904 ∧ l0.all (fun s => (QHe.hyphen_Points_1.f s).isSome) = true then some (l0.any noExc) else none
theorem slices_ContainsFunc_string_string.calls (A0 : Option Addr) (c0 : Nat) (l0 : List ByteArray) (a1 : Unit) (r : Bool) (w : World) (hr0 : Kd.C Kd.string w A0 l0.length l0) (hc0 : l0.length ≤ c0) (hT : Tab w) (h : slices_ContainsFunc_string_string.f l0 a1 = some r) :
    Calls Tryd.prog 29 #[.slice A0 l0.length c0, .func (.func 30) #[] #[]] w fun e w' => e = .returned (.bool r) ∧ Below w.heap.size w w' := by
  unfold slices_ContainsFunc_string_string.f at h
  split at h
  · rename_i hl
    cases h
    refine PredStrs.contains_calls 30 #[] Tryd.f30 noExc Tryd.func30 (by kernel_rfl) rfl A0 c0 l0 w hr0 hc0 hl.1 (fun s => (QHe.hyphen_Points_1.f s).isSome = true) (fun s hs => List.all_eq_true.1 hl.2 s hs) ?_
    intro W s hs hb
    obtain ⟨b, hb2⟩ := Option.isSome_iff_exists.1 hs
    have e : noExc s = b := by
      unfold noExc
      rw [hb2]
      cases b <;> rfl
    rw [e]
    exact QHe.hyphen_Points_1.calls s b W (Tab.below hT hb) hb2
  · cases h
end Go.Proofs.YtegcelmjejhnfaaDoor.QHy
