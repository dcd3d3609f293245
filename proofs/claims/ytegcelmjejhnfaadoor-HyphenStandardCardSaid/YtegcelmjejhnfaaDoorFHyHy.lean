/- What strings.Fields, strings.ReplaceAll and slices.ContainsFunc compute, as far as hyphen's functions call them. Fields reads a table of its own (Tab). -/
import Derived.Test.YtegcelmjejhnfaaDoorFLowHy
import Derived.Test.YtegcelmjejhnfaaDoorLay
import Derived.Test.YtegcelmjejhnfaaDoorReplOne
import Derived.Test.YtegcelmjejhnfaaDoorPredStrsHy
import Derived.Lib.AppendIntMem
namespace Go.Proofs.YtegcelmjejhnfaaDoor.QHy
open Go.RowKit Go.Proofs.YtegcelmjejhnfaaDoorW.PrintWords Go.Proofs.YtegcelmjejhnfaaDoorW.PrintLast Go.Proofs.YtegcelmjejhnfaaDoorW.PrintMore Go.Proofs.YtegcelmjejhnfaaDoorN
set_option linter.unusedVariables false
set_option linter.unusedSimpArgs false
/-- The library's table of white bytes holds what it was laid with. -/
def Tab (w : World) : Prop := Lib.TabIs Tryd.prog w "strings.asciiSpace" .u8 Lib.asciiSpaceTab
theorem Tab.below {w w' : World} (h : Tab w) (hb : Below w.heap.size w w') : Tab w' := Lib.tabBelow_of_tabIs h w' hb
def strings_ReplaceAll.f (a0 : ByteArray) (a1 : ByteArray) (a2 : ByteArray) : Option ByteArray :=
  match a1.data.toList with
  | [c] => if a0.size < 10000000 ∧ a2.size < 10000 ∧ a2.data.toList ≠ [c] then some ⟨(ReplOne.rep c a2.data.toList a0.data.toList).toArray⟩ else none
  | _ => none
theorem strings_ReplaceAll.calls (a0 : ByteArray) (a1 : ByteArray) (a2 : ByteArray) (r : ByteArray) (w : World) (h : strings_ReplaceAll.f a0 a1 a2 = some r) :
    Calls Tryd.prog 33 #[.string a0, .string a1, .string a2] w fun e w' => e = .returned (.string r) ∧ Below w.heap.size w w' := by
  unfold strings_ReplaceAll.f at h
  split at h
  · rename_i c hc
    split at h
    · rename_i hk
      cases h
      obtain rfl : a1 = ⟨#[c]⟩ := by
        obtain ⟨d⟩ := a1
        have : d.toList = [c] := hc
        congr 1
        exact Array.toList_inj.1 this
      refine ReplOne.replaceAll_one Lay.l155 Lay.extra a0 a2 c w (fun e => hk.2.2 (by rw [← e])) (by omega) ?_
      have : a0.size * a2.size ≤ 10000000 * 10000 := Nat.mul_le_mul (by omega) (by omega)
      omega
    · cases h
  · cases h
def asciiB (s : ByteArray) : Bool := s.data.toList.all fun b => decide (b.toNat < 128)
def strings_Fields.f (a0 : ByteArray) : Option (List ByteArray) :=
  if a0.size < 4294967281 ∧ asciiB a0 = true ∧ (Lib.fields a0.data.toList).length ≤ 1000000 then some ((Lib.fields a0.data.toList).map fun l => ⟨l.toArray⟩) else none
theorem strings_Fields.calls (a0 : ByteArray) (r : List ByteArray) (w : World) (hT : Tab w) (h : strings_Fields.f a0 = some r) :
    Calls Tryd.prog 36 #[.string a0] w fun e w' => ∃ v0_ : Value, e = .returned (v0_) ∧ Kd.R Kd.string 9 w' w.heap.size (fun _ => True) v0_ r ∧ Below w.heap.size w w' := by
  unfold strings_Fields.f at h
  split at h
  · rename_i hc
    cases h
    have hascii : ∀ (j : Nat) b, a0.data.toList[j]? = some b → b.toNat < 128 := fun j b hj => by
      have := List.all_eq_true.1 hc.2.1 b (List.mem_of_getElem? hj)
      simpa using this
    refine (Any.strings_Fields Lay.l157 (by kernel_rfl) (by kernel_rfl) a0 w hc.1 hascii hT).mono ?_
    rintro e w' ⟨rfl, rfl⟩
    refine ⟨_, rfl, Kd.R_of_own (enc := Value.string) (h1 := fun _ => rfl) ⟨by simp [encs], Or.inr ⟨w.heap.size, _, _, by rw [List.length_map], Nat.le_refl _, blk_new w _, by rw [List.length_map]; exact Nat.le_refl _, ?_, ?_, ?_⟩⟩ (fun _ _ => trivial), below_alloc (Below.refl _ _) _⟩
    · have := hc.2.2
      have e : maxLen = 9223372036854775807 := rfl
      omega
    · simp
    · simp [encs, List.take_of_length_le, Function.comp_def]
  · cases h
def slices_ContainsFunc_string_string.f (l0 : List ByteArray) (a1 : Unit) : Option Bool := if l0 = [] then some false else none
theorem slices_ContainsFunc_string_string.calls (A0 : Option Addr) (c0 : Nat) (l0 : List ByteArray) (a1 : Unit) (r : Bool) (w : World) (hr0 : Kd.C Kd.string w A0 l0.length l0) (hc0 : l0.length ≤ c0) (h : slices_ContainsFunc_string_string.f l0 a1 = some r) :
    Calls Tryd.prog 29 #[.slice A0 l0.length c0, .func (.func 30) #[] #[]] w fun e w' => e = .returned (.bool r) ∧ Below w.heap.size w w' := by
  unfold slices_ContainsFunc_string_string.f at h
  split at h
  · rename_i hl
    subst hl
    cases h
    exact PredStrs.contains_calls 30 #[] Tryd.f30 (fun _ => false) Tryd.func30 (by kernel_rfl) rfl A0 c0 [] w hr0 hc0 (by simp) (fun _ => False) (by simp) (fun _ _ h => h.elim)
  · cases h
def hyphen_Exception.f (a0 : ByteArray) : Option Bool := none
theorem hyphen_Exception.calls (a0 : ByteArray) (r : Bool) (w : World) (h : hyphen_Exception.f a0 = some r) :
    Calls Tryd.prog 22 #[.string a0] w fun e w' => e = .returned (.bool r) ∧ Below w.heap.size w w' := by cases h
end Go.Proofs.YtegcelmjejhnfaaDoor.QHy
