/- What strings.ReplaceAll and strings.Contains compute, as far as hyphen's functions call them; the facts about package variables that Fields and Contains ask for (Tab). -/
import Derived.Test.YtegcelmjejhnfaaDoorFLowHy
import Derived.Test.YtegcelmjejhnfaaDoorLay
import Derived.Test.YtegcelmjejhnfaaDoorReplOne
import Derived.Lib.AppendIntMem
namespace Go.Proofs.YtegcelmjejhnfaaDoor.QHy
open Go.RowKit Go.Proofs.YtegcelmjejhnfaaDoorW.PrintWords Go.Proofs.YtegcelmjejhnfaaDoorW.PrintLast Go.Proofs.YtegcelmjejhnfaaDoorW.PrintMore Go.Proofs.YtegcelmjejhnfaaDoorN
set_option linter.unusedVariables false
set_option linter.unusedSimpArgs false
/-- The library's table of white bytes holds what it was laid with; the variable MaxLen holds a number. -/
def Tab (w : World) : Prop := Lib.TabIs Tryd.prog w "strings.asciiSpace" .u8 Lib.asciiSpaceTab ∧ ∃ m, w.cell? ⟨2, 0, none⟩ = some (.int .i64 m)
theorem Tab.below {w w' : World} (h : Tab w) (hb : Below w.heap.size w w') : Tab w' := by
  obtain ⟨h1, m, h2⟩ := h
  refine ⟨Lib.tabBelow_of_tabIs h1 w' hb, m, ?_⟩
  rw [hb.cell (p := ⟨2, 0, none⟩)]
  · exact h2
  · rcases Nat.lt_or_ge 2 w.heap.size with h3 | h3
    · exact h3
    · simp [World.cell?, Array.getElem?_eq_none h3] at h2
def strings_ReplaceAll.f (a0 : ByteArray) (a1 : ByteArray) (a2 : ByteArray) : Option ByteArray :=
  match a1.data.toList with
  | [c] => if a0.size < 10000000 ∧ a2.size < 10000 ∧ a2.data.toList ≠ [c] then some ⟨(ReplOne.rep c a2.data.toList a0.data.toList).toArray⟩ else none
  | _ => none
theorem strings_ReplaceAll.calls (a0 : ByteArray) (a1 : ByteArray) (a2 : ByteArray) (r : ByteArray) (w : World) (h : strings_ReplaceAll.f a0 a1 a2 = some r) :
    Calls Tryd.prog 33 #[.string a0, .string a1, .string a2] w fun e w' => e = .returned (.string r) ∧ Below w.heap.size w w' := by
  unfold strings_ReplaceAll.f at h
  split at h
  · rename_i c hc
    split at h
    · rename_i hk
      cases h
      obtain rfl : a1 = ⟨#[c]⟩ := by
        obtain ⟨d⟩ := a1
        have : d.toList = [c] := hc
        congr 1
        exact Array.toList_inj.1 this
      refine ReplOne.replaceAll_one Lay.l155 Lay.extra a0 a2 c w (fun e => hk.2.2 (by rw [← e])) (by omega) ?_
      have : a0.size * a2.size ≤ 10000000 * 10000 := Nat.mul_le_mul (by omega) (by omega)
      omega
    · cases h
  · cases h
def strings_Contains.f (a0 : ByteArray) (a1 : ByteArray) : Option Bool := if a0.size < 4294967281 then some (Lib.contains a0.data.toList a1.data.toList) else none
theorem strings_Contains.calls (a0 : ByteArray) (a1 : ByteArray) (r : Bool) (w : World) (hT : Tab w) (h : strings_Contains.f a0 a1 = some r) :
    Calls Tryd.prog 41 #[.string a0, .string a1] w fun e w' => e = .returned (.bool r) ∧ Below w.heap.size w w' := by
  unfold strings_Contains.f at h
  split at h
  · rename_i hc
    cases h
    obtain ⟨_, m, hm⟩ := hT
    refine (Any.strings_Contains { Lay.l144 with } a0 a1 m w hc hm).mono ?_
    rintro e w' ⟨rfl, rfl⟩
    exact ⟨rfl, Below.refl _ _⟩
  · cases h
end Go.Proofs.YtegcelmjejhnfaaDoor.QHy
