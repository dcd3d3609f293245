/- What strings.ReplaceAll and strings.Contains compute, as far as Protect calls them. -/
import Derived.Test.YtpflnhbhgcediaaDoorQBkx0
import Derived.Test.YtpflnhbhgcediaaDoorLay
import Derived.Test.YtpflnhbhgcediaaDoorLay2
import Derived.Test.YtpflnhbhgcediaaDoorReplOne
namespace Go.Proofs.YtpflnhbhgcediaaDoor.QBk
open Go.RowKit Go.Proofs.YtpflnhbhgcediaaDoorW.PrintWords Go.Proofs.YtpflnhbhgcediaaDoorW.PrintLast Go.Proofs.YtpflnhbhgcediaaDoorW.PrintMore
set_option linter.unusedVariables false
def strings_ReplaceAll.f (a0 : ByteArray) (a1 : ByteArray) (a2 : ByteArray) : Option ByteArray :=
  match a1.data.toList with
  | [c] => if a0.size < 10000000 ∧ a2.size < 10000 ∧ a2.data.toList ≠ [c] then some ⟨(ReplOne.rep c a2.data.toList a0.data.toList).toArray⟩ else none
  | _ => none
theorem strings_ReplaceAll.calls (a0 : ByteArray) (a1 : ByteArray) (a2 : ByteArray) (r : ByteArray) (w : World) (h : strings_ReplaceAll.f a0 a1 a2 = some r) :
    Calls Tryd.prog 18 #[.string a0, .string a1, .string a2] w fun e w' => e = .returned (.string r) ∧ Below w.heap.size w w' := by
  unfold strings_ReplaceAll.f at h
  split at h
  · rename_i c hc
    split at h
    · rename_i hk
      cases h
      obtain rfl : a1 = ⟨#[c]⟩ := by
        obtain ⟨d⟩ := a1
        have : d.toList = [c] := hc
        congr 1
        exact Array.toList_inj.1 this
      refine ReplOne.replaceAll_one Lay2.l155 Lay2.extra a0 a2 c w (fun e => hk.2.2 (by rw [← e])) (by omega) ?_
      have : a0.size * a2.size ≤ 10000000 * 10000 := Nat.mul_le_mul (by omega) (by omega)
      omega
    · cases h
  · cases h
def strings_Contains.f (a0 : ByteArray) (a1 : ByteArray) : Option Bool :=
  match a1.data.toList with
  | [c] => some (decide (0 ≤ Lib.indexByte a0.data.toList c))
  | _ => none
theorem strings_Contains.calls (a0 : ByteArray) (a1 : ByteArray) (r : Bool) (w : World) (h : strings_Contains.f a0 a1 = some r) :
    Calls Tryd.prog 29 #[.string a0, .string a1] w fun e w' => e = .returned (.bool r) ∧ Drawn0 w w' := by
  unfold strings_Contains.f at h
  split at h
  · rename_i c hc
    cases h
    obtain rfl : a1 = ⟨#[c]⟩ := by
      obtain ⟨d⟩ := a1
      have : d.toList = [c] := hc
      congr 1
      exact Array.toList_inj.1 this
    exact (Any.strings_Contains_one Lay.l144 a0 c w).mono fun e w' ⟨h1, h2⟩ => ⟨h1, 0, h2⟩
  · cases h
end Go.Proofs.YtpflnhbhgcediaaDoor.QBk
