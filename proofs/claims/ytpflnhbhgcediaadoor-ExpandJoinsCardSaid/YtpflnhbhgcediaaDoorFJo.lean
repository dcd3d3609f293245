/- What strings.TrimRight computes at one byte, and the fixed example. -/
import Derived.Test.YtpflnhbhgcediaaDoorQJox0
import Derived.Test.YtpflnhbhgcediaaDoorFSaneCEx
namespace Go.Proofs.YtpflnhbhgcediaaDoor.QJo
open Go.RowKit Go.Proofs.YtpflnhbhgcediaaDoorW.PrintWords Go.Proofs.YtpflnhbhgcediaaDoorW.PrintLast Go.Proofs.YtpflnhbhgcediaaDoorW.PrintMore
set_option linter.unusedVariables false
def strings_TrimRight.f (a0 : ByteArray) (a1 : ByteArray) : Option ByteArray :=
  match a1.data.toList with
  | [c] => if c.toNat < 128 ∧ a0.size ≤ 9223372036854775807 then some ⟨(Lib.trimRightB a0.data.toList c).toArray⟩ else none
  | _ => none
theorem strings_TrimRight.calls (a0 : ByteArray) (a1 : ByteArray) (r : ByteArray) (w : World) (h : strings_TrimRight.f a0 a1 = some r) :
    Calls Tryd.prog 27 #[.string a0, .string a1] w fun e w' => e = .returned (.string r) ∧ Below w.heap.size w w' := by
  unfold strings_TrimRight.f at h
  split at h
  · rename_i c hc
    split at h
    · rename_i hk
      cases h
      obtain rfl : a1 = ⟨#[c]⟩ := by
        obtain ⟨d⟩ := a1
        have : d.toList = [c] := hc
        congr 1
        exact Array.toList_inj.1 this
      refine (Any.strings_TrimRight_one Lay.l162 a0 c hk.1 w hk.2).mono ?_
      rintro e w' ⟨rfl, rfl⟩
      exact ⟨rfl, Below.refl _ _⟩
    · cases h
  · cases h
def frisketlaw04_sane.f : Option Bool := some true
theorem frisketlaw04_sane.calls (r : Bool) (w : World) (h : frisketlaw04_sane.f = some r) :
    Calls Tryd.prog 7 #[] w fun e w' => e = .returned (.bool r) ∧ Below w.heap.size w w' := by
  obtain rfl := Option.some.inj h
  exact Sane4.sane_calls w
end Go.Proofs.YtpflnhbhgcediaaDoor.QJo
