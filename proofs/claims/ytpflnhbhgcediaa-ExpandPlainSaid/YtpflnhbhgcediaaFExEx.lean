/- What strings.Contains, strings.IndexByte and strings.ContainsFunc compute, as far as expand's small functions call them. -/
import Derived.Test.YtpflnhbhgcediaaQExx0
import Derived.Test.YtpflnhbhgcediaaLay
namespace Go.Proofs.Ytpflnhbhgcediaa.QEx
open Go.RowKit Go.Proofs.YtpflnhbhgcediaaW.PrintWords Go.Proofs.YtpflnhbhgcediaaW.PrintLast Go.Proofs.YtpflnhbhgcediaaW.PrintMore
set_option linter.unusedVariables false
def strings_IndexByte.f (a0 : ByteArray) (a1 : Int) : Option Int := some (Lib.indexByte a0.data.toList a1.toNat.toUInt8)
theorem strings_IndexByte.calls (a0 : ByteArray) (a1 : Int) (r : Int) (w : World) (h : strings_IndexByte.f a0 a1 = some r) :
    Calls Try.prog 26 #[.string a0, .int .u8 a1] w fun e w' => e = .returned (.int .i64 r) ∧ Drawn0 w w' := by
  cases h
  exact (Any.strings_IndexByte Lay.l137 a0 a1 w).mono fun e w' ⟨h1, h2⟩ => ⟨h1, 0, h2⟩
def strings_Contains.f (a0 : ByteArray) (a1 : ByteArray) : Option Bool :=
  match a1.data.toList with
  | [c] => some (decide (0 ≤ Lib.indexByte a0.data.toList c))
  | _ => none
theorem strings_Contains.calls (a0 : ByteArray) (a1 : ByteArray) (r : Bool) (w : World) (h : strings_Contains.f a0 a1 = some r) :
    Calls Try.prog 25 #[.string a0, .string a1] w fun e w' => e = .returned (.bool r) ∧ Drawn0 w w' := by
  unfold strings_Contains.f at h
  split at h
  · rename_i c hc
    cases h
    obtain rfl : a1 = ⟨#[c]⟩ := by
      obtain ⟨d⟩ := a1
      have : d.toList = [c] := hc
      congr 1
      exact Array.toList_inj.1 this
    exact (Any.strings_Contains_one Lay.l144 a0 c w).mono fun e w' ⟨h1, h2⟩ => ⟨h1, 0, h2⟩
  · cases h
/-- No name in brackets is read by the walks that these lemmas serve. -/
def strings_ContainsFunc.f (a0 : ByteArray) (a1 : Unit) : Option Bool := none
theorem strings_ContainsFunc.calls (a0 : ByteArray) (a1 : Unit) (r : Bool) (w : World) (h : strings_ContainsFunc.f a0 a1 = some r) :
    Calls Try.prog 45 #[.string a0, .func (.func 46) #[] #[]] w fun e w' => e = .returned (.bool r) ∧ Drawn0 w w' := by
  cases h
end Go.Proofs.Ytpflnhbhgcediaa.QEx
