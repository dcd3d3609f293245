/- The names that the second print of chapter 5 wants: source.Lines, strings.Contains. -/
import Derived.Test.YtagadehcbpoihaaDoorFLinesSl
import Derived.Test.YtagadehcbpoihaaDoorQSox0
import Derived.Shelf.Strings.Search3
namespace Go.Proofs.YtagadehcbpoihaaDoor.QSo
open Go.RowKit Go.Proofs.YtagadehcbpoihaaDoorW.PrintWords Go.Proofs.YtagadehcbpoihaaDoorW.PrintLast Go.Proofs.YtagadehcbpoihaaDoorW.PrintMore
set_option linter.unusedVariables false
def source_Lines.f (a0 : ByteArray) : Option (List ByteArray) := QSl.source_Lines.f a0
theorem source_Lines.calls (a0 : ByteArray) (r : List ByteArray) (w : World) (h : source_Lines.f a0 = some r) :
    Calls Tryd.prog 9 #[.string a0] w fun e w' => ∃ v0_ : Value, e = .returned (v0_) ∧ Kd.R Kd.string 9 w' w.heap.size (fun _ => True) v0_ r ∧ Below w.heap.size w w' := QSl.source_Lines.calls a0 r w h
def strings_Contains.f (a0 : ByteArray) (a1 : ByteArray) : Option Bool :=
  match a1.data.toList with
  | [c] => some (decide (0 ≤ Lib.indexByte a0.data.toList c))
  | _ => none
theorem strings_Contains.calls (a0 : ByteArray) (a1 : ByteArray) (r : Bool) (w : World) (h : strings_Contains.f a0 a1 = some r) :
    Calls Tryd.prog 64 #[.string a0, .string a1] w fun e w' => e = .returned (.bool r) ∧ Drawn0 w w' := by
  unfold strings_Contains.f at h
  split at h
  · rename_i c hc
    cases h
    obtain rfl : a1 = ⟨#[c]⟩ := by
      obtain ⟨d⟩ := a1
      have : d.toList = [c] := hc
      congr 1
      exact Array.toList_inj.1 this
    exact (Any.strings_Contains_one Lay.l144 a0 c w).mono fun e w' ⟨h1, h2⟩ => ⟨h1, 0, h2⟩
  · cases h
end Go.Proofs.YtagadehcbpoihaaDoor.QSo
