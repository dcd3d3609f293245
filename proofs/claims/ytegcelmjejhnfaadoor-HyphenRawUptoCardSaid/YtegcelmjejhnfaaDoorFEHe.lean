/- hyphen.low, strings.ReplaceAll and strings.Contains, as the print of hyphen.Exception names them. -/
import Derived.Test.YtegcelmjejhnfaaDoorFRepHy
namespace Go.Proofs.YtegcelmjejhnfaaDoor.QHe
open Go.RowKit Go.Proofs.YtegcelmjejhnfaaDoorW.PrintWords Go.Proofs.YtegcelmjejhnfaaDoorW.PrintLast Go.Proofs.YtegcelmjejhnfaaDoorW.PrintMore Go.Proofs.YtegcelmjejhnfaaDoorN
def Tab (w : World) : Prop := QHy.Tab w
theorem Tab.below {w w' : World} (h : Tab w) (hb : Below w.heap.size w w') : Tab w' := QHy.Tab.below h hb
def hyphen_low.f (a0 : ByteArray) : Option (ByteArray × Bool) := QHy.hyphen_low.f a0
theorem hyphen_low.calls (a0 : ByteArray) (r1 : ByteArray) (r2 : Bool) (w : World) (h : hyphen_low.f a0 = some (r1, r2)) :
    Calls Tryd.prog 31 #[.string a0] w fun e w' => e = .returned (.tuple #[.string r1, .bool r2]) ∧ Below w.heap.size w w' := QHy.hyphen_low.calls a0 r1 r2 w h
def strings_ReplaceAll.f (a0 : ByteArray) (a1 : ByteArray) (a2 : ByteArray) : Option ByteArray := QHy.strings_ReplaceAll.f a0 a1 a2
theorem strings_ReplaceAll.calls (a0 : ByteArray) (a1 : ByteArray) (a2 : ByteArray) (r : ByteArray) (w : World) (h : strings_ReplaceAll.f a0 a1 a2 = some r) :
    Calls Tryd.prog 33 #[.string a0, .string a1, .string a2] w fun e w' => e = .returned (.string r) ∧ Below w.heap.size w w' := QHy.strings_ReplaceAll.calls a0 a1 a2 r w h
def strings_Contains.f (a0 : ByteArray) (a1 : ByteArray) : Option Bool := QHy.strings_Contains.f a0 a1
theorem strings_Contains.calls (a0 : ByteArray) (a1 : ByteArray) (r : Bool) (w : World) (hT : Tab w) (h : strings_Contains.f a0 a1 = some r) :
    Calls Tryd.prog 41 #[.string a0, .string a1] w fun e w' => e = .returned (.bool r) ∧ Below w.heap.size w w' := QHy.strings_Contains.calls a0 a1 r w hT h
end Go.Proofs.YtegcelmjejhnfaaDoor.QHe
