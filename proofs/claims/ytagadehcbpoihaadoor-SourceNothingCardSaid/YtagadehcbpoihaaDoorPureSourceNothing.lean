/- SourceNothing, the plain law. -/
import Derived.Test.YtagadehcbpoihaaDoorRow
import Derived.Test.YtagadehcbpoihaaDoorQNox2
namespace Go.Proofs.YtagadehcbpoihaaDoor.PureSourceNothing
open Go.RowKit Go.Proofs.YtagadehcbpoihaaDoorR Go.Proofs.YtagadehcbpoihaaDoorW.PrintWords Go.Proofs.YtagadehcbpoihaaDoor.QNo
def R3e : Rdg Tryd.prog 3 Int := Rdg.int .i64 Tryd.underlying3
def R9e : Rdg Tryd.prog 9 ByteArray := Rdg.string Tryd.underlying9
def R4e : Rdg Tryd.prog 4 Bool := Rdg.bool Tryd.underlying4
def R87e : Rdg Tryd.prog 87 (List Int) := Rdg.slice (0) R3e Tryd.underlying87 (by kernel_rfl) (B := 8) (by kernel_rfl)
def R89e : Rdg Tryd.prog 89 S89 := Rdg.struct (RdgF.cons R3e rfl (by kernel_rfl) (RdgF.cons R3e rfl (by kernel_rfl) (RdgF.cons R3e rfl (by kernel_rfl) (RdgF.cons R3e rfl (by kernel_rfl) (RdgF.cons R9e rfl (by kernel_rfl) (RdgF.cons R9e rfl (by kernel_rfl) (RdgF.one R87e rfl (by kernel_rfl)))))))) (fun x : S89 => (x.f0, x.f1, x.f2, x.f3, x.f4, x.f5, x.f6)) (fun y => ⟨y.1, y.2.1, y.2.2.1, y.2.2.2.1, y.2.2.2.2.1, y.2.2.2.2.2.1, y.2.2.2.2.2.2⟩) (fun _ => rfl) Tryd.underlying89 (by kernel_rfl)
def R32e : Rdg Tryd.prog 32 (List S89) := Rdg.slice (z89) R89e Tryd.underlying32 (by kernel_rfl) (B := 88) (by kernel_rfl)
def R34e : Rdg Tryd.prog 34 S34 := Rdg.struct (RdgF.cons R9e rfl (by kernel_rfl) (RdgF.cons R4e rfl (by kernel_rfl) (RdgF.cons R3e rfl (by kernel_rfl) (RdgF.cons R3e rfl (by kernel_rfl) (RdgF.one R32e rfl (by kernel_rfl)))))) (fun x : S34 => (x.f0, x.f1, x.f2, x.f3, x.f4)) (fun y => ⟨y.1, y.2.1, y.2.2.1, y.2.2.2.1, y.2.2.2.2⟩) (fun _ => rfl) Tryd.underlying34 (by kernel_rfl)
def R35e : Rdg Tryd.prog 35 (List S34) := Rdg.slice (z34) R34e Tryd.underlying35 (by kernel_rfl) (B := 64) (by kernel_rfl)
def R23e : Rdg Tryd.prog 23 (List ByteArray) := Rdg.slice ((⟨#[]⟩ : ByteArray)) R9e Tryd.underlying23 (by kernel_rfl) (B := 16) (by kernel_rfl)
def R45 : Rdg Tryd.prog 45 (Int × ByteArray × ByteArray × (List S34) × (List ByteArray) × Int) := Rdg.struct (RdgF.cons R3e rfl (by kernel_rfl) (RdgF.cons R9e rfl (by kernel_rfl) (RdgF.cons R9e rfl (by kernel_rfl) (RdgF.cons R35e rfl (by kernel_rfl) (RdgF.cons R23e rfl (by kernel_rfl) (RdgF.one R3e rfl (by kernel_rfl))))))) id id (fun _ => rfl) Tryd.underlying45 (by kernel_rfl)
end Go.Proofs.YtagadehcbpoihaaDoor.PureSourceNothing

namespace Go.Proofs.YtagadehcbpoihaaDoor.PureSourceNothing
open Go.RowKit Go.Proofs.YtagadehcbpoihaaDoorR Go.Proofs.YtagadehcbpoihaaDoor.QNo Go.Proofs.YtagadehcbpoihaaDoorW.PrintWords Go.Proofs.YtagadehcbpoihaaDoorW.PrintLast
theorem SourceNothing (x0_0 : Int) (x0_1 : ByteArray) (x0_2 : ByteArray) (x0_3 : List S34) (x0_4 : List ByteArray) (x0_5 : Int) (g0 : R45.good (x0_0, x0_1, x0_2, x0_3, x0_4, x0_5)) : ∃ k, frisketlaw05_SourceNothing.f k x0_0 x0_1 x0_2 x0_3 x0_4 x0_5 = some true := by
  obtain ⟨_, _, h2, h3, h4, _⟩ := g0
  obtain ⟨h3a, h3b, h3c⟩ := h3
  obtain ⟨h4a, h4b, h4c⟩ := h4
  refine nothing_pure x0_0 x0_1 x0_2 x0_3 x0_4 x0_5 h2 ?_ ?_ (fun x hx => ?_)
  · have h : x0_3.length * 64 ≤ 140737488351232 := h3b
    omega
  · have h : x0_4.length * 16 ≤ 140737488351232 := h4b
    omega
  · obtain ⟨k0, _, _, _, _, k4, _⟩ := h3c x hx
    refine ⟨k0, ?_⟩
    have h : x.f4.length * 88 ≤ 140737488351232 := k4
    omega
end Go.Proofs.YtagadehcbpoihaaDoor.PureSourceNothing
