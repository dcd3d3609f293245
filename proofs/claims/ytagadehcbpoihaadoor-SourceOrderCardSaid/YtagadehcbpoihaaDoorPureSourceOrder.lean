/- SourceOrder, the plain law. -/
import Derived.Test.YtagadehcbpoihaaDoorRow
import Derived.Test.YtagadehcbpoihaaDoorQSox3
namespace Go.Proofs.YtagadehcbpoihaaDoor.PureSourceOrder
open Go.RowKit Go.Proofs.YtagadehcbpoihaaDoorR Go.Proofs.YtagadehcbpoihaaDoorW.PrintWords Go.Proofs.YtagadehcbpoihaaDoor.QSo
def R9 : Rdg Tryd.prog 9 ByteArray := Rdg.string Tryd.underlying9
def R3e : Rdg Tryd.prog 3 Int := Rdg.int .i64 Tryd.underlying3
def R9e : Rdg Tryd.prog 9 ByteArray := Rdg.string Tryd.underlying9
def R4e : Rdg Tryd.prog 4 Bool := Rdg.bool Tryd.underlying4
def R87e : Rdg Tryd.prog 87 (List Int) := Rdg.slice (0) R3e Tryd.underlying87 (by kernel_rfl) (B := 8) (by kernel_rfl)
def R89e : Rdg Tryd.prog 89 S89 := Rdg.struct (RdgF.cons R3e rfl (by kernel_rfl) (RdgF.cons R3e rfl (by kernel_rfl) (RdgF.cons R3e rfl (by kernel_rfl) (RdgF.cons R3e rfl (by kernel_rfl) (RdgF.cons R9e rfl (by kernel_rfl) (RdgF.cons R9e rfl (by kernel_rfl) (RdgF.one R87e rfl (by kernel_rfl)))))))) (fun x : S89 => (x.f0, x.f1, x.f2, x.f3, x.f4, x.f5, x.f6)) (fun y => ⟨y.1, y.2.1, y.2.2.1, y.2.2.2.1, y.2.2.2.2.1, y.2.2.2.2.2.1, y.2.2.2.2.2.2⟩) (fun _ => rfl) Tryd.underlying89 (by kernel_rfl)
def R32e : Rdg Tryd.prog 32 (List S89) := Rdg.slice (z89) R89e Tryd.underlying32 (by kernel_rfl) (B := 88) (by kernel_rfl)
def R34e : Rdg Tryd.prog 34 S34 := Rdg.struct (RdgF.cons R9e rfl (by kernel_rfl) (RdgF.cons R4e rfl (by kernel_rfl) (RdgF.cons R3e rfl (by kernel_rfl) (RdgF.cons R3e rfl (by kernel_rfl) (RdgF.one R32e rfl (by kernel_rfl)))))) (fun x : S34 => (x.f0, x.f1, x.f2, x.f3, x.f4)) (fun y => ⟨y.1, y.2.1, y.2.2.1, y.2.2.2.1, y.2.2.2.2⟩) (fun _ => rfl) Tryd.underlying34 (by kernel_rfl)
def R35e : Rdg Tryd.prog 35 (List S34) := Rdg.slice (z34) R34e Tryd.underlying35 (by kernel_rfl) (B := 64) (by kernel_rfl)
def R23e : Rdg Tryd.prog 23 (List ByteArray) := Rdg.slice ((⟨#[]⟩ : ByteArray)) R9e Tryd.underlying23 (by kernel_rfl) (B := 16) (by kernel_rfl)
def R45e : Rdg Tryd.prog 45 S45 := Rdg.struct (RdgF.cons R3e rfl (by kernel_rfl) (RdgF.cons R9e rfl (by kernel_rfl) (RdgF.cons R9e rfl (by kernel_rfl) (RdgF.cons R35e rfl (by kernel_rfl) (RdgF.cons R23e rfl (by kernel_rfl) (RdgF.one R3e rfl (by kernel_rfl))))))) (fun x : S45 => (x.f0, x.f1, x.f2, x.f3, x.f4, x.f5)) (fun y => ⟨y.1, y.2.1, y.2.2.1, y.2.2.2.1, y.2.2.2.2.1, y.2.2.2.2.2⟩) (fun _ => rfl) Tryd.underlying45 (by kernel_rfl)
def R41 : Rdg Tryd.prog 41 (List S45) := Rdg.slice (z45) R45e Tryd.underlying41 (by kernel_rfl) (B := 96) (by kernel_rfl)
end Go.Proofs.YtagadehcbpoihaaDoor.PureSourceOrder

namespace Go.Proofs.YtagadehcbpoihaaDoor.PureSourceOrder
set_option linter.unusedVariables false
open Go.RowKit Go.Proofs.YtagadehcbpoihaaDoorR Go.Proofs.YtagadehcbpoihaaDoor.QSo Go.Proofs.YtagadehcbpoihaaDoorW.PrintWords Go.Proofs.YtagadehcbpoihaaDoorW.PrintLast
theorem SourceOrder (a0 : ByteArray) (l1 : List S45) (g0 : R9.good a0) (g1 : R41.good l1) : Raw5.OrderOk a0 l1 true := by
  obtain ⟨h1a, h1b, h1c⟩ := g1
  refine Raw5.order_ok a0 l1 ?_ (fun d hd => ?_) (fun d hd x hx b hb => ?_)
  · have h : l1.length * 96 ≤ 140737488351232 := h1b
    omega
  · obtain ⟨_, _, k2, k3, k4, _⟩ := h1c d hd
    obtain ⟨k3a, k3b, k3c⟩ := k3
    obtain ⟨k4a, k4b, _⟩ := k4
    refine ⟨k2, ?_, ?_, fun x hx => ?_⟩
    · have h : d.f3.length * 64 ≤ 140737488351232 := k3b
      omega
    · have h : d.f4.length * 16 ≤ 140737488351232 := k4b
      omega
    · obtain ⟨m0, _, _, _, _, m4, _⟩ := k3c x hx
      refine ⟨m0, ?_⟩
      have h : x.f4.length * 88 ≤ 140737488351232 := m4
      omega
  · obtain ⟨_, _, _, k3, _, _⟩ := h1c d hd
    obtain ⟨_, _, k3c⟩ := k3
    obtain ⟨_, _, _, _, _, _, m5⟩ := k3c x hx
    obtain ⟨_, _, _, _, _, _, _, n6, _⟩ := m5 b hb
    have h : b.f6.length * 8 ≤ 140737488351232 := n6
    omega
end Go.Proofs.YtagadehcbpoihaaDoor.PureSourceOrder
