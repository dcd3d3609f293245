/- What strings.TrimLeft, strings.IndexByte, strings.Contains and strings.IndexAny compute, as far as the requests' functions call them. -/
import Derived.Test.YtpeimnipoohaaaaDoorQRqx0
import Derived.Test.YtpeimnipoohaaaaDoorLay
import Derived.Test.YtpeimnipoohaaaaDoorIdxAny
namespace Go.Proofs.YtpeimnipoohaaaaDoor.QRq
open Go.RowKit Go.Proofs.YtpeimnipoohaaaaDoorW.PrintWords Go.Proofs.YtpeimnipoohaaaaDoorW.PrintLast Go.Proofs.YtpeimnipoohaaaaDoorW.PrintMore
set_option linter.unusedVariables false
def asciiOf (a : ByteArray) : Bool := a.data.toList.all fun b => decide (b.toNat < 128)
theorem ascii_mem {a : ByteArray} (h : asciiOf a = true) : ∀ b ∈ a.data.toList, b.toNat < 128 := fun b hb => by
  have := List.all_eq_true.1 h b hb
  exact of_decide_eq_true this
theorem cell_twice (w : World) (a : Addr) (u v : Value) (h : (w.cell? a).isSome = true) : ((w.setCell a u).setCell a v).cell? a = some v :=
  World.cell?_setCell_same' _ _ _ (by rw [World.cell?_setCell_same' _ _ _ h]; rfl)
theorem bt_ext (s : ByteArray) (h : 1 < s.size) : ((s[1]'h).toNat : Int) = bt (s.extract 1 s.size) 0 := by
  have h0 : 0 < (s.extract 1 s.size).size := by rw [ByteArray.size_extract]; omega
  unfold bt
  rw [dif_pos (by exact h0)]
  congr 2
  exact (ByteArray.getElem_extract (h := h0)).symm
def strings_TrimLeft.f (a0 : ByteArray) (a1 : ByteArray) : Option ByteArray :=
  if a1.size < 4294967281 ∧ asciiOf a1 = true then some ⟨(Lib.trimLeftS a0.data.toList a1.data.toList).toArray⟩ else none
theorem strings_TrimLeft.calls (a0 : ByteArray) (a1 : ByteArray) (r : ByteArray) (w : World) (h : strings_TrimLeft.f a0 a1 = some r) :
    Calls Tryd.prog 23 #[.string a0, .string a1] w fun e w' => e = .returned (.string r) ∧ Below w.heap.size w w' := by
  unfold strings_TrimLeft.f at h
  split at h
  · rename_i hc
    cases h
    exact Any.strings_TrimLeft_laid Lay.l161 (by kernel_rfl) a0 a1 w hc.1 fun j b hj => ascii_mem hc.2 b (List.mem_of_getElem? hj)
  · cases h
def strings_IndexByte.f (a0 : ByteArray) (a1 : Int) : Option Int := some (Lib.indexByte a0.data.toList a1.toNat.toUInt8)
theorem strings_IndexByte.calls (a0 : ByteArray) (a1 : Int) (r : Int) (w : World) (h : strings_IndexByte.f a0 a1 = some r) :
    Calls Tryd.prog 32 #[.string a0, .int .u8 a1] w fun e w' => e = .returned (.int .i64 r) ∧ Drawn0 w w' := by
  cases h
  exact (Any.strings_IndexByte Lay.l137 a0 a1 w).mono fun e w' ⟨h1, h2⟩ => ⟨h1, 0, h2⟩
def strings_Contains.f (a0 : ByteArray) (a1 : ByteArray) : Option Bool :=
  match a1.data.toList with
  | [c] => some (decide (0 ≤ Lib.indexByte a0.data.toList c))
  | _ => none
theorem strings_Contains.calls (a0 : ByteArray) (a1 : ByteArray) (r : Bool) (w : World) (h : strings_Contains.f a0 a1 = some r) :
    Calls Tryd.prog 39 #[.string a0, .string a1] w fun e w' => e = .returned (.bool r) ∧ Drawn0 w w' := by
  unfold strings_Contains.f at h
  split at h
  · rename_i c hc
    cases h
    obtain rfl : a1 = ⟨#[c]⟩ := by
      obtain ⟨d⟩ := a1
      have : d.toList = [c] := hc
      congr 1
      exact Array.toList_inj.1 this
    exact (Any.strings_Contains_one Lay.l144 a0 c w).mono fun e w' ⟨h1, h2⟩ => ⟨h1, 0, h2⟩
  · cases h
def strings_IndexAny.f (a0 : ByteArray) (a1 : ByteArray) : Option Int :=
  if a0.size < 4294967281 ∧ 2 ≤ a1.size ∧ a1.size < 4294967281 ∧ asciiOf a1 = true then some (Lib.indexAny a0.data.toList a1.data.toList) else none
theorem strings_IndexAny.calls (a0 : ByteArray) (a1 : ByteArray) (r : Int) (w : World) (h : strings_IndexAny.f a0 a1 = some r) :
    Calls Tryd.prog 55 #[.string a0, .string a1] w fun e w' => e = .returned (.int .i64 r) ∧ Below w.heap.size w w' := by
  unfold strings_IndexAny.f at h
  split at h
  · rename_i hc
    cases h
    exact IdxAny.any_all Lay.l153 (by kernel_rfl) a0 a1 w hc.2.1 hc.1 hc.2.2.1 (ascii_mem hc.2.2.2)
  · cases h
end Go.Proofs.YtpeimnipoohaaaaDoor.QRq
