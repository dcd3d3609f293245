-- Words of the kit's print, shortened by a program of this session to what this claim uses.

import Derived.Test.YtegcelmjejhnfaaDoorWLast
import Derived.Test.YtegcelmjejhnfaaDoorWMore
import Derived.Test.YtegcelmjejhnfaaDoorNum
import Derived.Test.YtegcelmjejhnfaaDoorEvl
import Derived.Lib.Strings
namespace Go.Proofs.YtegcelmjejhnfaaDoor.Str
open Go.RowKit Go.Proofs.YtegcelmjejhnfaaDoorW.PrintWords Go.Proofs.YtegcelmjejhnfaaDoorW.PrintLast Go.Proofs.YtegcelmjejhnfaaDoorW.PrintMore Go.Proofs.YtegcelmjejhnfaaDoorN Go.Proofs.YtegcelmjejhnfaaDoor.Evl
set_option linter.unusedVariables false
def mkB (l : List UInt8) : ByteArray := ⟨l.toArray⟩
theorem mkB_data (s : ByteArray) : s = mkB s.data.toList := by obtain ⟨d⟩ := s; rfl
theorem data_mkB (l : List UInt8) : (mkB l).data.toList = l := by simp [mkB]
theorem size_mkB (l : List UInt8) : (mkB l).size = l.length := by simp [mkB, ByteArray.size]
theorem toList_mkB (l : List UInt8) : (mkB l).toList = l := by rw [Lib.toList_data, data_mkB]
theorem append_mkB (a b : List UInt8) : mkB a ++ mkB b = mkB (a ++ b) := by
  rw [mkB_data (mkB a ++ mkB b), ByteArray.data_append, Array.toList_append, data_mkB, data_mkB]
theorem extract_mkB (l : List UInt8) (a b : Nat) : (mkB l).extract a b = mkB ((l.take b).drop a) := by
  rw [mkB_data ((mkB l).extract a b), ByteArray.data_extract, Array.toList_extract, data_mkB, List.extract_eq_take_drop, List.drop_take]
theorem bt_mkB (l : List UInt8) (i : Nat) (h : i < l.length) : bt (mkB l) (i : Int) = ((l[i]'h).toNat : Int) := by
  unfold bt
  rw [dif_pos (by rw [Int.toNat_natCast, size_mkB]; exact h)]
  congr 2
theorem bytesOf_mkB (l : List UInt8) : bytesOf (mkB l) = l.map fun b => (b.toNat : Int) := by rw [bytesOf, data_mkB]
theorem b_eq {x : UInt8} {n : Nat} (hn : n < 256) : ((x.toNat : Int) = (n : Int)) ↔ x = UInt8.ofNat n := by
  constructor
  · intro h
    have h1 : x.toNat = n := by omega
    rw [← UInt8.toNat_inj, UInt8.toNat_ofNat', h1]
    omega
  · intro h
    rw [h, UInt8.toNat_ofNat']
    omega
theorem ext_drop {l : List UInt8} {i : Nat} {u t : List UInt8} (h : l.drop i = u ++ t) : (mkB l).extract i (i + u.length) = mkB u := by
  rw [extract_mkB, List.drop_take, h, show i + u.length - i = u.length by omega, List.take_left]
theorem nums_str (l : List UInt8) : strOfNums (l.map fun b => (b.toNat : Int)) = mkB l := by
  unfold strOfNums mkB
  congr 1
  rw [List.map_map]
  congr 1
  conv => rhs; rw [← List.map_id l]
  apply List.map_congr_left
  intro b _
  simp
end Go.Proofs.YtegcelmjejhnfaaDoor.Str

