/- Texts as lists of bytes: what the print's words say of a text, told of its list. -/
import Derived.Test.YtagadehcbpoihaaDoorWLast
import Derived.Test.YtagadehcbpoihaaDoorWMore
import Derived.Test.YtagadehcbpoihaaDoorNum
import Derived.Test.YtagadehcbpoihaaDoorEvl
import Derived.Lib.Strings
namespace Go.Proofs.YtagadehcbpoihaaDoor.Str
open Go.RowKit Go.Proofs.YtagadehcbpoihaaDoorW.PrintWords Go.Proofs.YtagadehcbpoihaaDoorW.PrintLast Go.Proofs.YtagadehcbpoihaaDoorW.PrintMore Go.Proofs.YtagadehcbpoihaaDoorN Go.Proofs.YtagadehcbpoihaaDoor.Evl
set_option linter.unusedVariables false
/-- The text of a list. -/
def mkB (l : List UInt8) : ByteArray := ⟨l.toArray⟩
theorem mkB_data (s : ByteArray) : s = mkB s.data.toList := by obtain ⟨d⟩ := s; rfl
theorem data_mkB (l : List UInt8) : (mkB l).data.toList = l := by simp [mkB]
theorem size_mkB (l : List UInt8) : (mkB l).size = l.length := by simp [mkB, ByteArray.size]
theorem toList_mkB (l : List UInt8) : (mkB l).toList = l := by rw [Lib.toList_data, data_mkB]
theorem mkB_inj {a b : List UInt8} (h : mkB a = mkB b) : a = b := by rw [← data_mkB a, h, data_mkB]
theorem append_mkB (a b : List UInt8) : mkB a ++ mkB b = mkB (a ++ b) := by
  rw [mkB_data (mkB a ++ mkB b), ByteArray.data_append, Array.toList_append, data_mkB, data_mkB]
theorem extract_mkB (l : List UInt8) (a b : Nat) : (mkB l).extract a b = mkB ((l.take b).drop a) := by
  rw [mkB_data ((mkB l).extract a b), ByteArray.data_extract, Array.toList_extract, data_mkB, List.extract_eq_take_drop, List.drop_take]
theorem bt_mkB (l : List UInt8) (i : Nat) (h : i < l.length) : bt (mkB l) (i : Int) = ((l[i]'h).toNat : Int) := by
  unfold bt
  rw [dif_pos (by rw [Int.toNat_natCast, size_mkB]; exact h)]
  congr 2
theorem bt_head (x : UInt8) (l : List UInt8) : bt (mkB (x :: l)) 0 = (x.toNat : Int) := bt_mkB (x :: l) 0 (by simp)
theorem tail_mkB (x : UInt8) (l : List UInt8) : (mkB (x :: l)).extract 1 (mkB (x :: l)).size = mkB l := by
  rw [extract_mkB, size_mkB, List.take_length]; rfl
theorem tail2_mkB (x y : UInt8) (l : List UInt8) : (mkB (x :: y :: l)).extract 2 (mkB (x :: y :: l)).size = mkB l := by
  rw [extract_mkB, size_mkB, List.take_length]; rfl
theorem bytesOf_mkB (l : List UInt8) : bytesOf (mkB l) = l.map fun b => (b.toNat : Int) := by rw [bytesOf, data_mkB]
theorem b_eq {x : UInt8} {n : Nat} (hn : n < 256) : ((x.toNat : Int) = (n : Int)) ↔ x = UInt8.ofNat n := by
  constructor
  · intro h
    have h1 : x.toNat = n := by omega
    rw [← UInt8.toNat_inj, UInt8.toNat_ofNat', h1]
    omega
  · intro h
    rw [h, UInt8.toNat_ofNat']
    omega
/-- What stands from a place on. -/
theorem drop_cons {α : Type} {l : List α} {i : Nat} {x : α} {t : List α} (h : l.drop i = x :: t) : i < l.length ∧ l.drop (i + 1) = t ∧ l[i]? = some x := by
  have hl : i < l.length := by
    apply Classical.byContradiction
    intro hn
    rw [List.drop_eq_nil_of_le (by omega)] at h
    cases h
  rw [List.drop_eq_getElem_cons hl] at h
  injection h with h1 h2
  exact ⟨hl, h2, by rw [List.getElem?_eq_getElem hl, h1]⟩
theorem drop_len {α : Type} {l : List α} {i : Nat} {t : List α} (h : l.drop i = t) (hi : i ≤ l.length) : i + t.length = l.length := by rw [← h, List.length_drop]; omega
theorem bt_drop {l : List UInt8} {i : Nat} {x : UInt8} {t : List UInt8} (h : l.drop i = x :: t) : bt (mkB l) (i : Int) = (x.toNat : Int) := by
  obtain ⟨h1, _, h2⟩ := drop_cons h
  rw [bt_mkB l i h1]
  rw [List.getElem?_eq_getElem h1] at h2
  injection h2 with h2
  rw [h2]
theorem ext_drop {l : List UInt8} {i : Nat} {u t : List UInt8} (h : l.drop i = u ++ t) : (mkB l).extract i (i + u.length) = mkB u := by
  rw [extract_mkB, List.drop_take, h, show i + u.length - i = u.length by omega, List.take_left]
theorem rest_drop {l : List UInt8} {i : Nat} {t : List UInt8} (h : l.drop i = t) : (mkB l).extract i (mkB l).size = mkB t := by
  rw [extract_mkB, size_mkB, List.take_length, h]
theorem empty_mkB : (⟨#[]⟩ : ByteArray) = mkB [] := rfl
theorem nums_str (l : List UInt8) : strOfNums (l.map fun b => (b.toNat : Int)) = mkB l := by
  unfold strOfNums mkB
  congr 1
  rw [List.map_map]
  congr 1
  conv => rhs; rw [← List.map_id l]
  apply List.map_congr_left
  intro b _
  simp
end Go.Proofs.YtagadehcbpoihaaDoor.Str
