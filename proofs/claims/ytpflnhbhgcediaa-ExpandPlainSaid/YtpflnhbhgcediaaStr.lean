-- Words of the kit's print, shortened by a program of this session to what this claim uses.

import Derived.Test.YtpflnhbhgcediaaWLast
import Derived.Test.YtpflnhbhgcediaaWMore
import Derived.Test.YtpflnhbhgcediaaNum
import Derived.Test.YtpflnhbhgcediaaEvl
import Derived.Lib.Strings
namespace Go.Proofs.Ytpflnhbhgcediaa.Str
open Go.RowKit Go.Proofs.YtpflnhbhgcediaaW.PrintWords Go.Proofs.YtpflnhbhgcediaaW.PrintLast Go.Proofs.YtpflnhbhgcediaaW.PrintMore Go.Proofs.YtpflnhbhgcediaaN Go.Proofs.Ytpflnhbhgcediaa.Evl
set_option linter.unusedVariables false
def mkB (l : List UInt8) : ByteArray := ⟨l.toArray⟩
theorem mkB_data (s : ByteArray) : s = mkB s.data.toList := by obtain ⟨d⟩ := s; rfl
theorem data_mkB (l : List UInt8) : (mkB l).data.toList = l := by simp [mkB]
theorem size_mkB (l : List UInt8) : (mkB l).size = l.length := by simp [mkB, ByteArray.size]
theorem toList_mkB (l : List UInt8) : (mkB l).toList = l := by rw [Lib.toList_data, data_mkB]
theorem append_mkB (a b : List UInt8) : mkB a ++ mkB b = mkB (a ++ b) := by
  rw [mkB_data (mkB a ++ mkB b), ByteArray.data_append, Array.toList_append, data_mkB, data_mkB]
theorem extract_mkB (l : List UInt8) (a b : Nat) : (mkB l).extract a b = mkB ((l.take b).drop a) := by
  rw [mkB_data ((mkB l).extract a b), ByteArray.data_extract, Array.toList_extract, data_mkB, List.extract_eq_take_drop, List.drop_take]
theorem bt_mkB (l : List UInt8) (i : Nat) (h : i < l.length) : bt (mkB l) (i : Int) = ((l[i]'h).toNat : Int) := by
  unfold bt
  rw [dif_pos (by rw [Int.toNat_natCast, size_mkB]; exact h)]
  congr 2
theorem bt_head (x : UInt8) (l : List UInt8) : bt (mkB (x :: l)) 0 = (x.toNat : Int) := bt_mkB (x :: l) 0 (by simp)
theorem b_eq {x : UInt8} {n : Nat} (hn : n < 256) : ((x.toNat : Int) = (n : Int)) ↔ x = UInt8.ofNat n := by
  constructor
  · intro h
    have h1 : x.toNat = n := by omega
    rw [← UInt8.toNat_inj, UInt8.toNat_ofNat', h1]
    omega
  · intro h
    rw [h, UInt8.toNat_ofNat']
    omega
theorem drop_cons {α : Type} {l : List α} {i : Nat} {x : α} {t : List α} (h : l.drop i = x :: t) : i < l.length ∧ l.drop (i + 1) = t ∧ l[i]? = some x := by
  have hl : i < l.length := by
    apply Classical.byContradiction
    intro hn
    rw [List.drop_eq_nil_of_le (by omega)] at h
    cases h
  rw [List.drop_eq_getElem_cons hl] at h
  injection h with h1 h2
  exact ⟨hl, h2, by rw [List.getElem?_eq_getElem hl, h1]⟩
theorem bt_drop {l : List UInt8} {i : Nat} {x : UInt8} {t : List UInt8} (h : l.drop i = x :: t) : bt (mkB l) (i : Int) = (x.toNat : Int) := by
  obtain ⟨h1, _, h2⟩ := drop_cons h
  rw [bt_mkB l i h1]
  rw [List.getElem?_eq_getElem h1] at h2
  injection h2 with h2
  rw [h2]
theorem ext_drop {l : List UInt8} {i : Nat} {u t : List UInt8} (h : l.drop i = u ++ t) : (mkB l).extract i (i + u.length) = mkB u := by
  rw [extract_mkB, List.drop_take, h, show i + u.length - i = u.length by omega, List.take_left]
theorem empty_mkB : (⟨#[]⟩ : ByteArray) = mkB [] := rfl
end Go.Proofs.Ytpflnhbhgcediaa.Str

