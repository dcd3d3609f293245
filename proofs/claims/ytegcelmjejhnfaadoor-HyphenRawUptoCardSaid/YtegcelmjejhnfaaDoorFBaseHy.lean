/- Small words for chapter 09's walks. -/
import Derived.Test.YtegcelmjejhnfaaDoorQHyx0
namespace Go.Proofs.YtegcelmjejhnfaaDoor.QHy
theorem cut_len {α : Type} {x y : List α} {L E : Int} (h : y = (x.take E.toNat).drop L.toNat) (q : E ≤ (x.length : Int)) : y.length = E.toNat - L.toNat := by
  rw [h, List.length_drop, List.length_take]
  omega
theorem cut_room {n c : Nat} {E : Int} (q : E ≤ (n : Int)) (hr : n ≤ c) : E.toNat ≤ c := by omega
theorem ext_size {b : ByteArray} {S : Nat} {X : Int} (h : X ≤ (b.size : Int)) : (b.extract S X.toNat).size = X.toNat - S := by
  rw [ByteArray.size_extract, Nat.min_eq_left (by omega)]
theorem ext_all {b : ByteArray} {S : Nat} : (b.extract S b.size).size = b.size - S := by
  rw [ByteArray.size_extract, Nat.min_eq_left (Nat.le_refl _)]
end Go.Proofs.YtegcelmjejhnfaaDoor.QHy
