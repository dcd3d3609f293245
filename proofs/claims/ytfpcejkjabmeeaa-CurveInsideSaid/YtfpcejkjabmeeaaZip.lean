/- Several steps of a region that draws its order under one text: which come next stands in the goal. -/
import Derived.Test.YtfpcejkjabmeeaaWLast
import Derived.Test.YtfpcejkjabmeeaaWTab
import Derived.Test.YtfpcejkjabmeeaaWMore
namespace Go.Proofs.Ytfpcejkjabmeeaa.Zip
open Go.RowKit Go.Proofs.YtfpcejkjabmeeaaW.PrintWords Go.Proofs.YtfpcejkjabmeeaaW.PrintLast Go.Proofs.YtfpcejkjabmeeaaW.PrintMore
structure Go_ (is : List Nat) (p : Prop) : Prop where
  out : p
theorem go_in {p : Prop} (is : List Nat) (h : Go_ is p) : p := h.out
theorem go_out {p : Prop} (h : p) : Go_ [] p := ⟨h⟩
theorem u8_w (x : Int) : IntKind.u8.wrap x = x % 256 := by simp [IntKind.wrap, IntKind.signed, IntKind.bits]
theorem u8_tm (x m : Int) : Int.tmod (x % 256) m = x % 256 % m := Int.tmod_eq_emod_of_nonneg (Int.emod_nonneg _ (by decide))
theorem u8_c (x : Int) : wrap64 (x % 256) = x % 256 := by unfold wrap64; omega
theorem emod_le_ {a m : Int} (h0 : 0 ≤ a) (h : 0 < m) : a % m ≤ a := by
  have h1 := Int.mul_nonneg (Int.le_of_lt h) (Int.ediv_nonneg h0 (Int.le_of_lt h))
  rw [Int.emod_def]
  omega
theorem u8_cm (x m : Int) : wrap64 (x % 256 % m) = x % 256 % m := by
  have h0 : 0 ≤ x % 256 := Int.emod_nonneg _ (by decide)
  have h1 : x % 256 < 256 := Int.emod_lt_of_pos _ (by decide)
  rcases Int.lt_trichotomy m 0 with h | h | h
  · have h2 := Int.emod_nonneg (x % 256) (show m ≠ 0 by omega)
    have h3 : x % 256 % m ≤ x % 256 := by
      rw [← Int.emod_neg]
      exact emod_le_ h0 (by omega)
    unfold wrap64; omega
  · subst h; rw [Int.emod_zero]; unfold wrap64; omega
  · have h2 := Int.emod_nonneg (x % 256) (show m ≠ 0 by omega)
    have h3 : x % 256 % m ≤ x % 256 := emod_le_ h0 h
    unfold wrap64; omega
theorem u8_two (x : Int) : wrap64 (x % 2) = x % 256 % 2 := by unfold wrap64; omega
section
variable {P : Program} {ops : Array Oper} {md : Region.Mode} {Q : Exit → Act → World → Prop} {S : World → Prop} {ds : List Nat} {T : Bool × List (List Nat × List Nat)} {B : List Nat}
theorem pz {i n : Nat} {is : List Nat} {oi : Oper} {v : Value} {fuel : Nat} {l : Array Bool} {a : Act} {w : World} (HT : Aside0 (rtab md ops = T)) (hi : ops[i]? = some oi) (hN : oi.dst = some n)
    (hc : anyT T l.toList (l.setIfInBounds i true).toList i = true) (hQ : ∀ c a w, Q (.panic c) (a.put oi.dst v) w → Q (.panic c) a w)
    (hy : Yields P ops oi v a) {a' : Act} (ha : a.put (some n) v = a')
    (h : Go_ is (wpAnyLast P md ops Q S ds fuel (l.setIfInBounds i true) a' w)) : Go_ (i :: is) (wpAnyLast P md ops Q S ds (fuel + 1) l a w) :=
  ⟨pure_ (i := i) (N := some n) _ hi hN (any_of HT.out hc) hQ hy ha h.out⟩
theorem tz {i n : Nat} {is : List Nat} {oi : Oper} {v : Value} {fuel : Nat} {l : Array Bool} {a : Act} {w : World} (HT : Aside0 (rtab md ops = T)) (HW : Aside0 (waitsOk T.2 B = true)) (hi : ops[i]? = some oi) (hN : oi.dst = some n) (hS : S w)
    (hc : takeW T B ds l.toList (l.setIfInBounds i true).toList i = true) (hQ : ∀ c a w, Q (.panic c) (a.put oi.dst v) w → Q (.panic c) a w)
    (hy : YieldsIf P ops S oi v a) {a' : Act} (ha : a.put (some n) v = a')
    (h : Go_ is (wpAnyLast P md ops Q S ds fuel (l.setIfInBounds i true) a' w)) : Go_ (i :: is) (wpAnyLast P md ops Q S ds (fuel + 1) l a w) :=
  ⟨take_ (i := i) (N := some n) _ hi hN (take_ofW HT.out HW.out hc) hQ hy hS ha h.out⟩
end
end Go.Proofs.Ytfpcejkjabmeeaa.Zip
