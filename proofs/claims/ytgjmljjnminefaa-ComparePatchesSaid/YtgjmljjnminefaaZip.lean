/- Several steps of a region that draws its order under one text: which come next stands in the goal. -/
import Derived.Test.YtgjmljjnminefaaWLast
import Derived.Test.YtgjmljjnminefaaWTab
import Derived.Test.YtgjmljjnminefaaWMore
namespace Go.Proofs.Ytgjmljjnminefaa.Zip
open Go.RowKit Go.Proofs.YtgjmljjnminefaaW.PrintWords Go.Proofs.YtgjmljjnminefaaW.PrintLast Go.Proofs.YtgjmljjnminefaaW.PrintMore
structure Go_ (is : List Nat) (p : Prop) : Prop where
  out : p
theorem go_in {p : Prop} (is : List Nat) (h : Go_ is p) : p := h.out
theorem go_out {p : Prop} (h : p) : Go_ [] p := ⟨h⟩
theorem u8_w (x : Int) : IntKind.u8.wrap x = x % 256 := by simp [IntKind.wrap, IntKind.signed, IntKind.bits]
theorem u8_tm (x m : Int) : Int.tmod (x % 256) m = x % 256 % m := Int.tmod_eq_emod_of_nonneg (Int.emod_nonneg _ (by decide))
theorem u8_c (x : Int) : wrap64 (x % 256) = x % 256 := by unfold wrap64; omega
theorem emod_le_ {a m : Int} (h0 : 0 ≤ a) (h : 0 < m) : a % m ≤ a := by
  have h1 := Int.mul_nonneg (Int.le_of_lt h) (Int.ediv_nonneg h0 (Int.le_of_lt h))
  rw [Int.emod_def]
  omega
theorem u8_cm (x m : Int) : wrap64 (x % 256 % m) = x % 256 % m := by
  have h0 : 0 ≤ x % 256 := Int.emod_nonneg _ (by decide)
  have h1 : x % 256 < 256 := Int.emod_lt_of_pos _ (by decide)
  rcases Int.lt_trichotomy m 0 with h | h | h
  · have h2 := Int.emod_nonneg (x % 256) (show m ≠ 0 by omega)
    have h3 : x % 256 % m ≤ x % 256 := by
      rw [← Int.emod_neg]
      exact emod_le_ h0 (by omega)
    unfold wrap64; omega
  · subst h; rw [Int.emod_zero]; unfold wrap64; omega
  · have h2 := Int.emod_nonneg (x % 256) (show m ≠ 0 by omega)
    have h3 : x % 256 % m ≤ x % 256 := emod_le_ h0 h
    unfold wrap64; omega
theorem u8_two (x : Int) : wrap64 (x % 2) = x % 256 % 2 := by unfold wrap64; omega
section
variable {P : Program} {ops : Array Oper} {md : Region.Mode} {Q : Exit → Act → World → Prop} {S : World → Prop} {ds : List Nat} {T : Bool × List (List Nat × List Nat)} {B : List Nat}
theorem pz {i n : Nat} {is : List Nat} {oi : Oper} {v : Value} {fuel : Nat} {l : Array Bool} {a : Act} {w : World} (HT : Aside0 (rtab md ops = T)) (hi : ops[i]? = some oi) (hN : oi.dst = some n)
    (hc : anyT T l.toList (l.setIfInBounds i true).toList i = true) (hQ : ∀ c a w, Q (.panic c) (a.put oi.dst v) w → Q (.panic c) a w)
    (hy : Yields P ops oi v a) {a' : Act} (ha : a.put (some n) v = a')
    (h : Go_ is (wpAnyLast P md ops Q S ds fuel (l.setIfInBounds i true) a' w)) : Go_ (i :: is) (wpAnyLast P md ops Q S ds (fuel + 1) l a w) :=
  ⟨pure_ (i := i) (N := some n) _ hi hN (any_of HT.out hc) hQ hy ha h.out⟩
theorem tz {i n : Nat} {is : List Nat} {oi : Oper} {v : Value} {fuel : Nat} {l : Array Bool} {a : Act} {w : World} (HT : Aside0 (rtab md ops = T)) (HW : Aside0 (waitsOk T.2 B = true)) (hi : ops[i]? = some oi) (hN : oi.dst = some n) (hS : S w)
    (hc : takeW T B ds l.toList (l.setIfInBounds i true).toList i = true) (hQ : ∀ c a w, Q (.panic c) (a.put oi.dst v) w → Q (.panic c) a w)
    (hy : YieldsIf P ops S oi v a) {a' : Act} (ha : a.put (some n) v = a')
    (h : Go_ is (wpAnyLast P md ops Q S ds fuel (l.setIfInBounds i true) a' w)) : Go_ (i :: is) (wpAnyLast P md ops Q S ds (fuel + 1) l a w) :=
  ⟨take_ (i := i) (N := some n) _ hi hN (take_ofW HT.out HW.out hc) hQ hy hS ha h.out⟩
end
-- short names
theorem q0 : type_of% @blk_drewN := @blk_drewN
theorem q1 : type_of% @blk_drew := @blk_drew
theorem q2 : type_of% @blk_alloc := @blk_alloc
theorem q3 : type_of% @below_alloc := @below_alloc
theorem q4 : type_of% @pw_below_drewN := @pw_below_drewN
theorem q5 : type_of% @below_drew1 := @below_drew1
theorem q6 : type_of% @below_set := @below_set
theorem q7 : type_of% @below_size := @below_size
theorem q8 : type_of% @blk_below := @blk_below
theorem q9 : type_of% @blk_cell := @blk_cell
theorem q11 : type_of% @blk_frozen := @blk_frozen
theorem q12 : type_of% @below_step := @below_step
theorem q13 : type_of% @Aside0.mk := @Aside0.mk
theorem q14 : type_of% @World.block_lt_of_cell? := @World.block_lt_of_cell?
theorem q15 : type_of% @of_decide_eq_true := @of_decide_eq_true
theorem q17 : type_of% @Nat.le_refl := @Nat.le_refl
theorem q18 : type_of% @Kd.C_alloc := @Kd.C_alloc
theorem q19 : type_of% @Kd.C_drewN := @Kd.C_drewN
theorem q20 : type_of% @Kd.C_drew := @Kd.C_drew
theorem q31 : type_of% @Kd.S_alloc := @Kd.S_alloc
theorem q32 : type_of% @Kd.S_drewN := @Kd.S_drewN
theorem q33 : type_of% @Kd.S_drew := @Kd.S_drew
theorem q43 : type_of% @Kd.N_base := @Kd.N_base
theorem q44 : type_of% @Kd.R_base := @Kd.R_base
end Go.Proofs.Ytgjmljjnminefaa.Zip
