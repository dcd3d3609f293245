-- Written by a program of this session (myprint.py) out of the translation; Lean checks it.
import Derived.Test.YtegcelmjejhnfaaDoorQHyx0
import Derived.Test.YtegcelmjejhnfaaDoorQHyx3
import Derived.Test.YtegcelmjejhnfaaDoorQHyx4
import Derived.Test.YtegcelmjejhnfaaDoorQHyx6
import Derived.Test.YtegcelmjejhnfaaDoorQHyx13
import Derived.Test.YtegcelmjejhnfaaDoorFHyHy
import Derived.Test.YtegcelmjejhnfaaDoorArrEq
namespace Go.Proofs.YtegcelmjejhnfaaDoor.QHy
open Go.RowKit Go.Proofs.YtegcelmjejhnfaaDoorW.PrintWords Go.Proofs.YtegcelmjejhnfaaDoorW.PrintLast Go.Proofs.YtegcelmjejhnfaaDoorW.PrintMore
attribute [local go_sem] max2_int min2_int max_two min_two max_three min_three max_four min_four   -- for this text's walks alone
set_option linter.unusedVariables false
set_option linter.unusedSimpArgs false

/-! ### frisketref09_Standard: function 18 -/
mutual
def frisketref09_Standard.l0 : Nat → List ByteArray → ByteArray → ByteArray → Int → Option (List ByteArray)
  | 0, _, _, _, _ => none
  | k + 1, x1, x2, x3, x4 => if x4 < (x2.size : Int) then (frisketref09_Standard.l1 k x1 x2 x3 x4 0) else ((some (([(⟨#[110, 49, 100]⟩ : ByteArray), (⟨#[110, 49, 116]⟩ : ByteArray), (⟨#[114, 49, 116]⟩ : ByteArray), (⟨#[108, 49, 116]⟩ : ByteArray), (⟨#[115, 49, 116, 50]⟩ : ByteArray), (⟨#[50, 101, 100, 46]⟩ : ByteArray), (⟨#[50, 101, 115, 46]⟩ : ByteArray), (⟨#[46, 117, 110, 49]⟩ : ByteArray), (⟨#[46, 114, 101, 49]⟩ : ByteArray), (⟨#[116, 50, 105, 111]⟩ : ByteArray), (⟨#[52, 108, 101, 46]⟩ : ByteArray), (⟨#[50, 103, 104, 116]⟩ : ByteArray), (⟨#[49, 116, 105, 111, 110]⟩ : ByteArray)] : List ByteArray) : List ByteArray)).bind fun y394 => (if x1.length + y394.length < 8796093022208 then (some (x1 ++ y394)) else (none)))
def frisketref09_Standard.l1 : Nat → List ByteArray → ByteArray → ByteArray → Int → Int → Option (List ByteArray)
  | 0, _, _, _, _, _ => none
  | k + 1, x1, x2, x3, x4, x5 => if x5 < (x3.size : Int) then (if 0 ≤ x4 then (if x4 < (x2.size : Int) then (if (bt x2 x4) = 118 then (if 0 ≤ x5 then (if (bt x3 x5) = 117 then (frisketref09_Standard.l1 k x1 x2 x3 x4 (wrap64 (x5 + 1))) else (if x4 ≤ (wrap64 (x4 + 1)) then (if (wrap64 (x4 + 1)) ≤ (x2.size : Int) then (if 1 + (x2.extract (x4 : Int).toNat ((wrap64 (x4 + 1)) : Int).toNat).size ≤ 9223372036854775807 then (if x5 ≤ (wrap64 (x5 + 1)) then (if (wrap64 (x5 + 1)) ≤ (x3.size : Int) then (if ((⟨#[49]⟩ : ByteArray) ++ (x2.extract (x4 : Int).toNat ((wrap64 (x4 + 1)) : Int).toNat)).size + (x3.extract (x5 : Int).toNat ((wrap64 (x5 + 1)) : Int).toNat).size ≤ 9223372036854775807 then (if x1.length < 8796093022208 then (frisketref09_Standard.l1 k (x1 ++ [((⟨#[49]⟩ : ByteArray) ++ (x2.extract (x4 : Int).toNat ((wrap64 (x4 + 1)) : Int).toNat)) ++ (x3.extract (x5 : Int).toNat ((wrap64 (x5 + 1)) : Int).toNat)]) x2 x3 x4 (wrap64 (x5 + 1))) else (none)) else (none)) else (none)) else (none)) else (none)) else (none)) else (none))) else (none)) else (if x4 ≤ (wrap64 (x4 + 1)) then (if (wrap64 (x4 + 1)) ≤ (x2.size : Int) then (if 1 + (x2.extract (x4 : Int).toNat ((wrap64 (x4 + 1)) : Int).toNat).size ≤ 9223372036854775807 then (if 0 ≤ x5 then (if x5 ≤ (wrap64 (x5 + 1)) then (if (wrap64 (x5 + 1)) ≤ (x3.size : Int) then (if ((⟨#[49]⟩ : ByteArray) ++ (x2.extract (x4 : Int).toNat ((wrap64 (x4 + 1)) : Int).toNat)).size + (x3.extract (x5 : Int).toNat ((wrap64 (x5 + 1)) : Int).toNat).size ≤ 9223372036854775807 then (if x1.length < 8796093022208 then (frisketref09_Standard.l1 k (x1 ++ [((⟨#[49]⟩ : ByteArray) ++ (x2.extract (x4 : Int).toNat ((wrap64 (x4 + 1)) : Int).toNat)) ++ (x3.extract (x5 : Int).toNat ((wrap64 (x5 + 1)) : Int).toNat)]) x2 x3 x4 (wrap64 (x5 + 1))) else (none)) else (none)) else (none)) else (none)) else (none)) else (none)) else (none)) else (none))) else (none)) else (none)) else (frisketref09_Standard.l0 k x1 x2 x3 (wrap64 (x4 + 1)))
end
def frisketref09_Standard.f (k : Nat)  : Option (List ByteArray) := frisketref09_Standard.l0 k ([] : List ByteArray) (⟨#[98, 99, 100, 102, 103, 108, 109, 110, 112, 114, 115, 116, 118]⟩ : ByteArray) (⟨#[97, 101, 105, 111, 117]⟩ : ByteArray) 0
theorem frisketref09_Standard.mono_l : ∀ k, (∀ y0 y1 y2 y3, LeO (frisketref09_Standard.l0 k y0 y1 y2 y3) (frisketref09_Standard.l0 (k + 1) y0 y1 y2 y3)) ∧ (∀ y0 y1 y2 y3 y4, LeO (frisketref09_Standard.l1 k y0 y1 y2 y3 y4) (frisketref09_Standard.l1 (k + 1) y0 y1 y2 y3 y4))
  | 0 => ⟨fun _ _ _ _ r h => by simp [frisketref09_Standard.l0] at h, fun _ _ _ _ _ r h => by simp [frisketref09_Standard.l1] at h⟩
  | k + 1 => by
    obtain ⟨ih0, ih1⟩ := frisketref09_Standard.mono_l k
    refine ⟨?_, ?_⟩
    · intro y0 y1 y2 y3
      unfold frisketref09_Standard.l0
      repeat' first
      | (with_reducible exact ih0 _ _ _ _)
      | (with_reducible exact ih1 _ _ _ _ _)
      | (with_reducible exact LeO.refl _)
      | (with_reducible exact LeO.none _)
      | (with_reducible refine LeO.ite ?_ ?_)
      | (with_reducible refine LeO.bind ?_ (fun _ => ?_))
      | exact ih0 _ _ _ _
      | exact ih1 _ _ _ _ _
      | exact LeO.none _
      | refine LeO.ite ?_ ?_
      | refine LeO.bind ?_ (fun _ => ?_)
    · intro y0 y1 y2 y3 y4
      unfold frisketref09_Standard.l1
      repeat' first
      | (with_reducible exact ih0 _ _ _ _)
      | (with_reducible exact ih1 _ _ _ _ _)
      | (with_reducible exact LeO.refl _)
      | (with_reducible exact LeO.none _)
      | (with_reducible refine LeO.ite ?_ ?_)
      | (with_reducible refine LeO.bind ?_ (fun _ => ?_))
      | exact ih0 _ _ _ _
      | exact ih1 _ _ _ _ _
      | exact LeO.none _
      | refine LeO.ite ?_ ?_
      | refine LeO.bind ?_ (fun _ => ?_)
theorem frisketref09_Standard.mono : ∀ k, LeO (frisketref09_Standard.f k ) (frisketref09_Standard.f (k + 1) ) := by
  intro  k
  obtain ⟨ih0, ih1⟩ := frisketref09_Standard.mono_l k
  unfold frisketref09_Standard.f
  repeat' first
      | (with_reducible exact ih0 _ _ _ _)
      | (with_reducible exact ih1 _ _ _ _ _)
      | (with_reducible exact LeO.refl _)
      | (with_reducible exact LeO.none _)
      | (with_reducible refine LeO.ite ?_ ?_)
      | (with_reducible refine LeO.bind ?_ (fun _ => ?_))
      | exact ih0 _ _ _ _
      | exact ih1 _ _ _ _ _
      | exact LeO.none _
      | refine LeO.ite ?_ ?_
      | refine LeO.bind ?_ (fun _ => ?_)
def frisketref09_Standard.T10 : Bool × List (List Nat × List Nat) := (true, [([], []), ([], []), ([], []), ([], []), ([3], [3]), ([1, 2, 4], [1, 2, 4]), ([5], [5]), ([], []), ([], []), ([], []), ([9], [9]), ([7, 8, 10], [7, 8, 10]), ([6, 11], [6, 11]), ([12], [12]), ([0, 13], [0, 13]), ([14, 14, 0, 1, 2, 3, 4, 5, 6, 7, 8, 9, 10, 11, 12, 13, 14], [0, 14])])
def frisketref09_Standard.B10 : List Nat := [0, 0, 0, 0, 8, 30, 62, 0, 0, 0, 512, 1920, 4094, 8190, 16383, 32767]
theorem frisketref09_Standard.tab10 : rtab .any (opsOf Tryd.f18 10) = frisketref09_Standard.T10 := by kernel_rfl
theorem frisketref09_Standard.bits10 : waitsOk frisketref09_Standard.T10.2 frisketref09_Standard.B10 = true := by kernel_rfl
set_option maxHeartbeats 8000000 in
set_option maxRecDepth 100000 in
theorem frisketref09_Standard.calls (k : Nat)  (r : List ByteArray) (w : World) (h : frisketref09_Standard.f k  = some r) :
    Calls Tryd.prog 18 #[] w fun e w' => ∃ v0_ : Value, e = .returned (v0_) ∧ Kd.R Kd.string 9 w' w.heap.size (fun _ => True) v0_ r ∧ Below w.heap.size w w' := by
  have HB := Aside0.mk (Below.refl w.heap.size w)
  have H : (frisketref09_Standard.l0 k ([] : List ByteArray) (⟨#[98, 99, 100, 102, 103, 108, 109, 110, 112, 114, 115, 116, 118]⟩ : ByteArray) (⟨#[97, 101, 105, 111, 117]⟩ : ByteArray) 0) = some r := h
  clear h
  have H' := Aside0.mk H
  clear H
  go_enter Tryd.func18, Tryd.ntmps18
  go_wp2
  go_loopg [1, 4] k (fun kq v1 v4 w' => ∃ (x1_1 : List ByteArray) (x4_1 : Int), v4 = .int .i64 x4_1 ∧ Aside0 (frisketref09_Standard.l0 kq x1_1 (⟨#[98, 99, 100, 102, 103, 108, 109, 110, 112, 114, 115, 116, 118]⟩ : ByteArray) (⟨#[97, 101, 105, 111, 117]⟩ : ByteArray) x4_1 = some r) ∧ Aside0 (kq ≤ k) ∧ Aside0 (Kd.R Kd.string 9 w' w.heap.size (fun _ => True) v1 x1_1) ∧ Aside0 (Below w.heap.size w w'))
  case atStart => exact ⟨(([] : List ByteArray)), (0), (by first | rfl | (simp; done) | (simp [*]; done)), H', ⟨Nat.le_refl _⟩, ⟨by first | exact Kd.R_nil _ _ _ _ _ | exact Kd.N_nil _ _ _ _ _ | exact Kd.V_nil _ _ _ _ _ | exact Kd.Q_nil _ _ _ _ _ | exact Kd.S_nil _ _ _ _ _⟩, ⟨by repeat (first | (with_reducible first | exact HB.out | apply below_alloc | apply pw_below_drewN | apply below_drew1) | exact HB.out)⟩⟩
  case round =>
    clear H'
    obtain ⟨x1_1, x4_1, rfl, HA, HK1, HO_1, HB⟩ := hrel
    cases gk with
    | zero => exact absurd HA.out (by simp [frisketref09_Standard.l0])
    | succ k1 =>
      have H := HA.out
      clear HA
      simp only [frisketref09_Standard.l0] at H
      by_cases c1 : x4_1 < ((⟨#[98, 99, 100, 102, 103, 108, 109, 110, 112, 114, 115, 116, 118]⟩ : ByteArray).size : Int)
      · rw [if_pos c1] at H
        have c1b0 : decide (x4_1 < ((⟨#[98, 99, 100, 102, 103, 108, 109, 110, 112, 114, 115, 116, 118]⟩ : ByteArray).size : Int)) = true := decide_eq_true c1
        have c1b0z : decide (x4_1 < 13) = true := c1b0
        clear c1
        have H' := Aside0.mk H
        clear H
        go_wp2
        go_loopg [1, 5] k1 (fun kq v1 v5 w' => ∃ (x1_2 : List ByteArray) (x5_2 : Int), v5 = .int .i64 x5_2 ∧ Aside0 (frisketref09_Standard.l1 kq x1_2 (⟨#[98, 99, 100, 102, 103, 108, 109, 110, 112, 114, 115, 116, 118]⟩ : ByteArray) (⟨#[97, 101, 105, 111, 117]⟩ : ByteArray) x4_1 x5_2 = some r) ∧ Aside0 (kq ≤ k1) ∧ Aside0 (Kd.R Kd.string 9 w' w.heap.size (fun _ => True) v1 x1_2) ∧ Aside0 (Below w.heap.size w w'))
        case atStart => exact ⟨(x1_1), (0), (by first | rfl | (simp; done) | (simp [*]; done)), H', ⟨Nat.le_refl _⟩, ⟨by (with_reducible repeat (first | apply Kd.R_alloc | apply Kd.R_drewN | apply Kd.R_drew)); exact HO_1.out⟩, ⟨by repeat (first | (with_reducible first | exact HB.out | apply below_alloc | apply pw_below_drewN | apply below_drew1) | exact HB.out)⟩⟩
        case round =>
          clear H'
          try clear c1
          try clear c1b0
          obtain ⟨x1_2, x5_2, rfl, HA, HK2, HO_1, HB⟩ := hrel
          cases gk with
          | zero => exact absurd HA.out (by simp [frisketref09_Standard.l1])
          | succ k2 =>
            have H := HA.out
            clear HA
            simp only [frisketref09_Standard.l1] at H
            by_cases c2 : x5_2 < ((⟨#[97, 101, 105, 111, 117]⟩ : ByteArray).size : Int)
            · rw [if_pos c2] at H
              have c2b0 : decide (x5_2 < ((⟨#[97, 101, 105, 111, 117]⟩ : ByteArray).size : Int)) = true := decide_eq_true c2
              have c2b0z : decide (x5_2 < 5) = true := c2b0
              clear c2
              by_cases c3 : 0 ≤ x4_1
              · rw [if_pos c3] at H
                have c3b0 : decide (0 ≤ x4_1) = true := decide_eq_true c3
                clear c3
                by_cases c4 : x4_1 < ((⟨#[98, 99, 100, 102, 103, 108, 109, 110, 112, 114, 115, 116, 118]⟩ : ByteArray).size : Int)
                · rw [if_pos c4] at H
                  have c4b0 : decide (x4_1 < ((⟨#[98, 99, 100, 102, 103, 108, 109, 110, 112, 114, 115, 116, 118]⟩ : ByteArray).size : Int)) = true := decide_eq_true c4
                  have c4b0z : decide (x4_1 < 13) = true := c4b0
                  clear c4
                  by_cases c6 : (bt (⟨#[98, 99, 100, 102, 103, 108, 109, 110, 112, 114, 115, 116, 118]⟩ : ByteArray) x4_1) = 118
                  · rw [if_pos c6] at H
                    have c6b0 : ((bt (⟨#[98, 99, 100, 102, 103, 108, 109, 110, 112, 114, 115, 116, 118]⟩ : ByteArray) x4_1) == 118) = true := beq_iff_eq.mpr c6
                    have c6b1 : ((bt (⟨#[98, 99, 100, 102, 103, 108, 109, 110, 112, 114, 115, 116, 118]⟩ : ByteArray) x4_1) != 118) = false := bne_eq_false_iff_eq.mpr c6
                    clear c6
                    by_cases c7 : 0 ≤ x5_2
                    · rw [if_pos c7] at H
                      have c7b0 : decide (0 ≤ x5_2) = true := decide_eq_true c7
                      clear c7
                      by_cases c9 : (bt (⟨#[97, 101, 105, 111, 117]⟩ : ByteArray) x5_2) = 117
                      · rw [if_pos c9] at H
                        have c9b0 : ((bt (⟨#[97, 101, 105, 111, 117]⟩ : ByteArray) x5_2) == 117) = true := beq_iff_eq.mpr c9
                        have c9b1 : ((bt (⟨#[97, 101, 105, 111, 117]⟩ : ByteArray) x5_2) != 117) = false := bne_eq_false_iff_eq.mpr c9
                        clear c9
                        have H' := Aside0.mk H
                        clear H
                        have p5 : 0 ≤ (x4_1 : Int) := of_decide_eq_true (by first | (with_reducible assumption) | assumption)
                        have q5 : x4_1 < (13 : Int) := of_decide_eq_true (by first | (with_reducible assumption) | assumption)
                        have hx5 := bt_at (⟨#[98, 99, 100, 102, 103, 108, 109, 110, 112, 114, 115, 116, 118]⟩ : ByteArray) x4_1
                        replace p5 := eq_true p5
                        replace q5 := eq_true q5
                        have p8 : 0 ≤ (x5_2 : Int) := of_decide_eq_true (by first | (with_reducible assumption) | assumption)
                        have q8 : x5_2 < (5 : Int) := of_decide_eq_true (by first | (with_reducible assumption) | assumption)
                        have hx8 := bt_at (⟨#[97, 101, 105, 111, 117]⟩ : ByteArray) x5_2
                        replace p8 := eq_true p8
                        replace q8 := eq_true q8
                        go_wp2
                        go_roundg k2
                        case measure => have := HK1.out; have := HK2.out; omega
                        case rel => exact ⟨(x1_2), (wrap64 (x5_2 + 1)), (by first | rfl | (simp; done) | (simp [*]; done)), H', ⟨by have := HK1.out; have := HK2.out; omega⟩, ⟨by (with_reducible repeat (first | apply Kd.R_alloc | apply Kd.R_drewN | apply Kd.R_drew)); exact HO_1.out⟩, ⟨by repeat (first | (with_reducible first | exact HB.out | apply below_alloc | apply pw_below_drewN | apply below_drew1) | exact HB.out)⟩⟩
                      · rw [if_neg c9] at H
                        have c9b0 : ((bt (⟨#[97, 101, 105, 111, 117]⟩ : ByteArray) x5_2) == 117) = false := beq_eq_false_iff_ne.mpr c9
                        have c9b1 : ((bt (⟨#[97, 101, 105, 111, 117]⟩ : ByteArray) x5_2) != 117) = true := bne_iff_ne.mpr c9
                        have c10b0 := eq_true (of_decide_eq_true (by first | (with_reducible assumption) | assumption) : 0 ≤ x4_1)
                        by_cases c11 : x4_1 ≤ (wrap64 (x4_1 + 1))
                        · rw [if_pos c11] at H
                          have c11b0 := eq_true c11
                          have c11b1 : decide (x4_1 ≤ (wrap64 (x4_1 + 1))) = true := decide_eq_true c11
                          by_cases c12 : (wrap64 (x4_1 + 1)) ≤ ((⟨#[98, 99, 100, 102, 103, 108, 109, 110, 112, 114, 115, 116, 118]⟩ : ByteArray).size : Int)
                          · rw [if_pos c12] at H
                            have c12b0 := eq_true c12
                            have c12z : ((wrap64 (x4_1 + 1)) ≤ (13 : Int)) = True := c12b0
                            have c12b1 : decide ((wrap64 (x4_1 + 1)) ≤ ((⟨#[98, 99, 100, 102, 103, 108, 109, 110, 112, 114, 115, 116, 118]⟩ : ByteArray).size : Int)) = true := decide_eq_true c12
                            by_cases c13 : 1 + ((⟨#[98, 99, 100, 102, 103, 108, 109, 110, 112, 114, 115, 116, 118]⟩ : ByteArray).extract (x4_1 : Int).toNat ((wrap64 (x4_1 + 1)) : Int).toNat).size ≤ 9223372036854775807
                            · rw [if_pos c13] at H
                              have c13b0 := eq_true c13
                              have c13b1 : decide (1 + ((⟨#[98, 99, 100, 102, 103, 108, 109, 110, 112, 114, 115, 116, 118]⟩ : ByteArray).extract (x4_1 : Int).toNat ((wrap64 (x4_1 + 1)) : Int).toNat).size ≤ 9223372036854775807) = true := decide_eq_true c13
                              try have c13b2 : (9223372036854775807 < 1 + ((⟨#[98, 99, 100, 102, 103, 108, 109, 110, 112, 114, 115, 116, 118]⟩ : ByteArray).extract (x4_1 : Int).toNat ((wrap64 (x4_1 + 1)) : Int).toNat).size) = False := eq_false (Nat.not_lt.2 c13)
                              (try have c13b3 : (9223372036854775807 < 1 + (((wrap64 (x4_1 + 1)) : Int).toNat - (x4_1 : Int).toNat)) = False := by have h_ := c13b2; (try simp only [ByteArray.size_append] at h_); rw [ext_size (b := (⟨#[98, 99, 100, 102, 103, 108, 109, 110, 112, 114, 115, 116, 118]⟩ : ByteArray)) (S := (x4_1 : Int).toNat) (X := ((wrap64 (x4_1 + 1)) : Int)) (by first | assumption | exact of_decide_eq_true (by assumption) | exact Int.le_of_lt (Int.not_le.1 (of_decide_eq_false (p := ((wrap64 (x4_1 + 1)) ≥ ((⟨#[98, 99, 100, 102, 103, 108, 109, 110, 112, 114, 115, 116, 118]⟩ : ByteArray).size : Int))) (by assumption))) | exact Int.le_of_lt (Int.not_le.1 (of_decide_eq_false (p := (((⟨#[98, 99, 100, 102, 103, 108, 109, 110, 112, 114, 115, 116, 118]⟩ : ByteArray).size : Int) ≤ (wrap64 (x4_1 + 1)))) (by assumption))))] at h_; first | exact h_ | (rw [Nat.add_assoc]; exact h_) | (rw [← Nat.add_assoc] at h_; exact h_))
                              have c14b0 := eq_true (of_decide_eq_true (by first | (with_reducible assumption) | assumption) : 0 ≤ x5_2)
                              by_cases c15 : x5_2 ≤ (wrap64 (x5_2 + 1))
                              · rw [if_pos c15] at H
                                have c15b0 := eq_true c15
                                have c15b1 : decide (x5_2 ≤ (wrap64 (x5_2 + 1))) = true := decide_eq_true c15
                                by_cases c16 : (wrap64 (x5_2 + 1)) ≤ ((⟨#[97, 101, 105, 111, 117]⟩ : ByteArray).size : Int)
                                · rw [if_pos c16] at H
                                  have c16b0 := eq_true c16
                                  have c16z : ((wrap64 (x5_2 + 1)) ≤ (5 : Int)) = True := c16b0
                                  have c16b1 : decide ((wrap64 (x5_2 + 1)) ≤ ((⟨#[97, 101, 105, 111, 117]⟩ : ByteArray).size : Int)) = true := decide_eq_true c16
                                  by_cases c17 : ((⟨#[49]⟩ : ByteArray) ++ ((⟨#[98, 99, 100, 102, 103, 108, 109, 110, 112, 114, 115, 116, 118]⟩ : ByteArray).extract (x4_1 : Int).toNat ((wrap64 (x4_1 + 1)) : Int).toNat)).size + ((⟨#[97, 101, 105, 111, 117]⟩ : ByteArray).extract (x5_2 : Int).toNat ((wrap64 (x5_2 + 1)) : Int).toNat).size ≤ 9223372036854775807
                                  · rw [if_pos c17] at H
                                    have c17b0 := eq_true c17
                                    have c17b1 : decide (((⟨#[49]⟩ : ByteArray) ++ ((⟨#[98, 99, 100, 102, 103, 108, 109, 110, 112, 114, 115, 116, 118]⟩ : ByteArray).extract (x4_1 : Int).toNat ((wrap64 (x4_1 + 1)) : Int).toNat)).size + ((⟨#[97, 101, 105, 111, 117]⟩ : ByteArray).extract (x5_2 : Int).toNat ((wrap64 (x5_2 + 1)) : Int).toNat).size ≤ 9223372036854775807) = true := decide_eq_true c17
                                    try have c17b2 : (9223372036854775807 < ((⟨#[49]⟩ : ByteArray) ++ ((⟨#[98, 99, 100, 102, 103, 108, 109, 110, 112, 114, 115, 116, 118]⟩ : ByteArray).extract (x4_1 : Int).toNat ((wrap64 (x4_1 + 1)) : Int).toNat)).size + ((⟨#[97, 101, 105, 111, 117]⟩ : ByteArray).extract (x5_2 : Int).toNat ((wrap64 (x5_2 + 1)) : Int).toNat).size) = False := eq_false (Nat.not_lt.2 c17)
                                    (try have c17b3 : (9223372036854775807 < 1 + (((wrap64 (x4_1 + 1)) : Int).toNat - (x4_1 : Int).toNat) + (((wrap64 (x5_2 + 1)) : Int).toNat - (x5_2 : Int).toNat)) = False := by have h_ := c17b2; (try simp only [ByteArray.size_append] at h_); rw [ext_size (b := (⟨#[98, 99, 100, 102, 103, 108, 109, 110, 112, 114, 115, 116, 118]⟩ : ByteArray)) (S := (x4_1 : Int).toNat) (X := ((wrap64 (x4_1 + 1)) : Int)) (by first | assumption | exact of_decide_eq_true (by assumption) | exact Int.le_of_lt (Int.not_le.1 (of_decide_eq_false (p := ((wrap64 (x4_1 + 1)) ≥ ((⟨#[98, 99, 100, 102, 103, 108, 109, 110, 112, 114, 115, 116, 118]⟩ : ByteArray).size : Int))) (by assumption))) | exact Int.le_of_lt (Int.not_le.1 (of_decide_eq_false (p := (((⟨#[98, 99, 100, 102, 103, 108, 109, 110, 112, 114, 115, 116, 118]⟩ : ByteArray).size : Int) ≤ (wrap64 (x4_1 + 1)))) (by assumption))))] at h_; rw [ext_size (b := (⟨#[97, 101, 105, 111, 117]⟩ : ByteArray)) (S := (x5_2 : Int).toNat) (X := ((wrap64 (x5_2 + 1)) : Int)) (by first | assumption | exact of_decide_eq_true (by assumption) | exact Int.le_of_lt (Int.not_le.1 (of_decide_eq_false (p := ((wrap64 (x5_2 + 1)) ≥ ((⟨#[97, 101, 105, 111, 117]⟩ : ByteArray).size : Int))) (by assumption))) | exact Int.le_of_lt (Int.not_le.1 (of_decide_eq_false (p := (((⟨#[97, 101, 105, 111, 117]⟩ : ByteArray).size : Int) ≤ (wrap64 (x5_2 + 1)))) (by assumption))))] at h_; first | exact h_ | (rw [Nat.add_assoc]; exact h_) | (rw [← Nat.add_assoc] at h_; exact h_))
                                    (try have c17b5 : (9223372036854775807 < (1 + (((wrap64 (x4_1 + 1)) : Int).toNat - (x4_1 : Int).toNat)) + (((wrap64 (x5_2 + 1)) : Int).toNat - (x5_2 : Int).toNat)) = False := by have h_ := c17b2; (try simp only [ByteArray.size_append] at h_); rw [ext_size (b := (⟨#[98, 99, 100, 102, 103, 108, 109, 110, 112, 114, 115, 116, 118]⟩ : ByteArray)) (S := (x4_1 : Int).toNat) (X := ((wrap64 (x4_1 + 1)) : Int)) (by first | assumption | exact of_decide_eq_true (by assumption) | exact Int.le_of_lt (Int.not_le.1 (of_decide_eq_false (p := ((wrap64 (x4_1 + 1)) ≥ ((⟨#[98, 99, 100, 102, 103, 108, 109, 110, 112, 114, 115, 116, 118]⟩ : ByteArray).size : Int))) (by assumption))) | exact Int.le_of_lt (Int.not_le.1 (of_decide_eq_false (p := (((⟨#[98, 99, 100, 102, 103, 108, 109, 110, 112, 114, 115, 116, 118]⟩ : ByteArray).size : Int) ≤ (wrap64 (x4_1 + 1)))) (by assumption))))] at h_; rw [ext_size (b := (⟨#[97, 101, 105, 111, 117]⟩ : ByteArray)) (S := (x5_2 : Int).toNat) (X := ((wrap64 (x5_2 + 1)) : Int)) (by first | assumption | exact of_decide_eq_true (by assumption) | exact Int.le_of_lt (Int.not_le.1 (of_decide_eq_false (p := ((wrap64 (x5_2 + 1)) ≥ ((⟨#[97, 101, 105, 111, 117]⟩ : ByteArray).size : Int))) (by assumption))) | exact Int.le_of_lt (Int.not_le.1 (of_decide_eq_false (p := (((⟨#[97, 101, 105, 111, 117]⟩ : ByteArray).size : Int) ≤ (wrap64 (x5_2 + 1)))) (by assumption))))] at h_; first | exact h_ | (rw [Nat.add_assoc]; exact h_) | (rw [← Nat.add_assoc] at h_; exact h_))
                                    by_cases c18 : x1_2.length < 8796093022208
                                    · rw [if_pos c18] at H
                                      have LMc18 := Aside0.mk c18
                                      clear c18
                                      obtain ⟨y400, hy400⟩ : ∃ y_ : List ByteArray, y_ = (x1_2 ++ [((⟨#[49]⟩ : ByteArray) ++ ((⟨#[98, 99, 100, 102, 103, 108, 109, 110, 112, 114, 115, 116, 118]⟩ : ByteArray).extract (x4_1 : Int).toNat ((wrap64 (x4_1 + 1)) : Int).toNat)) ++ ((⟨#[97, 101, 105, 111, 117]⟩ : ByteArray).extract (x5_2 : Int).toNat ((wrap64 (x5_2 + 1)) : Int).toNat)]) := ⟨_, rfl⟩
                                      replace H : (frisketref09_Standard.l1 k2 y400 (⟨#[98, 99, 100, 102, 103, 108, 109, 110, 112, 114, 115, 116, 118]⟩ : ByteArray) (⟨#[97, 101, 105, 111, 117]⟩ : ByteArray) x4_1 (wrap64 (x5_2 + 1))) = some r := by first | (rw [hy400]; with_reducible exact H) | (have H2_ := (Option.bind_some _ _).symm.trans H; rw [hy400]; with_reducible exact H2_) | (have H2_ := (Option.bind_some _ _).symm.trans H; with_reducible exact H2_) | with_reducible exact H | (rw [hy400]; exact H) | exact H
                                      have Ny400 := Aside0.mk hy400
                                      clear hy400
                                      have H' := Aside0.mk H
                                      clear H
                                      have p5 : 0 ≤ (x4_1 : Int) := of_decide_eq_true (by first | (with_reducible assumption) | assumption)
                                      have q5 : x4_1 < (13 : Int) := of_decide_eq_true (by first | (with_reducible assumption) | assumption)
                                      have hx5 := bt_at (⟨#[98, 99, 100, 102, 103, 108, 109, 110, 112, 114, 115, 116, 118]⟩ : ByteArray) x4_1
                                      replace p5 := eq_true p5
                                      replace q5 := eq_true q5
                                      have p8 : 0 ≤ (x5_2 : Int) := of_decide_eq_true (by first | (with_reducible assumption) | assumption)
                                      have q8 : x5_2 < (5 : Int) := of_decide_eq_true (by first | (with_reducible assumption) | assumption)
                                      have hx8 := bt_at (⟨#[97, 101, 105, 111, 117]⟩ : ByteArray) x5_2
                                      replace p8 := eq_true p8
                                      replace q8 := eq_true q8
                                      try go_wp2
                                      have n0_ := Aside0.mk (Kd.R_drew HO_1.out)
                                      have n1_ := Aside0.mk (below_drew1 HB.out)
                                      clear HO_1
                                      clear HB
                                      have HO_1 := n0_
                                      have HB := n1_
                                      clear n0_ n1_
                                      refine start_ (n := 16) (S := fun w' => True) (ds := []) #[false, false, false, false, false, false, false, false, false, false, false, false, false, false, false, false] (by kernel_rfl) rfl rfl trivial (fun hHeld => ?_); refine with_tabW frisketref09_Standard.tab10 frisketref09_Standard.bits10 (fun HT_ HW_ => ?_)
                                      generalize wr.drew = w19 at HO_1 HB hHeld ⊢
                                      refine pure_ (i := 0) (N := some 28) (v := ?_) (a' := ?_) #[true, false, false, false, false, false, false, false, false, false, false, false, false, false, false, false] rfl rfl (any_of HT_.out (by kernel_rfl)) (fun _ _ _ h => h) (Or.inl ⟨by rfl, ?_⟩) ?_ ?_
                                      rotate_left
                                      · intro w'
                                        go_simp
                                        with_reducible rfl
                                      rotate_left
                                      · simp only [Act.put, List.setIfInBounds_toArray, List.set_cons_zero, List.set_cons_succ, i64_w, i32_w]
                                        rfl
                                      refine pure_ (i := 1) (N := some 29) (v := ?_) (a' := ?_) #[true, true, false, false, false, false, false, false, false, false, false, false, false, false, false, false] rfl rfl (any_of HT_.out (by kernel_rfl)) (fun _ _ _ h => h) (Or.inl ⟨by rfl, ?_⟩) ?_ ?_
                                      rotate_left
                                      · intro w'
                                        go_simp
                                        with_reducible rfl
                                      rotate_left
                                      · simp only [Act.put, List.setIfInBounds_toArray, List.set_cons_zero, List.set_cons_succ, i64_w, i32_w]
                                        rfl
                                      refine pure_ (i := 2) (N := some 30) (v := ?_) (a' := ?_) #[true, true, true, false, false, false, false, false, false, false, false, false, false, false, false, false] rfl rfl (any_of HT_.out (by kernel_rfl)) (fun _ _ _ h => h) (Or.inl ⟨by rfl, ?_⟩) ?_ ?_
                                      rotate_left
                                      · intro w'
                                        go_simp
                                        with_reducible rfl
                                      rotate_left
                                      · simp only [Act.put, List.setIfInBounds_toArray, List.set_cons_zero, List.set_cons_succ, i64_w, i32_w]
                                        rfl
                                      refine pure_ (i := 3) (N := some 31) (v := ?_) (a' := ?_) #[true, true, true, true, false, false, false, false, false, false, false, false, false, false, false, false] rfl rfl (any_of HT_.out (by kernel_rfl)) (fun _ _ _ h => h) (Or.inl ⟨by rfl, ?_⟩) ?_ ?_
                                      rotate_left
                                      · intro w'
                                        go_simp
                                        with_reducible rfl
                                      rotate_left
                                      · simp only [Act.put, List.setIfInBounds_toArray, List.set_cons_zero, List.set_cons_succ, i64_w, i32_w]
                                        rfl
                                      refine pure_ (i := 4) (N := some 32) (v := ?_) (a' := ?_) #[true, true, true, true, true, false, false, false, false, false, false, false, false, false, false, false] rfl rfl (any_of HT_.out (by kernel_rfl)) (fun _ _ _ h => h) (Or.inl ⟨by rfl, ?_⟩) ?_ ?_
                                      rotate_left
                                      · intro w'
                                        go_simp
                                        with_reducible rfl
                                      rotate_left
                                      · simp only [Act.put, List.setIfInBounds_toArray, List.set_cons_zero, List.set_cons_succ, i64_w, i32_w]
                                        rfl
                                      refine pure_ (i := 5) (N := some 33) (v := ?_) (a' := ?_) #[true, true, true, true, true, true, false, false, false, false, false, false, false, false, false, false] rfl rfl (any_of HT_.out (by kernel_rfl)) (fun _ _ _ h => h) (Or.inl ⟨by rfl, ?_⟩) ?_ ?_
                                      rotate_left
                                      · intro w'
                                        go_simp
                                        with_reducible rfl
                                      rotate_left
                                      · simp only [Act.put, List.setIfInBounds_toArray, List.set_cons_zero, List.set_cons_succ, i64_w, i32_w]
                                        rfl
                                      refine pure_ (i := 6) (N := some 34) (v := ?_) (a' := ?_) #[true, true, true, true, true, true, true, false, false, false, false, false, false, false, false, false] rfl rfl (any_of HT_.out (by kernel_rfl)) (fun _ _ _ h => h) (Or.inl ⟨by rfl, ?_⟩) ?_ ?_
                                      rotate_left
                                      · intro w'
                                        go_simp
                                        with_reducible rfl
                                      rotate_left
                                      · simp only [Act.put, List.setIfInBounds_toArray, List.set_cons_zero, List.set_cons_succ, i64_w, i32_w]
                                        rfl
                                      refine pure_ (i := 7) (N := some 35) (v := ?_) (a' := ?_) #[true, true, true, true, true, true, true, true, false, false, false, false, false, false, false, false] rfl rfl (any_of HT_.out (by kernel_rfl)) (fun _ _ _ h => h) (Or.inl ⟨by rfl, ?_⟩) ?_ ?_
                                      rotate_left
                                      · intro w'
                                        go_simp
                                        with_reducible rfl
                                      rotate_left
                                      · simp only [Act.put, List.setIfInBounds_toArray, List.set_cons_zero, List.set_cons_succ, i64_w, i32_w]
                                        rfl
                                      refine pure_ (i := 8) (N := some 36) (v := ?_) (a' := ?_) #[true, true, true, true, true, true, true, true, true, false, false, false, false, false, false, false] rfl rfl (any_of HT_.out (by kernel_rfl)) (fun _ _ _ h => h) (Or.inl ⟨by rfl, ?_⟩) ?_ ?_
                                      rotate_left
                                      · intro w'
                                        go_simp
                                        with_reducible rfl
                                      rotate_left
                                      · simp only [Act.put, List.setIfInBounds_toArray, List.set_cons_zero, List.set_cons_succ, i64_w, i32_w]
                                        rfl
                                      refine pure_ (i := 9) (N := some 37) (v := ?_) (a' := ?_) #[true, true, true, true, true, true, true, true, true, true, false, false, false, false, false, false] rfl rfl (any_of HT_.out (by kernel_rfl)) (fun _ _ _ h => h) (Or.inl ⟨by rfl, ?_⟩) ?_ ?_
                                      rotate_left
                                      · intro w'
                                        go_simp
                                        with_reducible rfl
                                      rotate_left
                                      · simp only [Act.put, List.setIfInBounds_toArray, List.set_cons_zero, List.set_cons_succ, i64_w, i32_w]
                                        rfl
                                      refine pure_ (i := 10) (N := some 38) (v := ?_) (a' := ?_) #[true, true, true, true, true, true, true, true, true, true, true, false, false, false, false, false] rfl rfl (any_of HT_.out (by kernel_rfl)) (fun _ _ _ h => h) (Or.inl ⟨by rfl, ?_⟩) ?_ ?_
                                      rotate_left
                                      · intro w'
                                        go_simp
                                        with_reducible rfl
                                      rotate_left
                                      · simp only [Act.put, List.setIfInBounds_toArray, List.set_cons_zero, List.set_cons_succ, i64_w, i32_w]
                                        rfl
                                      refine pure_ (i := 11) (N := some 39) (v := ?_) (a' := ?_) #[true, true, true, true, true, true, true, true, true, true, true, true, false, false, false, false] rfl rfl (any_of HT_.out (by kernel_rfl)) (fun _ _ _ h => h) (Or.inl ⟨by rfl, ?_⟩) ?_ ?_
                                      rotate_left
                                      · intro w'
                                        go_simp
                                        with_reducible rfl
                                      rotate_left
                                      · simp only [Act.put, List.setIfInBounds_toArray, List.set_cons_zero, List.set_cons_succ, i64_w, i32_w]
                                        rfl
                                      refine pure_ (i := 12) (N := some 40) (v := ?_) (a' := ?_) #[true, true, true, true, true, true, true, true, true, true, true, true, true, false, false, false] rfl rfl (any_of HT_.out (by kernel_rfl)) (fun _ _ _ h => h) (Or.inl ⟨by rfl, ?_⟩) ?_ ?_
                                      rotate_left
                                      · intro w'
                                        go_simp
                                        with_reducible rfl
                                      rotate_left
                                      · simp only [Act.put, List.setIfInBounds_toArray, List.set_cons_zero, List.set_cons_succ, i64_w, i32_w]
                                        rfl
                                      refine one_ (i := 13) (N := some 41) #[true, true, true, true, true, true, true, true, true, true, true, true, true, true, false, false] rfl rfl (one_of HT_.out (by kernel_rfl)) (by decide) (fun K hK => ?_)
                                      refine value_ (w1 := ?_) (v := ?_) (by rfl) rfl ?_ ?_
                                      rotate_left 2
                                      · go_simp
                                        constructor
                                        · rfl
                                        · rfl
                                      refine hK.out _ _ trivial (fun hHeld => ?_)
                                      clear hK K
                                      refine norm_ (a' := ?_) ?_ ?_
                                      rotate_left
                                      · show Act.put _ (some 41) _ = _
                                        simp only [Act.put, List.setIfInBounds_toArray, List.set_cons_zero, List.set_cons_succ, i64_w, i32_w]
                                        rfl
                                      refine one_ (i := 14) (N := some 42) #[true, true, true, true, true, true, true, true, true, true, true, true, true, true, true, false] rfl rfl (one_of HT_.out (by kernel_rfl)) (by decide) (fun K hK => ?_)
                                      refine Kd.R_append_step Kd.string (w0 := w) w.heap.size (by rfl) (.tmp 28) (.tmp 41) 26 9 (.string ⟨#[]⟩) 16 rfl Tryd.underlying26 info9 rfl (by decide) (by omega) u1 x1_2 (((⟨#[49]⟩ : ByteArray) ++ ((⟨#[98, 99, 100, 102, 103, 108, 109, 110, 112, 114, 115, 116, 118]⟩ : ByteArray).extract (x4_1 : Int).toNat ((wrap64 (x4_1 + 1)) : Int).toNat)) ++ ((⟨#[97, 101, 105, 111, 117]⟩ : ByteArray).extract (x5_2 : Int).toNat ((wrap64 (x5_2 + 1)) : Int).toNat)) [.string (((⟨#[49]⟩ : ByteArray) ++ ((⟨#[98, 99, 100, 102, 103, 108, 109, 110, 112, 114, 115, 116, 118]⟩ : ByteArray).extract (x4_1 : Int).toNat ((wrap64 (x4_1 + 1)) : Int).toNat)) ++ ((⟨#[97, 101, 105, 111, 117]⟩ : ByteArray).extract (x5_2 : Int).toNat ((wrap64 (x5_2 + 1)) : Int).toNat))] (fun _ => True) (fun _ => False) rfl rfl ?aP (fun _ hk => hk.elim) ?aF ?aO ?aB ?aS ?aL ?_
                                      (case aP => exact rfl)
                                      (case aB => exact (by repeat (first | (with_reducible first | exact HB.out | apply below_alloc | apply pw_below_drewN | apply below_drew1) | exact HB.out)))
                                      (case aF => exact (fun _ _ => trivial))
                                      (case aO => exact (by (with_reducible repeat (first | apply Kd.R_alloc | apply Kd.R_drewN | apply Kd.R_drew)); exact HO_1.out))
                                      (case aS => exact (below_size (by repeat (first | (with_reducible first | exact HB.out | apply below_alloc | apply pw_below_drewN | apply below_drew1) | exact HB.out))))
                                      (case aL => have := LMc18.out; omega)
                                      intro v401 w20 ho hb hg hat
                                      rw [← Ny400.out] at ho
                                      have n0_ := Aside0.mk (hb)
                                      have n1_ := Aside0.mk (ho)
                                      clear HB
                                      clear HO_1
                                      have HB := n0_
                                      have HO402 := n1_
                                      clear n0_ n1_
                                      clear ho hb hg hat
                                      refine hK.out _ _ trivial (fun hHeld => ?_)
                                      clear hK K
                                      refine norm_ (a' := ?_) ?_ ?_
                                      rotate_left
                                      · show Act.put _ (some 42) _ = _
                                        simp only [Act.put, List.setIfInBounds_toArray, List.set_cons_zero, List.set_cons_succ, i64_w, i32_w]
                                        rfl
                                      refine pure_ (i := 15) (N := some 1) (v := ?_) (a' := ?_) #[true, true, true, true, true, true, true, true, true, true, true, true, true, true, true, true] rfl rfl (any_of HT_.out (by kernel_rfl)) (fun _ _ _ h => h) (Or.inl ⟨by rfl, ?_⟩) ?_ ?_
                                      rotate_left
                                      · intro w'
                                        go_simp
                                        with_reducible rfl
                                      rotate_left
                                      · simp only [Act.put, List.setIfInBounds_toArray, List.set_cons_zero, List.set_cons_succ, i64_w, i32_w]
                                        rfl
                                      refine done_ (done_of HT_.out (by kernel_rfl)) ?_
                                      try go_wp2
                                      go_roundg k2
                                      case measure => have := HK1.out; have := HK2.out; omega
                                      case rel => exact ⟨(y400), (wrap64 (x5_2 + 1)), (by first | rfl | (simp; done) | (simp [*]; done)), H', ⟨by have := HK1.out; have := HK2.out; omega⟩, ⟨by (with_reducible repeat (first | apply Kd.R_alloc | apply Kd.R_drewN | apply Kd.R_drew)); exact HO402.out⟩, ⟨by repeat (first | (with_reducible first | exact HB.out | apply below_alloc | apply pw_below_drewN | apply below_drew1) | exact HB.out)⟩⟩
                                    · rw [if_neg c18] at H
                                      exact absurd H (by simp)
                                  · rw [if_neg c17] at H
                                    exact absurd H (by simp)
                                · rw [if_neg c16] at H
                                  exact absurd H (by simp)
                              · rw [if_neg c15] at H
                                exact absurd H (by simp)
                            · rw [if_neg c13] at H
                              exact absurd H (by simp)
                          · rw [if_neg c12] at H
                            exact absurd H (by simp)
                        · rw [if_neg c11] at H
                          exact absurd H (by simp)
                    · rw [if_neg c7] at H
                      exact absurd H (by simp)
                  · rw [if_neg c6] at H
                    have c6b0 : ((bt (⟨#[98, 99, 100, 102, 103, 108, 109, 110, 112, 114, 115, 116, 118]⟩ : ByteArray) x4_1) == 118) = false := beq_eq_false_iff_ne.mpr c6
                    have c6b1 : ((bt (⟨#[98, 99, 100, 102, 103, 108, 109, 110, 112, 114, 115, 116, 118]⟩ : ByteArray) x4_1) != 118) = true := bne_iff_ne.mpr c6
                    have c21b0 := eq_true (of_decide_eq_true (by first | (with_reducible assumption) | assumption) : 0 ≤ x4_1)
                    by_cases c22 : x4_1 ≤ (wrap64 (x4_1 + 1))
                    · rw [if_pos c22] at H
                      have c22b0 := eq_true c22
                      have c22b1 : decide (x4_1 ≤ (wrap64 (x4_1 + 1))) = true := decide_eq_true c22
                      by_cases c23 : (wrap64 (x4_1 + 1)) ≤ ((⟨#[98, 99, 100, 102, 103, 108, 109, 110, 112, 114, 115, 116, 118]⟩ : ByteArray).size : Int)
                      · rw [if_pos c23] at H
                        have c23b0 := eq_true c23
                        have c23z : ((wrap64 (x4_1 + 1)) ≤ (13 : Int)) = True := c23b0
                        have c23b1 : decide ((wrap64 (x4_1 + 1)) ≤ ((⟨#[98, 99, 100, 102, 103, 108, 109, 110, 112, 114, 115, 116, 118]⟩ : ByteArray).size : Int)) = true := decide_eq_true c23
                        by_cases c24 : 1 + ((⟨#[98, 99, 100, 102, 103, 108, 109, 110, 112, 114, 115, 116, 118]⟩ : ByteArray).extract (x4_1 : Int).toNat ((wrap64 (x4_1 + 1)) : Int).toNat).size ≤ 9223372036854775807
                        · rw [if_pos c24] at H
                          have c24b0 := eq_true c24
                          have c24b1 : decide (1 + ((⟨#[98, 99, 100, 102, 103, 108, 109, 110, 112, 114, 115, 116, 118]⟩ : ByteArray).extract (x4_1 : Int).toNat ((wrap64 (x4_1 + 1)) : Int).toNat).size ≤ 9223372036854775807) = true := decide_eq_true c24
                          try have c24b2 : (9223372036854775807 < 1 + ((⟨#[98, 99, 100, 102, 103, 108, 109, 110, 112, 114, 115, 116, 118]⟩ : ByteArray).extract (x4_1 : Int).toNat ((wrap64 (x4_1 + 1)) : Int).toNat).size) = False := eq_false (Nat.not_lt.2 c24)
                          (try have c24b3 : (9223372036854775807 < 1 + (((wrap64 (x4_1 + 1)) : Int).toNat - (x4_1 : Int).toNat)) = False := by have h_ := c24b2; (try simp only [ByteArray.size_append] at h_); rw [ext_size (b := (⟨#[98, 99, 100, 102, 103, 108, 109, 110, 112, 114, 115, 116, 118]⟩ : ByteArray)) (S := (x4_1 : Int).toNat) (X := ((wrap64 (x4_1 + 1)) : Int)) (by first | assumption | exact of_decide_eq_true (by assumption) | exact Int.le_of_lt (Int.not_le.1 (of_decide_eq_false (p := ((wrap64 (x4_1 + 1)) ≥ ((⟨#[98, 99, 100, 102, 103, 108, 109, 110, 112, 114, 115, 116, 118]⟩ : ByteArray).size : Int))) (by assumption))) | exact Int.le_of_lt (Int.not_le.1 (of_decide_eq_false (p := (((⟨#[98, 99, 100, 102, 103, 108, 109, 110, 112, 114, 115, 116, 118]⟩ : ByteArray).size : Int) ≤ (wrap64 (x4_1 + 1)))) (by assumption))))] at h_; first | exact h_ | (rw [Nat.add_assoc]; exact h_) | (rw [← Nat.add_assoc] at h_; exact h_))
                          by_cases c25 : 0 ≤ x5_2
                          · rw [if_pos c25] at H
                            have c25b0 := eq_true c25
                            have c25b1 : decide (0 ≤ x5_2) = true := decide_eq_true c25
                            clear c25
                            by_cases c26 : x5_2 ≤ (wrap64 (x5_2 + 1))
                            · rw [if_pos c26] at H
                              have c26b0 := eq_true c26
                              have c26b1 : decide (x5_2 ≤ (wrap64 (x5_2 + 1))) = true := decide_eq_true c26
                              by_cases c27 : (wrap64 (x5_2 + 1)) ≤ ((⟨#[97, 101, 105, 111, 117]⟩ : ByteArray).size : Int)
                              · rw [if_pos c27] at H
                                have c27b0 := eq_true c27
                                have c27z : ((wrap64 (x5_2 + 1)) ≤ (5 : Int)) = True := c27b0
                                have c27b1 : decide ((wrap64 (x5_2 + 1)) ≤ ((⟨#[97, 101, 105, 111, 117]⟩ : ByteArray).size : Int)) = true := decide_eq_true c27
                                by_cases c28 : ((⟨#[49]⟩ : ByteArray) ++ ((⟨#[98, 99, 100, 102, 103, 108, 109, 110, 112, 114, 115, 116, 118]⟩ : ByteArray).extract (x4_1 : Int).toNat ((wrap64 (x4_1 + 1)) : Int).toNat)).size + ((⟨#[97, 101, 105, 111, 117]⟩ : ByteArray).extract (x5_2 : Int).toNat ((wrap64 (x5_2 + 1)) : Int).toNat).size ≤ 9223372036854775807
                                · rw [if_pos c28] at H
                                  have c28b0 := eq_true c28
                                  have c28b1 : decide (((⟨#[49]⟩ : ByteArray) ++ ((⟨#[98, 99, 100, 102, 103, 108, 109, 110, 112, 114, 115, 116, 118]⟩ : ByteArray).extract (x4_1 : Int).toNat ((wrap64 (x4_1 + 1)) : Int).toNat)).size + ((⟨#[97, 101, 105, 111, 117]⟩ : ByteArray).extract (x5_2 : Int).toNat ((wrap64 (x5_2 + 1)) : Int).toNat).size ≤ 9223372036854775807) = true := decide_eq_true c28
                                  try have c28b2 : (9223372036854775807 < ((⟨#[49]⟩ : ByteArray) ++ ((⟨#[98, 99, 100, 102, 103, 108, 109, 110, 112, 114, 115, 116, 118]⟩ : ByteArray).extract (x4_1 : Int).toNat ((wrap64 (x4_1 + 1)) : Int).toNat)).size + ((⟨#[97, 101, 105, 111, 117]⟩ : ByteArray).extract (x5_2 : Int).toNat ((wrap64 (x5_2 + 1)) : Int).toNat).size) = False := eq_false (Nat.not_lt.2 c28)
                                  (try have c28b3 : (9223372036854775807 < 1 + (((wrap64 (x4_1 + 1)) : Int).toNat - (x4_1 : Int).toNat) + (((wrap64 (x5_2 + 1)) : Int).toNat - (x5_2 : Int).toNat)) = False := by have h_ := c28b2; (try simp only [ByteArray.size_append] at h_); rw [ext_size (b := (⟨#[98, 99, 100, 102, 103, 108, 109, 110, 112, 114, 115, 116, 118]⟩ : ByteArray)) (S := (x4_1 : Int).toNat) (X := ((wrap64 (x4_1 + 1)) : Int)) (by first | assumption | exact of_decide_eq_true (by assumption) | exact Int.le_of_lt (Int.not_le.1 (of_decide_eq_false (p := ((wrap64 (x4_1 + 1)) ≥ ((⟨#[98, 99, 100, 102, 103, 108, 109, 110, 112, 114, 115, 116, 118]⟩ : ByteArray).size : Int))) (by assumption))) | exact Int.le_of_lt (Int.not_le.1 (of_decide_eq_false (p := (((⟨#[98, 99, 100, 102, 103, 108, 109, 110, 112, 114, 115, 116, 118]⟩ : ByteArray).size : Int) ≤ (wrap64 (x4_1 + 1)))) (by assumption))))] at h_; rw [ext_size (b := (⟨#[97, 101, 105, 111, 117]⟩ : ByteArray)) (S := (x5_2 : Int).toNat) (X := ((wrap64 (x5_2 + 1)) : Int)) (by first | assumption | exact of_decide_eq_true (by assumption) | exact Int.le_of_lt (Int.not_le.1 (of_decide_eq_false (p := ((wrap64 (x5_2 + 1)) ≥ ((⟨#[97, 101, 105, 111, 117]⟩ : ByteArray).size : Int))) (by assumption))) | exact Int.le_of_lt (Int.not_le.1 (of_decide_eq_false (p := (((⟨#[97, 101, 105, 111, 117]⟩ : ByteArray).size : Int) ≤ (wrap64 (x5_2 + 1)))) (by assumption))))] at h_; first | exact h_ | (rw [Nat.add_assoc]; exact h_) | (rw [← Nat.add_assoc] at h_; exact h_))
                                  (try have c28b5 : (9223372036854775807 < (1 + (((wrap64 (x4_1 + 1)) : Int).toNat - (x4_1 : Int).toNat)) + (((wrap64 (x5_2 + 1)) : Int).toNat - (x5_2 : Int).toNat)) = False := by have h_ := c28b2; (try simp only [ByteArray.size_append] at h_); rw [ext_size (b := (⟨#[98, 99, 100, 102, 103, 108, 109, 110, 112, 114, 115, 116, 118]⟩ : ByteArray)) (S := (x4_1 : Int).toNat) (X := ((wrap64 (x4_1 + 1)) : Int)) (by first | assumption | exact of_decide_eq_true (by assumption) | exact Int.le_of_lt (Int.not_le.1 (of_decide_eq_false (p := ((wrap64 (x4_1 + 1)) ≥ ((⟨#[98, 99, 100, 102, 103, 108, 109, 110, 112, 114, 115, 116, 118]⟩ : ByteArray).size : Int))) (by assumption))) | exact Int.le_of_lt (Int.not_le.1 (of_decide_eq_false (p := (((⟨#[98, 99, 100, 102, 103, 108, 109, 110, 112, 114, 115, 116, 118]⟩ : ByteArray).size : Int) ≤ (wrap64 (x4_1 + 1)))) (by assumption))))] at h_; rw [ext_size (b := (⟨#[97, 101, 105, 111, 117]⟩ : ByteArray)) (S := (x5_2 : Int).toNat) (X := ((wrap64 (x5_2 + 1)) : Int)) (by first | assumption | exact of_decide_eq_true (by assumption) | exact Int.le_of_lt (Int.not_le.1 (of_decide_eq_false (p := ((wrap64 (x5_2 + 1)) ≥ ((⟨#[97, 101, 105, 111, 117]⟩ : ByteArray).size : Int))) (by assumption))) | exact Int.le_of_lt (Int.not_le.1 (of_decide_eq_false (p := (((⟨#[97, 101, 105, 111, 117]⟩ : ByteArray).size : Int) ≤ (wrap64 (x5_2 + 1)))) (by assumption))))] at h_; first | exact h_ | (rw [Nat.add_assoc]; exact h_) | (rw [← Nat.add_assoc] at h_; exact h_))
                                  by_cases c29 : x1_2.length < 8796093022208
                                  · rw [if_pos c29] at H
                                    have LMc29 := Aside0.mk c29
                                    clear c29
                                    obtain ⟨y403, hy403⟩ : ∃ y_ : List ByteArray, y_ = (x1_2 ++ [((⟨#[49]⟩ : ByteArray) ++ ((⟨#[98, 99, 100, 102, 103, 108, 109, 110, 112, 114, 115, 116, 118]⟩ : ByteArray).extract (x4_1 : Int).toNat ((wrap64 (x4_1 + 1)) : Int).toNat)) ++ ((⟨#[97, 101, 105, 111, 117]⟩ : ByteArray).extract (x5_2 : Int).toNat ((wrap64 (x5_2 + 1)) : Int).toNat)]) := ⟨_, rfl⟩
                                    replace H : (frisketref09_Standard.l1 k2 y403 (⟨#[98, 99, 100, 102, 103, 108, 109, 110, 112, 114, 115, 116, 118]⟩ : ByteArray) (⟨#[97, 101, 105, 111, 117]⟩ : ByteArray) x4_1 (wrap64 (x5_2 + 1))) = some r := by first | (rw [hy403]; with_reducible exact H) | (have H2_ := (Option.bind_some _ _).symm.trans H; rw [hy403]; with_reducible exact H2_) | (have H2_ := (Option.bind_some _ _).symm.trans H; with_reducible exact H2_) | with_reducible exact H | (rw [hy403]; exact H) | exact H
                                    have Ny403 := Aside0.mk hy403
                                    clear hy403
                                    have H' := Aside0.mk H
                                    clear H
                                    have p5 : 0 ≤ (x4_1 : Int) := of_decide_eq_true (by first | (with_reducible assumption) | assumption)
                                    have q5 : x4_1 < (13 : Int) := of_decide_eq_true (by first | (with_reducible assumption) | assumption)
                                    have hx5 := bt_at (⟨#[98, 99, 100, 102, 103, 108, 109, 110, 112, 114, 115, 116, 118]⟩ : ByteArray) x4_1
                                    replace p5 := eq_true p5
                                    replace q5 := eq_true q5
                                    try go_wp2
                                    have n0_ := Aside0.mk (Kd.R_drew HO_1.out)
                                    have n1_ := Aside0.mk (below_drew1 HB.out)
                                    clear HO_1
                                    clear HB
                                    have HO_1 := n0_
                                    have HB := n1_
                                    clear n0_ n1_
                                    refine start_ (n := 16) (S := fun w' => True) (ds := []) #[false, false, false, false, false, false, false, false, false, false, false, false, false, false, false, false] (by kernel_rfl) rfl rfl trivial (fun hHeld => ?_); refine with_tabW frisketref09_Standard.tab10 frisketref09_Standard.bits10 (fun HT_ HW_ => ?_)
                                    generalize wr.drew = w30 at HO_1 HB hHeld ⊢
                                    refine pure_ (i := 0) (N := some 28) (v := ?_) (a' := ?_) #[true, false, false, false, false, false, false, false, false, false, false, false, false, false, false, false] rfl rfl (any_of HT_.out (by kernel_rfl)) (fun _ _ _ h => h) (Or.inl ⟨by rfl, ?_⟩) ?_ ?_
                                    rotate_left
                                    · intro w'
                                      go_simp
                                      with_reducible rfl
                                    rotate_left
                                    · simp only [Act.put, List.setIfInBounds_toArray, List.set_cons_zero, List.set_cons_succ, i64_w, i32_w]
                                      rfl
                                    refine pure_ (i := 1) (N := some 29) (v := ?_) (a' := ?_) #[true, true, false, false, false, false, false, false, false, false, false, false, false, false, false, false] rfl rfl (any_of HT_.out (by kernel_rfl)) (fun _ _ _ h => h) (Or.inl ⟨by rfl, ?_⟩) ?_ ?_
                                    rotate_left
                                    · intro w'
                                      go_simp
                                      with_reducible rfl
                                    rotate_left
                                    · simp only [Act.put, List.setIfInBounds_toArray, List.set_cons_zero, List.set_cons_succ, i64_w, i32_w]
                                      rfl
                                    refine pure_ (i := 2) (N := some 30) (v := ?_) (a' := ?_) #[true, true, true, false, false, false, false, false, false, false, false, false, false, false, false, false] rfl rfl (any_of HT_.out (by kernel_rfl)) (fun _ _ _ h => h) (Or.inl ⟨by rfl, ?_⟩) ?_ ?_
                                    rotate_left
                                    · intro w'
                                      go_simp
                                      with_reducible rfl
                                    rotate_left
                                    · simp only [Act.put, List.setIfInBounds_toArray, List.set_cons_zero, List.set_cons_succ, i64_w, i32_w]
                                      rfl
                                    refine pure_ (i := 3) (N := some 31) (v := ?_) (a' := ?_) #[true, true, true, true, false, false, false, false, false, false, false, false, false, false, false, false] rfl rfl (any_of HT_.out (by kernel_rfl)) (fun _ _ _ h => h) (Or.inl ⟨by rfl, ?_⟩) ?_ ?_
                                    rotate_left
                                    · intro w'
                                      go_simp
                                      with_reducible rfl
                                    rotate_left
                                    · simp only [Act.put, List.setIfInBounds_toArray, List.set_cons_zero, List.set_cons_succ, i64_w, i32_w]
                                      rfl
                                    refine pure_ (i := 4) (N := some 32) (v := ?_) (a' := ?_) #[true, true, true, true, true, false, false, false, false, false, false, false, false, false, false, false] rfl rfl (any_of HT_.out (by kernel_rfl)) (fun _ _ _ h => h) (Or.inl ⟨by rfl, ?_⟩) ?_ ?_
                                    rotate_left
                                    · intro w'
                                      go_simp
                                      with_reducible rfl
                                    rotate_left
                                    · simp only [Act.put, List.setIfInBounds_toArray, List.set_cons_zero, List.set_cons_succ, i64_w, i32_w]
                                      rfl
                                    refine pure_ (i := 5) (N := some 33) (v := ?_) (a' := ?_) #[true, true, true, true, true, true, false, false, false, false, false, false, false, false, false, false] rfl rfl (any_of HT_.out (by kernel_rfl)) (fun _ _ _ h => h) (Or.inl ⟨by rfl, ?_⟩) ?_ ?_
                                    rotate_left
                                    · intro w'
                                      go_simp
                                      with_reducible rfl
                                    rotate_left
                                    · simp only [Act.put, List.setIfInBounds_toArray, List.set_cons_zero, List.set_cons_succ, i64_w, i32_w]
                                      rfl
                                    refine pure_ (i := 6) (N := some 34) (v := ?_) (a' := ?_) #[true, true, true, true, true, true, true, false, false, false, false, false, false, false, false, false] rfl rfl (any_of HT_.out (by kernel_rfl)) (fun _ _ _ h => h) (Or.inl ⟨by rfl, ?_⟩) ?_ ?_
                                    rotate_left
                                    · intro w'
                                      go_simp
                                      with_reducible rfl
                                    rotate_left
                                    · simp only [Act.put, List.setIfInBounds_toArray, List.set_cons_zero, List.set_cons_succ, i64_w, i32_w]
                                      rfl
                                    refine pure_ (i := 7) (N := some 35) (v := ?_) (a' := ?_) #[true, true, true, true, true, true, true, true, false, false, false, false, false, false, false, false] rfl rfl (any_of HT_.out (by kernel_rfl)) (fun _ _ _ h => h) (Or.inl ⟨by rfl, ?_⟩) ?_ ?_
                                    rotate_left
                                    · intro w'
                                      go_simp
                                      with_reducible rfl
                                    rotate_left
                                    · simp only [Act.put, List.setIfInBounds_toArray, List.set_cons_zero, List.set_cons_succ, i64_w, i32_w]
                                      rfl
                                    refine pure_ (i := 8) (N := some 36) (v := ?_) (a' := ?_) #[true, true, true, true, true, true, true, true, true, false, false, false, false, false, false, false] rfl rfl (any_of HT_.out (by kernel_rfl)) (fun _ _ _ h => h) (Or.inl ⟨by rfl, ?_⟩) ?_ ?_
                                    rotate_left
                                    · intro w'
                                      go_simp
                                      with_reducible rfl
                                    rotate_left
                                    · simp only [Act.put, List.setIfInBounds_toArray, List.set_cons_zero, List.set_cons_succ, i64_w, i32_w]
                                      rfl
                                    refine pure_ (i := 9) (N := some 37) (v := ?_) (a' := ?_) #[true, true, true, true, true, true, true, true, true, true, false, false, false, false, false, false] rfl rfl (any_of HT_.out (by kernel_rfl)) (fun _ _ _ h => h) (Or.inl ⟨by rfl, ?_⟩) ?_ ?_
                                    rotate_left
                                    · intro w'
                                      go_simp
                                      with_reducible rfl
                                    rotate_left
                                    · simp only [Act.put, List.setIfInBounds_toArray, List.set_cons_zero, List.set_cons_succ, i64_w, i32_w]
                                      rfl
                                    refine pure_ (i := 10) (N := some 38) (v := ?_) (a' := ?_) #[true, true, true, true, true, true, true, true, true, true, true, false, false, false, false, false] rfl rfl (any_of HT_.out (by kernel_rfl)) (fun _ _ _ h => h) (Or.inl ⟨by rfl, ?_⟩) ?_ ?_
                                    rotate_left
                                    · intro w'
                                      go_simp
                                      with_reducible rfl
                                    rotate_left
                                    · simp only [Act.put, List.setIfInBounds_toArray, List.set_cons_zero, List.set_cons_succ, i64_w, i32_w]
                                      rfl
                                    refine pure_ (i := 11) (N := some 39) (v := ?_) (a' := ?_) #[true, true, true, true, true, true, true, true, true, true, true, true, false, false, false, false] rfl rfl (any_of HT_.out (by kernel_rfl)) (fun _ _ _ h => h) (Or.inl ⟨by rfl, ?_⟩) ?_ ?_
                                    rotate_left
                                    · intro w'
                                      go_simp
                                      with_reducible rfl
                                    rotate_left
                                    · simp only [Act.put, List.setIfInBounds_toArray, List.set_cons_zero, List.set_cons_succ, i64_w, i32_w]
                                      rfl
                                    refine pure_ (i := 12) (N := some 40) (v := ?_) (a' := ?_) #[true, true, true, true, true, true, true, true, true, true, true, true, true, false, false, false] rfl rfl (any_of HT_.out (by kernel_rfl)) (fun _ _ _ h => h) (Or.inl ⟨by rfl, ?_⟩) ?_ ?_
                                    rotate_left
                                    · intro w'
                                      go_simp
                                      with_reducible rfl
                                    rotate_left
                                    · simp only [Act.put, List.setIfInBounds_toArray, List.set_cons_zero, List.set_cons_succ, i64_w, i32_w]
                                      rfl
                                    refine one_ (i := 13) (N := some 41) #[true, true, true, true, true, true, true, true, true, true, true, true, true, true, false, false] rfl rfl (one_of HT_.out (by kernel_rfl)) (by decide) (fun K hK => ?_)
                                    refine value_ (w1 := ?_) (v := ?_) (by rfl) rfl ?_ ?_
                                    rotate_left 2
                                    · go_simp
                                      constructor
                                      · rfl
                                      · rfl
                                    refine hK.out _ _ trivial (fun hHeld => ?_)
                                    clear hK K
                                    refine norm_ (a' := ?_) ?_ ?_
                                    rotate_left
                                    · show Act.put _ (some 41) _ = _
                                      simp only [Act.put, List.setIfInBounds_toArray, List.set_cons_zero, List.set_cons_succ, i64_w, i32_w]
                                      rfl
                                    refine one_ (i := 14) (N := some 42) #[true, true, true, true, true, true, true, true, true, true, true, true, true, true, true, false] rfl rfl (one_of HT_.out (by kernel_rfl)) (by decide) (fun K hK => ?_)
                                    refine Kd.R_append_step Kd.string (w0 := w) w.heap.size (by rfl) (.tmp 28) (.tmp 41) 26 9 (.string ⟨#[]⟩) 16 rfl Tryd.underlying26 info9 rfl (by decide) (by omega) u1 x1_2 (((⟨#[49]⟩ : ByteArray) ++ ((⟨#[98, 99, 100, 102, 103, 108, 109, 110, 112, 114, 115, 116, 118]⟩ : ByteArray).extract (x4_1 : Int).toNat ((wrap64 (x4_1 + 1)) : Int).toNat)) ++ ((⟨#[97, 101, 105, 111, 117]⟩ : ByteArray).extract (x5_2 : Int).toNat ((wrap64 (x5_2 + 1)) : Int).toNat)) [.string (((⟨#[49]⟩ : ByteArray) ++ ((⟨#[98, 99, 100, 102, 103, 108, 109, 110, 112, 114, 115, 116, 118]⟩ : ByteArray).extract (x4_1 : Int).toNat ((wrap64 (x4_1 + 1)) : Int).toNat)) ++ ((⟨#[97, 101, 105, 111, 117]⟩ : ByteArray).extract (x5_2 : Int).toNat ((wrap64 (x5_2 + 1)) : Int).toNat))] (fun _ => True) (fun _ => False) rfl rfl ?aP (fun _ hk => hk.elim) ?aF ?aO ?aB ?aS ?aL ?_
                                    (case aP => exact rfl)
                                    (case aB => exact (by repeat (first | (with_reducible first | exact HB.out | apply below_alloc | apply pw_below_drewN | apply below_drew1) | exact HB.out)))
                                    (case aF => exact (fun _ _ => trivial))
                                    (case aO => exact (by (with_reducible repeat (first | apply Kd.R_alloc | apply Kd.R_drewN | apply Kd.R_drew)); exact HO_1.out))
                                    (case aS => exact (below_size (by repeat (first | (with_reducible first | exact HB.out | apply below_alloc | apply pw_below_drewN | apply below_drew1) | exact HB.out))))
                                    (case aL => have := LMc29.out; omega)
                                    intro v404 w31 ho hb hg hat
                                    rw [← Ny403.out] at ho
                                    have n0_ := Aside0.mk (hb)
                                    have n1_ := Aside0.mk (ho)
                                    clear HB
                                    clear HO_1
                                    have HB := n0_
                                    have HO405 := n1_
                                    clear n0_ n1_
                                    clear ho hb hg hat
                                    refine hK.out _ _ trivial (fun hHeld => ?_)
                                    clear hK K
                                    refine norm_ (a' := ?_) ?_ ?_
                                    rotate_left
                                    · show Act.put _ (some 42) _ = _
                                      simp only [Act.put, List.setIfInBounds_toArray, List.set_cons_zero, List.set_cons_succ, i64_w, i32_w]
                                      rfl
                                    refine pure_ (i := 15) (N := some 1) (v := ?_) (a' := ?_) #[true, true, true, true, true, true, true, true, true, true, true, true, true, true, true, true] rfl rfl (any_of HT_.out (by kernel_rfl)) (fun _ _ _ h => h) (Or.inl ⟨by rfl, ?_⟩) ?_ ?_
                                    rotate_left
                                    · intro w'
                                      go_simp
                                      with_reducible rfl
                                    rotate_left
                                    · simp only [Act.put, List.setIfInBounds_toArray, List.set_cons_zero, List.set_cons_succ, i64_w, i32_w]
                                      rfl
                                    refine done_ (done_of HT_.out (by kernel_rfl)) ?_
                                    try go_wp2
                                    go_roundg k2
                                    case measure => have := HK1.out; have := HK2.out; omega
                                    case rel => exact ⟨(y403), (wrap64 (x5_2 + 1)), (by first | rfl | (simp; done) | (simp [*]; done)), H', ⟨by have := HK1.out; have := HK2.out; omega⟩, ⟨by (with_reducible repeat (first | apply Kd.R_alloc | apply Kd.R_drewN | apply Kd.R_drew)); exact HO405.out⟩, ⟨by repeat (first | (with_reducible first | exact HB.out | apply below_alloc | apply pw_below_drewN | apply below_drew1) | exact HB.out)⟩⟩
                                  · rw [if_neg c29] at H
                                    exact absurd H (by simp)
                                · rw [if_neg c28] at H
                                  exact absurd H (by simp)
                              · rw [if_neg c27] at H
                                exact absurd H (by simp)
                            · rw [if_neg c26] at H
                              exact absurd H (by simp)
                          · rw [if_neg c25] at H
                            exact absurd H (by simp)
                        · rw [if_neg c24] at H
                          exact absurd H (by simp)
                      · rw [if_neg c23] at H
                        exact absurd H (by simp)
                    · rw [if_neg c22] at H
                      exact absurd H (by simp)
                · rw [if_neg c4] at H
                  exact absurd H (by simp)
              · rw [if_neg c3] at H
                exact absurd H (by simp)
            · rw [if_neg c2] at H
              have c2b0 : decide (x5_2 < ((⟨#[97, 101, 105, 111, 117]⟩ : ByteArray).size : Int)) = false := decide_eq_false c2
              have c2b0z : decide (x5_2 < 5) = false := c2b0
              clear c2
              have H' := Aside0.mk H
              clear H
              go_wp2
              go_roundg k2
              case measure => have := HK1.out; have := HK2.out; omega
              case rel => exact ⟨(x1_2), (wrap64 (x4_1 + 1)), (by first | rfl | (simp; done) | (simp [*]; done)), H', ⟨by have := HK1.out; have := HK2.out; omega⟩, ⟨by (with_reducible repeat (first | apply Kd.R_alloc | apply Kd.R_drewN | apply Kd.R_drew)); exact HO_1.out⟩, ⟨by repeat (first | (with_reducible first | exact HB.out | apply below_alloc | apply pw_below_drewN | apply below_drew1) | exact HB.out)⟩⟩
      · rw [if_neg c1] at H
        have c1b0 : decide (x4_1 < ((⟨#[98, 99, 100, 102, 103, 108, 109, 110, 112, 114, 115, 116, 118]⟩ : ByteArray).size : Int)) = false := decide_eq_false c1
        have c1b0z : decide (x4_1 < 13) = false := c1b0
        clear c1
        obtain ⟨y394, hy394⟩ : ∃ y_ : List ByteArray, y_ = (([(⟨#[110, 49, 100]⟩ : ByteArray), (⟨#[110, 49, 116]⟩ : ByteArray), (⟨#[114, 49, 116]⟩ : ByteArray), (⟨#[108, 49, 116]⟩ : ByteArray), (⟨#[115, 49, 116, 50]⟩ : ByteArray), (⟨#[50, 101, 100, 46]⟩ : ByteArray), (⟨#[50, 101, 115, 46]⟩ : ByteArray), (⟨#[46, 117, 110, 49]⟩ : ByteArray), (⟨#[46, 114, 101, 49]⟩ : ByteArray), (⟨#[116, 50, 105, 111]⟩ : ByteArray), (⟨#[52, 108, 101, 46]⟩ : ByteArray), (⟨#[50, 103, 104, 116]⟩ : ByteArray), (⟨#[49, 116, 105, 111, 110]⟩ : ByteArray)] : List ByteArray)) := ⟨_, rfl⟩
        replace H : (if x1_1.length + y394.length < 8796093022208 then (some (x1_1 ++ y394)) else (none)) = some r := by first | (rw [hy394]; with_reducible exact H) | (have H2_ := (Option.bind_some _ _).symm.trans H; rw [hy394]; with_reducible exact H2_) | (have H2_ := (Option.bind_some _ _).symm.trans H; with_reducible exact H2_) | with_reducible exact H | (rw [hy394]; exact H) | exact H
        have Ny394 := Aside0.mk hy394
        clear hy394
        by_cases c32 : x1_1.length + y394.length < 8796093022208
        · rw [if_pos c32] at H
          have LMc32 := Aside0.mk c32
          clear c32
          obtain ⟨y397, hy397⟩ : ∃ y_ : List ByteArray, y_ = (x1_1 ++ y394) := ⟨_, rfl⟩
          replace H : (some y397) = some r := by first | (rw [hy397]; with_reducible exact H) | (have H2_ := (Option.bind_some _ _).symm.trans H; rw [hy397]; with_reducible exact H2_) | (have H2_ := (Option.bind_some _ _).symm.trans H; with_reducible exact H2_) | with_reducible exact H | (rw [hy397]; exact H) | exact H
          have Ny397 := Aside0.mk hy397
          clear hy397
          obtain rfl := Option.some.inj H
          go_wp2_with (first | ((with_reducible refine gate_dst (N := 44) rfl ?_); refine Kd.R_lit Kd.string _ 9 ?hg (N := 44) ?hd (xs := ([(⟨#[110, 49, 100]⟩ : ByteArray), (⟨#[110, 49, 116]⟩ : ByteArray), (⟨#[114, 49, 116]⟩ : ByteArray), (⟨#[108, 49, 116]⟩ : ByteArray), (⟨#[115, 49, 116, 50]⟩ : ByteArray), (⟨#[50, 101, 100, 46]⟩ : ByteArray), (⟨#[50, 101, 115, 46]⟩ : ByteArray), (⟨#[46, 117, 110, 49]⟩ : ByteArray), (⟨#[46, 114, 101, 49]⟩ : ByteArray), (⟨#[116, 50, 105, 111]⟩ : ByteArray), (⟨#[52, 108, 101, 46]⟩ : ByteArray), (⟨#[50, 103, 104, 116]⟩ : ByteArray), (⟨#[49, 116, 105, 111, 110]⟩ : ByteArray)] : List ByteArray)) (inner := [.string (⟨#[110, 49, 100]⟩ : ByteArray), .string (⟨#[110, 49, 116]⟩ : ByteArray), .string (⟨#[114, 49, 116]⟩ : ByteArray), .string (⟨#[108, 49, 116]⟩ : ByteArray), .string (⟨#[115, 49, 116, 50]⟩ : ByteArray), .string (⟨#[50, 101, 100, 46]⟩ : ByteArray), .string (⟨#[50, 101, 115, 46]⟩ : ByteArray), .string (⟨#[46, 117, 110, 49]⟩ : ByteArray), .string (⟨#[46, 114, 101, 49]⟩ : ByteArray), .string (⟨#[116, 50, 105, 111]⟩ : ByteArray), .string (⟨#[52, 108, 101, 46]⟩ : ByteArray), .string (⟨#[50, 103, 104, 116]⟩ : ByteArray), .string (⟨#[49, 116, 105, 111, 110]⟩ : ByteArray)]) (ok := fun _ => True) (okp := fun _ => True) ?hr ?hp (fun _ hk => hk) trivial (Below.refl _ _) (Nat.le_refl _) (by simp) ?_; (case hd => rfl); (case hg => rfl); (case hr => first | (go_simp; done) | (go_simp; rfl)); (case hp => exact (Reps.one (show Kd.M Kd.string _ _ _ (⟨#[110, 49, 100]⟩ : ByteArray) [.string (⟨#[110, 49, 100]⟩ : ByteArray)] from rfl) (Reps.one (show Kd.M Kd.string _ _ _ (⟨#[110, 49, 116]⟩ : ByteArray) [.string (⟨#[110, 49, 116]⟩ : ByteArray)] from rfl) (Reps.one (show Kd.M Kd.string _ _ _ (⟨#[114, 49, 116]⟩ : ByteArray) [.string (⟨#[114, 49, 116]⟩ : ByteArray)] from rfl) (Reps.one (show Kd.M Kd.string _ _ _ (⟨#[108, 49, 116]⟩ : ByteArray) [.string (⟨#[108, 49, 116]⟩ : ByteArray)] from rfl) (Reps.one (show Kd.M Kd.string _ _ _ (⟨#[115, 49, 116, 50]⟩ : ByteArray) [.string (⟨#[115, 49, 116, 50]⟩ : ByteArray)] from rfl) (Reps.one (show Kd.M Kd.string _ _ _ (⟨#[50, 101, 100, 46]⟩ : ByteArray) [.string (⟨#[50, 101, 100, 46]⟩ : ByteArray)] from rfl) (Reps.one (show Kd.M Kd.string _ _ _ (⟨#[50, 101, 115, 46]⟩ : ByteArray) [.string (⟨#[50, 101, 115, 46]⟩ : ByteArray)] from rfl) (Reps.one (show Kd.M Kd.string _ _ _ (⟨#[46, 117, 110, 49]⟩ : ByteArray) [.string (⟨#[46, 117, 110, 49]⟩ : ByteArray)] from rfl) (Reps.one (show Kd.M Kd.string _ _ _ (⟨#[46, 114, 101, 49]⟩ : ByteArray) [.string (⟨#[46, 114, 101, 49]⟩ : ByteArray)] from rfl) (Reps.one (show Kd.M Kd.string _ _ _ (⟨#[116, 50, 105, 111]⟩ : ByteArray) [.string (⟨#[116, 50, 105, 111]⟩ : ByteArray)] from rfl) (Reps.one (show Kd.M Kd.string _ _ _ (⟨#[52, 108, 101, 46]⟩ : ByteArray) [.string (⟨#[52, 108, 101, 46]⟩ : ByteArray)] from rfl) (Reps.one (show Kd.M Kd.string _ _ _ (⟨#[50, 103, 104, 116]⟩ : ByteArray) [.string (⟨#[50, 103, 104, 116]⟩ : ByteArray)] from rfl) (Reps.one (show Kd.M Kd.string _ _ _ (⟨#[49, 116, 105, 111, 110]⟩ : ByteArray) [.string (⟨#[49, 116, 105, 111, 110]⟩ : ByteArray)] from rfl) (Reps.none _ _))))))))))))))); intro v395 w33 ho34 hb hg_ hnew_; clear hg_ hnew_; (first | rw [← Ny394.out] at ho34 | (simp only [Int.reduceToNat] at ho34; rw [← Ny394.out] at ho34)); have n0_ := Aside0.mk (Kd.R_elder' (by (with_reducible repeat (first | apply Kd.R_alloc | apply Kd.R_drewN | apply Kd.R_drew)); exact HO_1.out) (Kd.R_base ho34) hb); have n1_ := Aside0.mk (Kd.R_lower (Kd.R_new' ho34 (Kd.R_lt (by (with_reducible repeat (first | apply Kd.R_alloc | apply Kd.R_drewN | apply Kd.R_drew)); exact HO_1.out))) (below_size (by repeat (first | (with_reducible first | exact HB.out | apply below_alloc | apply pw_below_drewN | apply below_drew1) | exact HB.out)))); have n2_ := Aside0.mk (below_step (by repeat (first | (with_reducible first | exact HB.out | apply below_alloc | apply pw_below_drewN | apply below_drew1) | exact HB.out)) hb); clear HO_1; clear HB; have HO_1 := n0_; have HO396 := n1_; have HB := n2_; clear n0_ n1_ n2_; clear hb ho34; obtain ⟨Ao36, co36, eo36⟩ := Kd.R_slice HO396.out; subst eo36) | ((with_reducible refine gate_builtin (b := .append) (xs := #[.tmp 43, .tmp 44]) rfl ?_); at_builtin; refine Kd.R_append_rows Kd.string (w0 := w) w.heap.size rfl (.tmp 43) (.tmp 44) 26 9 (.string ⟨#[]⟩) 16 rfl Tryd.underlying26 info9 rfl (by decide) (by omega) u1 x1_1 y394 _ _ _ (fun k_ => some k_ ≠ (.slice Ao36 y394.length co36 : Value).ownBlock) (fun _ => False) rfl rfl ?aO ?aR (fun _ _ h => h) (fun _ h => h.elim) ?aF ?aB ?aS ?aL ?_; (case aR => repeat (first | exact (Kd.R_reads' HO396.out).2.2 | (with_reducible refine Kd.C_alloc ?_ _) | (with_reducible refine Kd.C_drewN ?_ _) | (with_reducible refine Kd.C_drew ?_))); (case aB => exact (by repeat (first | (with_reducible first | exact HB.out | apply below_alloc | apply pw_below_drewN | apply below_drew1) | exact HB.out))); (case aF => exact (fun k_ hk => Kd.fresh' (Kd.R_lt (by (with_reducible repeat (first | apply Kd.R_alloc | apply Kd.R_drewN | apply Kd.R_drew)); exact HO396.out)) k_ hk)); (case aO => exact (by (with_reducible repeat (first | apply Kd.R_alloc | apply Kd.R_drewN | apply Kd.R_drew)); exact Kd.R_mono HO_1.out (fun _ hk => hk.2))); (case aS => exact (below_size (by repeat (first | (with_reducible first | exact HB.out | apply below_alloc | apply pw_below_drewN | apply below_drew1) | exact HB.out)))); (case aL => have := LMc32.out; omega); intro v398 w35 ho hb hg hat; rw [← Ny397.out] at ho; have n0_ := Aside0.mk (Kd.R_after (ok := (fun _ => True)) (by (with_reducible repeat (first | apply Kd.R_alloc | apply Kd.R_drewN | apply Kd.R_drew)); exact HO396.out) hg hat); have n1_ := Aside0.mk (hb); have n2_ := Aside0.mk (ho); clear HO396; clear HB; clear HO_1; have HO396 := n0_; have HB := n1_; have HO399 := n2_; clear n0_ n1_ n2_; clear ho hb hg hat))
          go_ret
          exact ⟨_, by first | rfl | (simp [errW_none, errW_some] <;> rfl) | (simp [*, errW_none, errW_some] <;> rfl), by (with_reducible repeat (first | apply Kd.R_alloc | apply Kd.R_drewN | apply Kd.R_drew)); exact Kd.R_mono HO399.out (fun _ hk => trivial), by repeat (first | (with_reducible first | exact HB.out | apply below_alloc | apply pw_below_drewN | apply below_drew1) | exact HB.out)⟩
        · rw [if_neg c32] at H
          exact absurd H (by simp)

/-! ### frisketlaw09_HyphenStandard: function 5 -/
def frisketlaw09_HyphenStandard.f (k : Nat) (l0 : List Int) (a1 : Int) (a2 : Int) : Option (Bool) := (hyphen_Standard.f).bind fun t406 => ((frisketref09_Standard.f k).bind fun t409 => ((frisketlaw09_texts.f k t406 t409).bind fun t412 => (if t412 = true then ((frisketlaw09_Word.f k l0).bind fun t413 => ((frisketlaw09_same.f k t413 t406 ([] : List ByteArray) (wrap64 (1 + (wrap64 (Int.tmod (IntKind.u64.wrap (a1)) 10)))) (wrap64 (1 + (wrap64 (Int.tmod (IntKind.u64.wrap (a2)) 10))))).bind fun t414 => (if t414 = true then ((frisketlaw09_sane.f k).bind fun t415 => (some t415)) else (none)))) else (none))))
theorem frisketlaw09_HyphenStandard.mono : ∀ a0 a1 a2 k, LeO (frisketlaw09_HyphenStandard.f k a0 a1 a2) (frisketlaw09_HyphenStandard.f (k + 1) a0 a1 a2) := by
  intro a0 a1 a2 k
  unfold frisketlaw09_HyphenStandard.f
  repeat' first
      | (with_reducible exact frisketlaw09_Word.mono _ _)
      | (with_reducible exact frisketlaw09_same.mono _ _ _ _ _ _)
      | (with_reducible exact frisketlaw09_sane.mono _)
      | (with_reducible exact frisketlaw09_texts.mono _ _ _)
      | (with_reducible exact frisketref09_Standard.mono _)
      | (with_reducible exact LeO.refl _)
      | (with_reducible exact LeO.none _)
      | (with_reducible refine LeO.ite ?_ ?_)
      | (with_reducible refine LeO.bind ?_ (fun _ => ?_))
      | exact frisketlaw09_Word.mono _ _
      | exact frisketlaw09_same.mono _ _ _ _ _ _
      | exact frisketlaw09_sane.mono _
      | exact frisketlaw09_texts.mono _ _ _
      | exact frisketref09_Standard.mono _
      | exact LeO.none _
      | refine LeO.ite ?_ ?_
      | refine LeO.bind ?_ (fun _ => ?_)
set_option maxHeartbeats 8000000 in
set_option maxRecDepth 100000 in
theorem frisketlaw09_HyphenStandard.calls (k : Nat) (A0 : Option Addr) (c0 : Nat) (l0 : List Int) (a1 : Int) (a2 : Int) (r : Bool) (w : World) (hT : Tab w) (hr0 : Kd.C (Kd.int .i64) w A0 l0.length l0) (hc0 : l0.length ≤ c0) (h : frisketlaw09_HyphenStandard.f k l0 a1 a2 = some r) :
    Calls Tryd.prog 5 #[.slice A0 l0.length c0, .int .i64 a1, .int .i64 a2] w fun e w' => e = .returned (.bool r) ∧ Below w.heap.size w w' := by
  have HR0 := Aside0.mk hr0
  have HC0 := Aside0.mk hc0
  clear hr0 hc0
  have HB := Aside0.mk (Below.refl w.heap.size w)
  have H : ((hyphen_Standard.f).bind fun t406 => ((frisketref09_Standard.f k).bind fun t409 => ((frisketlaw09_texts.f k t406 t409).bind fun t412 => (if t412 = true then ((frisketlaw09_Word.f k l0).bind fun t413 => ((frisketlaw09_same.f k t413 t406 ([] : List ByteArray) (wrap64 (1 + (wrap64 (Int.tmod (IntKind.u64.wrap (a1)) 10)))) (wrap64 (1 + (wrap64 (Int.tmod (IntKind.u64.wrap (a2)) 10))))).bind fun t414 => (if t414 = true then ((frisketlaw09_sane.f k).bind fun t415 => (some t415)) else (none)))) else (none))))) = some r := h
  clear h
  replace H := Option.bind_eq_some_iff.mp H
  obtain ⟨t406, A40, H⟩ := H
  replace H : ((frisketref09_Standard.f k).bind fun t409 => ((frisketlaw09_texts.f k t406 t409).bind fun t412 => (if t412 = true then ((frisketlaw09_Word.f k l0).bind fun t413 => ((frisketlaw09_same.f k t413 t406 ([] : List ByteArray) (wrap64 (1 + (wrap64 (Int.tmod (IntKind.u64.wrap (a1)) 10)))) (wrap64 (1 + (wrap64 (Int.tmod (IntKind.u64.wrap (a2)) 10))))).bind fun t414 => (if t414 = true then ((frisketlaw09_sane.f k).bind fun t415 => (some t415)) else (none)))) else (none)))) = some r := H
  have A4 := Aside0.mk A40
  clear A40
  replace H := Option.bind_eq_some_iff.mp H
  obtain ⟨t409, A50, H⟩ := H
  replace H : ((frisketlaw09_texts.f k t406 t409).bind fun t412 => (if t412 = true then ((frisketlaw09_Word.f k l0).bind fun t413 => ((frisketlaw09_same.f k t413 t406 ([] : List ByteArray) (wrap64 (1 + (wrap64 (Int.tmod (IntKind.u64.wrap (a1)) 10)))) (wrap64 (1 + (wrap64 (Int.tmod (IntKind.u64.wrap (a2)) 10))))).bind fun t414 => (if t414 = true then ((frisketlaw09_sane.f k).bind fun t415 => (some t415)) else (none)))) else (none))) = some r := H
  have A5 := Aside0.mk A50
  clear A50
  replace H := Option.bind_eq_some_iff.mp H
  obtain ⟨t412, A60, H⟩ := H
  replace H : (if t412 = true then ((frisketlaw09_Word.f k l0).bind fun t413 => ((frisketlaw09_same.f k t413 t406 ([] : List ByteArray) (wrap64 (1 + (wrap64 (Int.tmod (IntKind.u64.wrap (a1)) 10)))) (wrap64 (1 + (wrap64 (Int.tmod (IntKind.u64.wrap (a2)) 10))))).bind fun t414 => (if t414 = true then ((frisketlaw09_sane.f k).bind fun t415 => (some t415)) else (none)))) else (none)) = some r := H
  have A6 := Aside0.mk A60
  clear A60
  by_cases c7 : t412 = true
  · subst c7
    have H1 : ((frisketlaw09_Word.f k l0).bind fun t413 => ((frisketlaw09_same.f k t413 t406 ([] : List ByteArray) (wrap64 (1 + (wrap64 (Int.tmod (IntKind.u64.wrap (a1)) 10)))) (wrap64 (1 + (wrap64 (Int.tmod (IntKind.u64.wrap (a2)) 10))))).bind fun t414 => (if t414 = true then ((frisketlaw09_sane.f k).bind fun t415 => (some t415)) else (none)))) = some r := by rw [if_pos rfl] at H; exact H
    clear H
    have H := H1
    clear H1
    replace H := Option.bind_eq_some_iff.mp H
    obtain ⟨t413, A80, H⟩ := H
    replace H : ((frisketlaw09_same.f k t413 t406 ([] : List ByteArray) (wrap64 (1 + (wrap64 (Int.tmod (IntKind.u64.wrap (a1)) 10)))) (wrap64 (1 + (wrap64 (Int.tmod (IntKind.u64.wrap (a2)) 10))))).bind fun t414 => (if t414 = true then ((frisketlaw09_sane.f k).bind fun t415 => (some t415)) else (none))) = some r := H
    have A8 := Aside0.mk A80
    clear A80
    replace H := Option.bind_eq_some_iff.mp H
    obtain ⟨t414, A90, H⟩ := H
    replace H : (if t414 = true then ((frisketlaw09_sane.f k).bind fun t415 => (some t415)) else (none)) = some r := H
    have A9 := Aside0.mk A90
    clear A90
    by_cases c10 : t414 = true
    · subst c10
      have H1 : ((frisketlaw09_sane.f k).bind fun t415 => (some t415)) = some r := by rw [if_pos rfl] at H; exact H
      clear H
      have H := H1
      clear H1
      replace H := Option.bind_eq_some_iff.mp H
      obtain ⟨t415, A110, H⟩ := H
      replace H : (some t415) = some r := H
      have A11 := Aside0.mk A110
      clear A110
      obtain rfl := Option.some.inj H
      go_enter Tryd.func5, Tryd.ntmps5
      go_wp2_with (first | ((with_reducible refine gate_callee (f := 16) rfl ?_); refine goesL_ (some 8) rfl rfl Tryd.func16 (by kernel_rfl) rfl #[] rfl (by (try simp only [List.map_toArray, List.map_cons, List.map_nil]); first | done | rfl | (simp only [List.length_drop, List.length_take]; rfl)) ?_; (with_reducible refine (hyphen_Standard.calls  t406 _ (Tab.below hT (by repeat (first | (with_reducible first | exact HB.out | apply below_alloc | apply pw_below_drewN | apply below_drew1) | exact HB.out))) A4.out).mono ?_); rintro e w12 ⟨v407, rfl, ho0, hb⟩; refine ⟨_, rfl, ?_⟩; have n0_ := Aside0.mk (Kd.R_lower ho0 (below_size (by repeat (first | (with_reducible first | exact HB.out | apply below_alloc | apply pw_below_drewN | apply below_drew1) | exact HB.out)))); have n1_ := Aside0.mk (below_step (by repeat (first | (with_reducible first | exact HB.out | apply below_alloc | apply pw_below_drewN | apply below_drew1) | exact HB.out)) hb); clear HB; have HO408 := n0_; have HB := n1_; clear n0_ n1_; (try clear hb); (try clear hb2); (try clear hk); (try clear hi); (try clear ho0)) | ((with_reducible refine gate_callee (f := 18) rfl ?_); refine goesL_ (some 10) rfl rfl Tryd.func18 (by kernel_rfl) rfl #[] rfl (by (try simp only [List.map_toArray, List.map_cons, List.map_nil]); first | done | rfl | (simp only [List.length_drop, List.length_take]; rfl)) ?_; (with_reducible refine (frisketref09_Standard.calls k  t409 _ A5.out).mono ?_); rintro e w13 ⟨v410, rfl, ho0, hb⟩; refine ⟨_, rfl, ?_⟩; have n0_ := Aside0.mk (Kd.R_elder' (by (with_reducible repeat (first | apply Kd.R_alloc | apply Kd.R_drewN | apply Kd.R_drew)); exact HO408.out) (Kd.R_base ho0) hb); have n1_ := Aside0.mk (Kd.R_lower (Kd.R_new' ho0 (Kd.R_lt (by (with_reducible repeat (first | apply Kd.R_alloc | apply Kd.R_drewN | apply Kd.R_drew)); exact HO408.out))) (below_size (by repeat (first | (with_reducible first | exact HB.out | apply below_alloc | apply pw_below_drewN | apply below_drew1) | exact HB.out)))); have n2_ := Aside0.mk (below_step (by repeat (first | (with_reducible first | exact HB.out | apply below_alloc | apply pw_below_drewN | apply below_drew1) | exact HB.out)) hb); clear HO408; clear HB; have HO408 := n0_; have HO411 := n1_; have HB := n2_; clear n0_ n1_ n2_; (try clear hb); (try clear hb2); (try clear hk); (try clear hi); (try clear ho0); obtain ⟨Ao14, co14, eo14⟩ := Kd.R_slice HO408.out; subst eo14; obtain ⟨Ao15, co15, eo15⟩ := Kd.R_slice HO411.out; subst eo15) | ((with_reducible refine gate_callee (f := 17) rfl ?_); refine goesL_ (some 11) rfl rfl Tryd.func17 (by kernel_rfl) rfl #[.slice Ao14 t406.length co14, .slice Ao15 t409.length co15] rfl (by (try simp only [List.map_toArray, List.map_cons, List.map_nil]); first | done | rfl | (simp only [List.length_drop, List.length_take]; rfl)) ?_; (with_reducible refine (frisketlaw09_texts.calls k _ _ t406 _ _ t409 true _ ?side1 ?side2 ?side3 ?side4 A6.out).mono ?_); (case side1 => repeat (first | exact (Kd.R_reads' HO408.out).2.2 | (with_reducible refine Kd.C_alloc ?_ _) | (with_reducible refine Kd.C_drewN ?_ _) | (with_reducible refine Kd.C_drew ?_))); (case side2 => exact (Kd.R_reads' HO408.out).2.1); (case side3 => repeat (first | exact (Kd.R_reads' HO411.out).2.2 | (with_reducible refine Kd.C_alloc ?_ _) | (with_reducible refine Kd.C_drewN ?_ _) | (with_reducible refine Kd.C_drew ?_))); (case side4 => exact (Kd.R_reads' HO411.out).2.1); rintro e w' ⟨rfl, ⟨nd, rfl⟩⟩; refine ⟨_, rfl, ?_⟩) | (go_at_call 10; (with_reducible refine (frisketlaw09_Word.calls k _ _ l0 t413 _ ?side1 ?side2 A8.out).mono ?_); (case side1 => repeat (first | exact (Kd.C_below HR0.out (by repeat (first | (with_reducible first | exact HB.out | apply below_alloc | apply pw_below_drewN | apply below_drew1) | exact HB.out))) | (with_reducible refine Kd.C_alloc ?_ _) | (with_reducible refine Kd.C_drewN ?_ _) | (with_reducible refine Kd.C_drew ?_))); (case side2 => exact HC0.out); rintro e w' ⟨rfl, ⟨nd, rfl⟩⟩) | (go_at_call 15; (refine (frisketlaw09_same.calls k t413 _ _ t406 _ _ ([] : List ByteArray) (wrap64 (1 + (wrap64 (Int.tmod (IntKind.u64.wrap (a1)) 10)))) (wrap64 (1 + (wrap64 (Int.tmod (IntKind.u64.wrap (a2)) 10)))) true _ ?side1 ?side2 ?side3 ?side4 A9.out).mono ?_); (case side1 => repeat (first | exact (Kd.R_reads' HO408.out).2.2 | (with_reducible refine Kd.C_alloc ?_ _) | (with_reducible refine Kd.C_drewN ?_ _) | (with_reducible refine Kd.C_drew ?_))); (case side2 => exact (Kd.R_reads' HO408.out).2.1); (case side3 => exact Kd.C_nil _ _); (case side4 => exact Nat.le_refl _); rintro e w16 ⟨rfl, hb⟩; have n0_ := Aside0.mk (Kd.R_below (by (with_reducible repeat (first | apply Kd.R_alloc | apply Kd.R_drewN | apply Kd.R_drew)); exact HO408.out) hb); have n1_ := Aside0.mk (Kd.R_below (by (with_reducible repeat (first | apply Kd.R_alloc | apply Kd.R_drewN | apply Kd.R_drew)); exact HO411.out) hb); have n2_ := Aside0.mk (below_step (by repeat (first | (with_reducible first | exact HB.out | apply below_alloc | apply pw_below_drewN | apply below_drew1) | exact HB.out)) hb); clear HO408; clear HO411; clear HB; have HO408 := n0_; have HO411 := n1_; have HB := n2_; clear n0_ n1_ n2_; (try clear hb); (try clear hb2); (try clear hk); (try clear hi)) | (go_at_call 14; (with_reducible refine (frisketlaw09_sane.calls k  t415 _ (Tab.below hT (by repeat (first | (with_reducible first | exact HB.out | apply below_alloc | apply pw_below_drewN | apply below_drew1) | exact HB.out))) A11.out).mono ?_); rintro e w17 ⟨rfl, hb⟩; have n0_ := Aside0.mk (Kd.R_below (by (with_reducible repeat (first | apply Kd.R_alloc | apply Kd.R_drewN | apply Kd.R_drew)); exact HO408.out) hb); have n1_ := Aside0.mk (Kd.R_below (by (with_reducible repeat (first | apply Kd.R_alloc | apply Kd.R_drewN | apply Kd.R_drew)); exact HO411.out) hb); have n2_ := Aside0.mk (below_step (by repeat (first | (with_reducible first | exact HB.out | apply below_alloc | apply pw_below_drewN | apply below_drew1) | exact HB.out)) hb); clear HO408; clear HO411; clear HB; have HO408 := n0_; have HO411 := n1_; have HB := n2_; clear n0_ n1_ n2_; (try clear hb); (try clear hb2); (try clear hk); (try clear hi)))
      go_ret
      exact ⟨by first | rfl | (simp [errW_none, errW_some] <;> rfl) | (simp [*, errW_none, errW_some] <;> rfl), by repeat (first | (with_reducible first | exact HB.out | apply below_alloc | apply pw_below_drewN | apply below_drew1) | exact HB.out)⟩
    · replace c10 := Bool.eq_false_iff.mpr c10
      subst c10
      have H1 : (none) = some r := by rw [if_neg (show ¬ (false = true) by decide)] at H; exact H
      clear H
      have H := H1
      clear H1
      exact absurd H (by simp)
  · replace c7 := Bool.eq_false_iff.mpr c7
    subst c7
    have H1 : (none) = some r := by rw [if_neg (show ¬ (false = true) by decide)] at H; exact H
    clear H
    have H := H1
    clear H1
    exact absurd H (by simp)

/-- THE ONE PURE STATEMENT of frisketlaw09_HyphenStandard: yours. -/
def frisketlaw09_HyphenStandard.Pure : Prop := ∀ (l0 : List Int) (a1 : Int) (a2 : Int), l0.length ≤ maxLen → l0.length * 8 ≤ 140737488351232 → (∀ x ∈ l0, (Lit.int .i64 x).wf = true) → (Lit.int .i64 a1).wf = true → (Lit.int .i64 a2).wf = true → ∃ k, frisketlaw09_HyphenStandard.f k l0 a1 a2 = some true
theorem frisketlaw09_HyphenStandard.walk (P : frisketlaw09_HyphenStandard.Pure) (a0 : Option Addr) (len0 cap0 : Nat) (z0 : List Int) (a1 : Int) (a2 : Int) (w : World) (hT : Tab w) (w0 : (a0 = none ∧ len0 = 0 ∧ cap0 = 0 ∧ z0 = []) ∨ ∃ x, a0 = some x ∧ len0 ≤ cap0 ∧ cap0 ≤ maxLen ∧ z0.length = cap0 ∧ (∀ i, i < z0.length → w.cell? (x.add i) = some (.int .i64 (z0.getD i 0))) ∧ ∀ n ∈ z0, (Lit.int .i64 n).wf = true) (y0 : len0 * 8 ≤ 140737488351232) (w1 : (Lit.int .i64 a1).wf = true) (w2 : (Lit.int .i64 a2).wf = true) :
    Calls Tryd.prog 5 #[.slice a0 len0 cap0, .int .i64 a1, .int .i64 a2] w fun e w' => e = .returned (.bool true) ∧ Below w.heap.size w w' := by
  obtain ⟨l0, rfl, hr0, hm0, hw0, hc0⟩ := ReadsInt.ofRowC w0
  obtain ⟨k, h⟩ := P l0 a1 a2 hm0 y0 hw0 w1 w2
  refine (frisketlaw09_HyphenStandard.calls k _ _ l0 a1 a2 true w hT (Kd.C_of_reads (d := (0 : Int)) (h1 := fun _ => rfl) hr0) hc0 h).mono ?_
  rintro e w' ⟨rfl, hd⟩
  exact ⟨rfl, hd⟩

end Go.Proofs.YtegcelmjejhnfaaDoor.QHy
