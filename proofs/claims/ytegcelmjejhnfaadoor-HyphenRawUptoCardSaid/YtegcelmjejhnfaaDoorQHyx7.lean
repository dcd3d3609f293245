-- Written by a program of this session (myprint.py) out of the translation; Lean checks it.
import Derived.Test.YtegcelmjejhnfaaDoorQHyx0
import Derived.Test.YtegcelmjejhnfaaDoorQHyx1
import Derived.Test.YtegcelmjejhnfaaDoorQHyx2
import Derived.Test.YtegcelmjejhnfaaDoorQHyx3
import Derived.Test.YtegcelmjejhnfaaDoorQHyx4
import Derived.Test.YtegcelmjejhnfaaDoorQHyx5
import Derived.Test.YtegcelmjejhnfaaDoorQHyx6
import Derived.Test.YtegcelmjejhnfaaDoorFHyHy
import Derived.Test.YtegcelmjejhnfaaDoorArrEq
namespace Go.Proofs.YtegcelmjejhnfaaDoor.QHy
open Go.RowKit Go.Proofs.YtegcelmjejhnfaaDoorW.PrintWords Go.Proofs.YtegcelmjejhnfaaDoorW.PrintLast Go.Proofs.YtegcelmjejhnfaaDoorW.PrintMore
attribute [local go_sem] max2_int min2_int max_two min_two max_three min_three max_four min_four   -- for this text's walks alone
set_option linter.unusedVariables false
set_option linter.unusedSimpArgs false

/-! ### frisketlaw09_patterns: function 11 -/
mutual
def frisketlaw09_patterns.l0 : Nat → List Int → List ByteArray → Int → Option (List ByteArray)
  | 0, _, _, _ => none
  | k + 1, x0, x3, x4 => if x4 < (x0.length : Int) then (frisketlaw09_patterns.j1 k x0 x3 x4 (decide (x4 < 40))) else (frisketlaw09_patterns.j1 k x0 x3 x4 false)
def frisketlaw09_patterns.j1 : Nat → List Int → List ByteArray → Int → Bool → Option (List ByteArray)
  | 0, _, _, _, _ => none
  | k + 1, x0, x3, x4, x17 => if x17 = true then (if 0 ≤ x4 then (if x4 < (x0.length : Int) then (if (Int.tmod (IntKind.u64.wrap (rd x0 x4)) 11) = 0 then (frisketlaw09_patterns.j2 k x0 x3 x4 (IntKind.u64.wrap (rd x0 x4)) (⟨#[46]⟩ : ByteArray)) else (frisketlaw09_patterns.j2 k x0 x3 x4 (IntKind.u64.wrap (rd x0 x4)) (⟨#[]⟩ : ByteArray))) else (none)) else (none)) else (some x3)
def frisketlaw09_patterns.j2 : Nat → List Int → List ByteArray → Int → Int → ByteArray → Option (List ByteArray)
  | 0, _, _, _, _, _ => none
  | k + 1, x0, x3, x4, x5, x6 => frisketlaw09_patterns.l1 k x0 x3 x4 x5 x6 0
def frisketlaw09_patterns.l1 : Nat → List Int → List ByteArray → Int → Int → ByteArray → Int → Option (List ByteArray)
  | 0, _, _, _, _, _, _ => none
  | k + 1, x0, x3, x4, x5, x6, x7 => if x7 < (IntKind.u64.wrap (1 + (Int.tmod x5 4))) then (if (Int.tmod (IntKind.u64.wrap ((Int.tmod (IntKind.u64.wrap (Int.tdiv x5 3)) 7) * (IntKind.u64.wrap (x7 + 1)))) 10) > 0 then ((some (([(IntKind.u64.wrap (48 + (Int.tmod (IntKind.u64.wrap ((Int.tmod (IntKind.u64.wrap (Int.tdiv x5 3)) 7) * (IntKind.u64.wrap (x7 + 1)))) 10))) % 256] : List Int) : List Int)).bind fun y223 => (if x6.size + (strOfNums y223).size ≤ 9223372036854775807 then (if 0 ≤ (Int.tmod (IntKind.u64.wrap ((IntKind.u64.wrap (Int.tdiv x5 7)) + (IntKind.u64.wrap ((IntKind.u64.wrap (x7 * x7)) * 3)))) 12) then (if (Int.tmod (IntKind.u64.wrap ((IntKind.u64.wrap (Int.tdiv x5 7)) + (IntKind.u64.wrap ((IntKind.u64.wrap (x7 * x7)) * 3)))) 12) ≤ (IntKind.u64.wrap ((Int.tmod (IntKind.u64.wrap ((IntKind.u64.wrap (Int.tdiv x5 7)) + (IntKind.u64.wrap ((IntKind.u64.wrap (x7 * x7)) * 3)))) 12) + 1)) then (if (IntKind.u64.wrap ((Int.tmod (IntKind.u64.wrap ((IntKind.u64.wrap (Int.tdiv x5 7)) + (IntKind.u64.wrap ((IntKind.u64.wrap (x7 * x7)) * 3)))) 12) + 1)) ≤ 12 then (if (x6 ++ (strOfNums y223)).size + ((⟨#[97, 98, 100, 101, 105, 108, 110, 111, 114, 115, 116, 117]⟩ : ByteArray).extract ((Int.tmod (IntKind.u64.wrap ((IntKind.u64.wrap (Int.tdiv x5 7)) + (IntKind.u64.wrap ((IntKind.u64.wrap (x7 * x7)) * 3)))) 12) : Int).toNat ((IntKind.u64.wrap ((Int.tmod (IntKind.u64.wrap ((IntKind.u64.wrap (Int.tdiv x5 7)) + (IntKind.u64.wrap ((IntKind.u64.wrap (x7 * x7)) * 3)))) 12) + 1)) : Int).toNat).size ≤ 9223372036854775807 then (frisketlaw09_patterns.l1 k x0 x3 x4 x5 ((x6 ++ (strOfNums y223)) ++ ((⟨#[97, 98, 100, 101, 105, 108, 110, 111, 114, 115, 116, 117]⟩ : ByteArray).extract ((Int.tmod (IntKind.u64.wrap ((IntKind.u64.wrap (Int.tdiv x5 7)) + (IntKind.u64.wrap ((IntKind.u64.wrap (x7 * x7)) * 3)))) 12) : Int).toNat ((IntKind.u64.wrap ((Int.tmod (IntKind.u64.wrap ((IntKind.u64.wrap (Int.tdiv x5 7)) + (IntKind.u64.wrap ((IntKind.u64.wrap (x7 * x7)) * 3)))) 12) + 1)) : Int).toNat)) (IntKind.u64.wrap (x7 + 1))) else (none)) else (none)) else (none)) else (none)) else (none))) else (if 0 ≤ (Int.tmod (IntKind.u64.wrap ((IntKind.u64.wrap (Int.tdiv x5 7)) + (IntKind.u64.wrap ((IntKind.u64.wrap (x7 * x7)) * 3)))) 12) then (if (Int.tmod (IntKind.u64.wrap ((IntKind.u64.wrap (Int.tdiv x5 7)) + (IntKind.u64.wrap ((IntKind.u64.wrap (x7 * x7)) * 3)))) 12) ≤ (IntKind.u64.wrap ((Int.tmod (IntKind.u64.wrap ((IntKind.u64.wrap (Int.tdiv x5 7)) + (IntKind.u64.wrap ((IntKind.u64.wrap (x7 * x7)) * 3)))) 12) + 1)) then (if (IntKind.u64.wrap ((Int.tmod (IntKind.u64.wrap ((IntKind.u64.wrap (Int.tdiv x5 7)) + (IntKind.u64.wrap ((IntKind.u64.wrap (x7 * x7)) * 3)))) 12) + 1)) ≤ 12 then (if x6.size + ((⟨#[97, 98, 100, 101, 105, 108, 110, 111, 114, 115, 116, 117]⟩ : ByteArray).extract ((Int.tmod (IntKind.u64.wrap ((IntKind.u64.wrap (Int.tdiv x5 7)) + (IntKind.u64.wrap ((IntKind.u64.wrap (x7 * x7)) * 3)))) 12) : Int).toNat ((IntKind.u64.wrap ((Int.tmod (IntKind.u64.wrap ((IntKind.u64.wrap (Int.tdiv x5 7)) + (IntKind.u64.wrap ((IntKind.u64.wrap (x7 * x7)) * 3)))) 12) + 1)) : Int).toNat).size ≤ 9223372036854775807 then (frisketlaw09_patterns.l1 k x0 x3 x4 x5 (x6 ++ ((⟨#[97, 98, 100, 101, 105, 108, 110, 111, 114, 115, 116, 117]⟩ : ByteArray).extract ((Int.tmod (IntKind.u64.wrap ((IntKind.u64.wrap (Int.tdiv x5 7)) + (IntKind.u64.wrap ((IntKind.u64.wrap (x7 * x7)) * 3)))) 12) : Int).toNat ((IntKind.u64.wrap ((Int.tmod (IntKind.u64.wrap ((IntKind.u64.wrap (Int.tdiv x5 7)) + (IntKind.u64.wrap ((IntKind.u64.wrap (x7 * x7)) * 3)))) 12) + 1)) : Int).toNat)) (IntKind.u64.wrap (x7 + 1))) else (none)) else (none)) else (none)) else (none))) else (if (Int.tmod x5 13) = 0 then (if x6.size + 1 ≤ 9223372036854775807 then (if x3.length < 8796093022208 then (frisketlaw09_patterns.l0 k x0 (x3 ++ [x6 ++ (⟨#[46]⟩ : ByteArray)]) (wrap64 (x4 + 1))) else (none)) else (none)) else (if x3.length < 8796093022208 then (frisketlaw09_patterns.l0 k x0 (x3 ++ [x6]) (wrap64 (x4 + 1))) else (none)))
end
def frisketlaw09_patterns.f (k : Nat) (l0 : List Int) : Option (List ByteArray) := frisketlaw09_patterns.l0 k l0 ([] : List ByteArray) 0
theorem frisketlaw09_patterns.mono_l : ∀ k, (∀ y0 y1 y2, LeO (frisketlaw09_patterns.l0 k y0 y1 y2) (frisketlaw09_patterns.l0 (k + 1) y0 y1 y2)) ∧ (∀ y0 y1 y2 y3, LeO (frisketlaw09_patterns.j1 k y0 y1 y2 y3) (frisketlaw09_patterns.j1 (k + 1) y0 y1 y2 y3)) ∧ (∀ y0 y1 y2 y3 y4, LeO (frisketlaw09_patterns.j2 k y0 y1 y2 y3 y4) (frisketlaw09_patterns.j2 (k + 1) y0 y1 y2 y3 y4)) ∧ (∀ y0 y1 y2 y3 y4 y5, LeO (frisketlaw09_patterns.l1 k y0 y1 y2 y3 y4 y5) (frisketlaw09_patterns.l1 (k + 1) y0 y1 y2 y3 y4 y5))
  | 0 => ⟨fun _ _ _ r h => by simp [frisketlaw09_patterns.l0] at h, fun _ _ _ _ r h => by simp [frisketlaw09_patterns.j1] at h, fun _ _ _ _ _ r h => by simp [frisketlaw09_patterns.j2] at h, fun _ _ _ _ _ _ r h => by simp [frisketlaw09_patterns.l1] at h⟩
  | k + 1 => by
    obtain ⟨ih0, ih1, ih2, ih3⟩ := frisketlaw09_patterns.mono_l k
    refine ⟨?_, ?_, ?_, ?_⟩
    · intro y0 y1 y2
      unfold frisketlaw09_patterns.l0
      repeat' first
      | (with_reducible exact ih0 _ _ _)
      | (with_reducible exact ih1 _ _ _ _)
      | (with_reducible exact ih2 _ _ _ _ _)
      | (with_reducible exact ih3 _ _ _ _ _ _)
      | (with_reducible exact LeO.refl _)
      | (with_reducible exact LeO.none _)
      | (with_reducible refine LeO.ite ?_ ?_)
      | (with_reducible refine LeO.bind ?_ (fun _ => ?_))
      | exact ih0 _ _ _
      | exact ih1 _ _ _ _
      | exact ih2 _ _ _ _ _
      | exact ih3 _ _ _ _ _ _
      | exact LeO.none _
      | refine LeO.ite ?_ ?_
      | refine LeO.bind ?_ (fun _ => ?_)
    · intro y0 y1 y2 y3
      unfold frisketlaw09_patterns.j1
      repeat' first
      | (with_reducible exact ih0 _ _ _)
      | (with_reducible exact ih1 _ _ _ _)
      | (with_reducible exact ih2 _ _ _ _ _)
      | (with_reducible exact ih3 _ _ _ _ _ _)
      | (with_reducible exact LeO.refl _)
      | (with_reducible exact LeO.none _)
      | (with_reducible refine LeO.ite ?_ ?_)
      | (with_reducible refine LeO.bind ?_ (fun _ => ?_))
      | exact ih0 _ _ _
      | exact ih1 _ _ _ _
      | exact ih2 _ _ _ _ _
      | exact ih3 _ _ _ _ _ _
      | exact LeO.none _
      | refine LeO.ite ?_ ?_
      | refine LeO.bind ?_ (fun _ => ?_)
    · intro y0 y1 y2 y3 y4
      unfold frisketlaw09_patterns.j2
      repeat' first
      | (with_reducible exact ih0 _ _ _)
      | (with_reducible exact ih1 _ _ _ _)
      | (with_reducible exact ih2 _ _ _ _ _)
      | (with_reducible exact ih3 _ _ _ _ _ _)
      | (with_reducible exact LeO.refl _)
      | (with_reducible exact LeO.none _)
      | (with_reducible refine LeO.ite ?_ ?_)
      | (with_reducible refine LeO.bind ?_ (fun _ => ?_))
      | exact ih0 _ _ _
      | exact ih1 _ _ _ _
      | exact ih2 _ _ _ _ _
      | exact ih3 _ _ _ _ _ _
      | exact LeO.none _
      | refine LeO.ite ?_ ?_
      | refine LeO.bind ?_ (fun _ => ?_)
    · intro y0 y1 y2 y3 y4 y5
      unfold frisketlaw09_patterns.l1
      repeat' first
      | (with_reducible exact ih0 _ _ _)
      | (with_reducible exact ih1 _ _ _ _)
      | (with_reducible exact ih2 _ _ _ _ _)
      | (with_reducible exact ih3 _ _ _ _ _ _)
      | (with_reducible exact LeO.refl _)
      | (with_reducible exact LeO.none _)
      | (with_reducible refine LeO.ite ?_ ?_)
      | (with_reducible refine LeO.bind ?_ (fun _ => ?_))
      | exact ih0 _ _ _
      | exact ih1 _ _ _ _
      | exact ih2 _ _ _ _ _
      | exact ih3 _ _ _ _ _ _
      | exact LeO.none _
      | refine LeO.ite ?_ ?_
      | refine LeO.bind ?_ (fun _ => ?_)
theorem frisketlaw09_patterns.mono : ∀ a0 k, LeO (frisketlaw09_patterns.f k a0) (frisketlaw09_patterns.f (k + 1) a0) := by
  intro a0 k
  obtain ⟨ih0, ih1, ih2, ih3⟩ := frisketlaw09_patterns.mono_l k
  unfold frisketlaw09_patterns.f
  repeat' first
      | (with_reducible exact ih0 _ _ _)
      | (with_reducible exact ih1 _ _ _ _)
      | (with_reducible exact ih2 _ _ _ _ _)
      | (with_reducible exact ih3 _ _ _ _ _ _)
      | (with_reducible exact LeO.refl _)
      | (with_reducible exact LeO.none _)
      | (with_reducible refine LeO.ite ?_ ?_)
      | (with_reducible refine LeO.bind ?_ (fun _ => ?_))
      | exact ih0 _ _ _
      | exact ih1 _ _ _ _
      | exact ih2 _ _ _ _ _
      | exact ih3 _ _ _ _ _ _
      | exact LeO.none _
      | refine LeO.ite ?_ ?_
      | refine LeO.bind ?_ (fun _ => ?_)
set_option maxHeartbeats 8000000 in
set_option maxRecDepth 100000 in
theorem frisketlaw09_patterns.calls (k : Nat) (A0 : Option Addr) (c0 : Nat) (l0 : List Int) (r : List ByteArray) (w : World) (hr0 : Kd.C (Kd.int .i64) w A0 l0.length l0) (hc0 : l0.length ≤ c0) (h : frisketlaw09_patterns.f k l0 = some r) :
    Calls Tryd.prog 11 #[.slice A0 l0.length c0] w fun e w' => ∃ v0_ : Value, e = .returned (v0_) ∧ Kd.R Kd.string 9 w' w.heap.size (fun _ => True) v0_ r ∧ Below w.heap.size w w' := by
  have HR0 := Aside0.mk hr0
  have HC0 := Aside0.mk hc0
  clear hr0 hc0
  have HB := Aside0.mk (Below.refl w.heap.size w)
  have H : (frisketlaw09_patterns.l0 k l0 ([] : List ByteArray) 0) = some r := h
  clear h
  have H' := Aside0.mk H
  clear H
  go_enter Tryd.func11, Tryd.ntmps11
  go_wp2
  go_loopg [3, 4] k (fun kq v3 v4 w' => ∃ (x3_1 : List ByteArray) (x4_1 : Int), v4 = .int .i64 x4_1 ∧ Aside0 (frisketlaw09_patterns.l0 kq l0 x3_1 x4_1 = some r) ∧ Aside0 (kq ≤ k) ∧ Aside0 (Kd.R Kd.string 9 w' w.heap.size (fun _ => True) v3 x3_1) ∧ Aside0 (Below w.heap.size w w'))
  case atStart => exact ⟨(([] : List ByteArray)), (0), (by first | rfl | (simp; done) | (simp [*]; done)), H', ⟨Nat.le_refl _⟩, ⟨by first | exact Kd.R_nil _ _ _ _ _ | exact Kd.N_nil _ _ _ _ _ | exact Kd.V_nil _ _ _ _ _ | exact Kd.Q_nil _ _ _ _ _ | exact Kd.S_nil _ _ _ _ _⟩, ⟨by repeat (first | (with_reducible first | exact HB.out | apply below_alloc | apply pw_below_drewN | apply below_drew1) | exact HB.out)⟩⟩
  case round =>
    clear H'
    try clear c1
    obtain ⟨x3_1, x4_1, rfl, HA, HK1, HO_3, HB⟩ := hrel
    cases gk with
    | zero => exact absurd HA.out (by simp [frisketlaw09_patterns.l0])
    | succ k1 =>
      have H := HA.out
      clear HA
      simp only [frisketlaw09_patterns.l0] at H
      have HC2 := Aside0.mk H
      clear H
      go_upto_region 3 with (fail)
      go_cut [17] (fun v17 wc => ∃ (kq : Nat) (x17_1 : Bool), v17 = .bool x17_1 ∧ Aside0 (frisketlaw09_patterns.j1 kq l0 x3_1 x4_1 x17_1 = some r) ∧ Aside0 (kq ≤ k1) ∧ Aside0 (Kd.R Kd.string 9 wc w.heap.size (fun _ => True) u3 x3_1) ∧ Aside0 (Below w.heap.size w wc))
      case first =>
        have H := HC2.out
        clear HC2
        by_cases c3 : x4_1 < (l0.length : Int)
        · rw [if_pos c3] at H
          have c3b0 : decide (x4_1 < (l0.length : Int)) = true := decide_eq_true c3
          clear c3
          (first | rw [c3b0] | (simp only [i64_w, i32_w]; rw [c3b0]) | skip)
          have H' := Aside0.mk H
          clear H
          go_wp2
          go_meet
          case rel => exact ⟨_, (decide (x4_1 < 40)), (by first | rfl | (simp; done) | (simp [*]; done)), H', ⟨by have := HK1.out; first | omega | exact Nat.le_refl _⟩, ⟨by (with_reducible repeat (first | apply Kd.R_alloc | apply Kd.R_drewN | apply Kd.R_drew)); exact HO_3.out⟩, ⟨by repeat (first | (with_reducible first | exact HB.out | apply below_alloc | apply pw_below_drewN | apply below_drew1) | exact HB.out)⟩⟩
        · rw [if_neg c3] at H
          have c3b0 : decide (x4_1 < (l0.length : Int)) = false := decide_eq_false c3
          clear c3
          (first | rw [c3b0] | (simp only [i64_w, i32_w]; rw [c3b0]) | skip)
          have H' := Aside0.mk H
          clear H
          go_wp2
          go_meet
          case rel => exact ⟨_, (false), (by first | rfl | (simp; done) | (simp [*]; done)), H', ⟨by have := HK1.out; first | omega | exact Nat.le_refl _⟩, ⟨by (with_reducible repeat (first | apply Kd.R_alloc | apply Kd.R_drewN | apply Kd.R_drew)); exact HO_3.out⟩, ⟨by repeat (first | (with_reducible first | exact HB.out | apply below_alloc | apply pw_below_drewN | apply below_drew1) | exact HB.out)⟩⟩
      case rest =>
        clear HC2
        try clear c1
        try clear p2
        try clear c3
        try clear c3b0
        obtain ⟨kq, x17_1, rfl, HA, HJ1, HO_3, HB⟩ := hcut
        cases kq with
        | zero => exact absurd HA.out (by simp [frisketlaw09_patterns.j1])
        | succ kj1 =>
          have H := HA.out
          clear HA
          simp only [frisketlaw09_patterns.j1] at H
          by_cases c4 : x17_1 = true
          · subst c4
            have H1 : (if 0 ≤ x4_1 then (if x4_1 < (l0.length : Int) then (if (Int.tmod (IntKind.u64.wrap (rd l0 x4_1)) 11) = 0 then (frisketlaw09_patterns.j2 kj1 l0 x3_1 x4_1 (IntKind.u64.wrap (rd l0 x4_1)) (⟨#[46]⟩ : ByteArray)) else (frisketlaw09_patterns.j2 kj1 l0 x3_1 x4_1 (IntKind.u64.wrap (rd l0 x4_1)) (⟨#[]⟩ : ByteArray))) else (none)) else (none)) = some r := by rw [if_pos rfl] at H; exact H
            clear H
            have H := H1
            clear H1
            by_cases c5 : 0 ≤ x4_1
            · rw [if_pos c5] at H
              have c5b0 : decide (0 ≤ x4_1) = true := decide_eq_true c5
              clear c5
              by_cases c6 : x4_1 < (l0.length : Int)
              · rw [if_pos c6] at H
                have c6b0 : decide (x4_1 < (l0.length : Int)) = true := decide_eq_true c6
                clear c6
                have HC7 := Aside0.mk H
                clear H
                have p222 : 0 ≤ (x4_1 : Int) := of_decide_eq_true (by first | (with_reducible assumption) | assumption)
                have q222 : x4_1 < (l0.length : Int) := of_decide_eq_true (by first | (with_reducible assumption) | assumption)
                obtain ⟨ad222, e222, hx222_0⟩ := Kd.at_int HR0.out x4_1 p222 q222
                cases e222
                replace hx222_0 := (HB.out.cell (World.block_lt_of_cell? w _ hx222_0)).trans hx222_0
                replace p222 := eq_true p222
                replace q222 := eq_true q222
                go_upto_if 27 with (fail)
                go_cut [6] (fun v6 wc => ∃ (kq : Nat) (x6_6 : ByteArray), v6 = .string x6_6 ∧ Aside0 (frisketlaw09_patterns.j2 kq l0 x3_1 x4_1 (IntKind.u64.wrap (rd l0 x4_1)) x6_6 = some r) ∧ Aside0 (kq ≤ kj1) ∧ Aside0 (Kd.R Kd.string 9 wc w.heap.size (fun _ => True) u3 x3_1) ∧ Aside0 (Below w.heap.size w wc))
                case first =>
                  have H := HC7.out
                  clear HC7
                  by_cases c8 : (Int.tmod (IntKind.u64.wrap (rd l0 x4_1)) 11) = 0
                  · rw [if_pos c8] at H
                    have c8b0 : ((Int.tmod (IntKind.u64.wrap (rd l0 x4_1)) 11) == 0) = true := beq_iff_eq.mpr c8
                    have c8b1 : ((Int.tmod (IntKind.u64.wrap (rd l0 x4_1)) 11) != 0) = false := bne_eq_false_iff_eq.mpr c8
                    clear c8
                    (first | rw [c8b0] | (simp only [i64_w, i32_w]; rw [c8b0]) | skip)
                    have H' := Aside0.mk H
                    clear H
                    go_wp2
                    go_meet
                    case rel => exact ⟨_, ((⟨#[46]⟩ : ByteArray)), (by first | rfl | (simp; done) | (simp [*]; done)), H', ⟨by have := HK1.out; have := HJ1.out; first | omega | exact Nat.le_refl _⟩, ⟨by (with_reducible repeat (first | apply Kd.R_alloc | apply Kd.R_drewN | apply Kd.R_drew)); exact HO_3.out⟩, ⟨by repeat (first | (with_reducible first | exact HB.out | apply below_alloc | apply pw_below_drewN | apply below_drew1) | exact HB.out)⟩⟩
                  · rw [if_neg c8] at H
                    have c8b0 : ((Int.tmod (IntKind.u64.wrap (rd l0 x4_1)) 11) == 0) = false := beq_eq_false_iff_ne.mpr c8
                    have c8b1 : ((Int.tmod (IntKind.u64.wrap (rd l0 x4_1)) 11) != 0) = true := bne_iff_ne.mpr c8
                    (first | rw [c8b0] | (simp only [i64_w, i32_w]; rw [c8b0]) | skip)
                    have H' := Aside0.mk H
                    clear H
                    go_wp2
                    go_meet
                    case rel => exact ⟨_, ((⟨#[]⟩ : ByteArray)), (by first | rfl | (simp; done) | (simp [*]; done)), H', ⟨by have := HK1.out; have := HJ1.out; first | omega | exact Nat.le_refl _⟩, ⟨by (with_reducible repeat (first | apply Kd.R_alloc | apply Kd.R_drewN | apply Kd.R_drew)); exact HO_3.out⟩, ⟨by repeat (first | (with_reducible first | exact HB.out | apply below_alloc | apply pw_below_drewN | apply below_drew1) | exact HB.out)⟩⟩
                case rest =>
                  clear HC7
                  try clear c1
                  try clear p2
                  try clear q2
                  try clear hx2
                  try clear c3
                  try clear c3b0
                  try clear c4
                  try clear c5
                  try clear c5b0
                  try clear c6
                  try clear c6b0
                  try clear c8
                  try clear c8b0
                  try clear c8b1
                  try clear hx222_0
                  try clear p2
                  try clear p222
                  try clear q222
                  obtain ⟨kq, x6_6, rfl, HA, HJ6, HO_3, HB⟩ := hcut
                  cases kq with
                  | zero => exact absurd HA.out (by simp [frisketlaw09_patterns.j2])
                  | succ kj6 =>
                    have H := HA.out
                    clear HA
                    simp only [frisketlaw09_patterns.j2] at H
                    have H' := Aside0.mk H
                    clear H
                    go_wp2
                    go_loopg [6, 7] kj6 (fun kq v6 v7 w' => ∃ (x6_4 : ByteArray) (x7_4 : Int), v6 = .string x6_4 ∧ v7 = .int .u64 x7_4 ∧ Aside0 (frisketlaw09_patterns.l1 kq l0 x3_1 x4_1 (IntKind.u64.wrap (rd l0 x4_1)) x6_4 x7_4 = some r) ∧ Aside0 (kq ≤ kj6) ∧ Aside0 (Kd.R Kd.string 9 w' w.heap.size (fun _ => True) u3 x3_1) ∧ Aside0 (Below w.heap.size w w'))
                    case atStart => exact ⟨(x6_6), (0), (by first | rfl | (simp; done) | (simp [*]; done)), (by first | rfl | (simp; done) | (simp [*]; done)), H', ⟨Nat.le_refl _⟩, ⟨by (with_reducible repeat (first | apply Kd.R_alloc | apply Kd.R_drewN | apply Kd.R_drew)); exact HO_3.out⟩, ⟨by repeat (first | (with_reducible first | exact HB.out | apply below_alloc | apply pw_below_drewN | apply below_drew1) | exact HB.out)⟩⟩
                    case round =>
                      clear H'
                      try clear c1
                      try clear p2
                      try clear q2
                      try clear hx2
                      try clear c3
                      try clear c3b0
                      try clear c4
                      try clear c5
                      try clear c5b0
                      try clear c6
                      try clear c6b0
                      try clear c8
                      try clear c8b0
                      try clear c8b1
                      try clear hx222_0
                      try clear p2
                      try clear p222
                      try clear q2
                      try clear q222
                      obtain ⟨x6_4, x7_4, rfl, rfl, HA, HK4, HO_3, HB⟩ := hrel
                      cases gk with
                      | zero => exact absurd HA.out (by simp [frisketlaw09_patterns.l1])
                      | succ k4 =>
                        have H := HA.out
                        clear HA
                        simp only [frisketlaw09_patterns.l1] at H
                        by_cases c9 : x7_4 < (IntKind.u64.wrap (1 + (Int.tmod (IntKind.u64.wrap (rd l0 x4_1)) 4)))
                        · rw [if_pos c9] at H
                          have c9b0 : decide (x7_4 < (IntKind.u64.wrap (1 + (Int.tmod (IntKind.u64.wrap (rd l0 x4_1)) 4)))) = true := decide_eq_true c9
                          clear c9
                          by_cases c10 : (Int.tmod (IntKind.u64.wrap ((Int.tmod (IntKind.u64.wrap (Int.tdiv (IntKind.u64.wrap (rd l0 x4_1)) 3)) 7) * (IntKind.u64.wrap (x7_4 + 1)))) 10) > 0
                          · rw [if_pos c10] at H
                            have c10b0 : decide (0 < (Int.tmod (IntKind.u64.wrap ((Int.tmod (IntKind.u64.wrap (Int.tdiv (IntKind.u64.wrap (rd l0 x4_1)) 3)) 7) * (IntKind.u64.wrap (x7_4 + 1)))) 10)) = true := decide_eq_true c10
                            clear c10
                            obtain ⟨y223, hy223⟩ : ∃ y_ : List Int, y_ = (([(IntKind.u64.wrap (48 + (Int.tmod (IntKind.u64.wrap ((Int.tmod (IntKind.u64.wrap (Int.tdiv (IntKind.u64.wrap (rd l0 x4_1)) 3)) 7) * (IntKind.u64.wrap (x7_4 + 1)))) 10))) % 256] : List Int)) := ⟨_, rfl⟩
                            replace H : (if x6_4.size + (strOfNums y223).size ≤ 9223372036854775807 then (if 0 ≤ (Int.tmod (IntKind.u64.wrap ((IntKind.u64.wrap (Int.tdiv (IntKind.u64.wrap (rd l0 x4_1)) 7)) + (IntKind.u64.wrap ((IntKind.u64.wrap (x7_4 * x7_4)) * 3)))) 12) then (if (Int.tmod (IntKind.u64.wrap ((IntKind.u64.wrap (Int.tdiv (IntKind.u64.wrap (rd l0 x4_1)) 7)) + (IntKind.u64.wrap ((IntKind.u64.wrap (x7_4 * x7_4)) * 3)))) 12) ≤ (IntKind.u64.wrap ((Int.tmod (IntKind.u64.wrap ((IntKind.u64.wrap (Int.tdiv (IntKind.u64.wrap (rd l0 x4_1)) 7)) + (IntKind.u64.wrap ((IntKind.u64.wrap (x7_4 * x7_4)) * 3)))) 12) + 1)) then (if (IntKind.u64.wrap ((Int.tmod (IntKind.u64.wrap ((IntKind.u64.wrap (Int.tdiv (IntKind.u64.wrap (rd l0 x4_1)) 7)) + (IntKind.u64.wrap ((IntKind.u64.wrap (x7_4 * x7_4)) * 3)))) 12) + 1)) ≤ 12 then (if (x6_4 ++ (strOfNums y223)).size + ((⟨#[97, 98, 100, 101, 105, 108, 110, 111, 114, 115, 116, 117]⟩ : ByteArray).extract ((Int.tmod (IntKind.u64.wrap ((IntKind.u64.wrap (Int.tdiv (IntKind.u64.wrap (rd l0 x4_1)) 7)) + (IntKind.u64.wrap ((IntKind.u64.wrap (x7_4 * x7_4)) * 3)))) 12) : Int).toNat ((IntKind.u64.wrap ((Int.tmod (IntKind.u64.wrap ((IntKind.u64.wrap (Int.tdiv (IntKind.u64.wrap (rd l0 x4_1)) 7)) + (IntKind.u64.wrap ((IntKind.u64.wrap (x7_4 * x7_4)) * 3)))) 12) + 1)) : Int).toNat).size ≤ 9223372036854775807 then (frisketlaw09_patterns.l1 k4 l0 x3_1 x4_1 (IntKind.u64.wrap (rd l0 x4_1)) ((x6_4 ++ (strOfNums y223)) ++ ((⟨#[97, 98, 100, 101, 105, 108, 110, 111, 114, 115, 116, 117]⟩ : ByteArray).extract ((Int.tmod (IntKind.u64.wrap ((IntKind.u64.wrap (Int.tdiv (IntKind.u64.wrap (rd l0 x4_1)) 7)) + (IntKind.u64.wrap ((IntKind.u64.wrap (x7_4 * x7_4)) * 3)))) 12) : Int).toNat ((IntKind.u64.wrap ((Int.tmod (IntKind.u64.wrap ((IntKind.u64.wrap (Int.tdiv (IntKind.u64.wrap (rd l0 x4_1)) 7)) + (IntKind.u64.wrap ((IntKind.u64.wrap (x7_4 * x7_4)) * 3)))) 12) + 1)) : Int).toNat)) (IntKind.u64.wrap (x7_4 + 1))) else (none)) else (none)) else (none)) else (none)) else (none)) = some r := by first | (rw [hy223]; with_reducible exact H) | (have H2_ := (Option.bind_some _ _).symm.trans H; rw [hy223]; with_reducible exact H2_) | (have H2_ := (Option.bind_some _ _).symm.trans H; with_reducible exact H2_) | with_reducible exact H | (rw [hy223]; exact H) | exact H
                            have Ny223 := Aside0.mk hy223
                            clear hy223
                            by_cases c11 : x6_4.size + (strOfNums y223).size ≤ 9223372036854775807
                            · rw [if_pos c11] at H
                              have c11b0 := eq_true c11
                              have c11b1 : decide (x6_4.size + (strOfNums y223).size ≤ 9223372036854775807) = true := decide_eq_true c11
                              try have c11b2 : (9223372036854775807 < x6_4.size + (strOfNums y223).size) = False := eq_false (Nat.not_lt.2 c11)
                              obtain ⟨ji12, hji12⟩ : ∃ j_ : Int, (Int.tmod (IntKind.u64.wrap ((IntKind.u64.wrap (Int.tdiv (IntKind.u64.wrap (rd l0 x4_1)) 7)) + (IntKind.u64.wrap ((IntKind.u64.wrap (x7_4 * x7_4)) * 3)))) 12) = j_ := ⟨_, rfl⟩
                              replace H : (if 0 ≤ (ji12) then (if (ji12) ≤ (IntKind.u64.wrap ((ji12) + 1)) then (if (IntKind.u64.wrap ((ji12) + 1)) ≤ 12 then (if (x6_4 ++ (strOfNums y223)).size + ((⟨#[97, 98, 100, 101, 105, 108, 110, 111, 114, 115, 116, 117]⟩ : ByteArray).extract ((ji12) : Int).toNat ((IntKind.u64.wrap ((ji12) + 1)) : Int).toNat).size ≤ 9223372036854775807 then (frisketlaw09_patterns.l1 k4 l0 x3_1 x4_1 (IntKind.u64.wrap (rd l0 x4_1)) ((x6_4 ++ (strOfNums y223)) ++ ((⟨#[97, 98, 100, 101, 105, 108, 110, 111, 114, 115, 116, 117]⟩ : ByteArray).extract ((ji12) : Int).toNat ((IntKind.u64.wrap ((ji12) + 1)) : Int).toNat)) (IntKind.u64.wrap (x7_4 + 1))) else (none)) else (none)) else (none)) else (none)) = some r := by first | (rw [hji12] at H; exact H) | (simp only [hji12] at H ⊢; exact H)
                              by_cases c13 : 0 ≤ (ji12)
                              · rw [if_pos c13] at H
                                have c13b0 := eq_true c13
                                have c13b1 : decide (0 ≤ (ji12)) = true := decide_eq_true c13
                                clear c13
                                by_cases c14 : (ji12) ≤ (IntKind.u64.wrap ((ji12) + 1))
                                · rw [if_pos c14] at H
                                  have c14b0 := eq_true c14
                                  have c14b1 : decide ((ji12) ≤ (IntKind.u64.wrap ((ji12) + 1))) = true := decide_eq_true c14
                                  by_cases c15 : (IntKind.u64.wrap ((ji12) + 1)) ≤ 12
                                  · rw [if_pos c15] at H
                                    have c15b0 := eq_true c15
                                    have c15b1 : decide ((IntKind.u64.wrap ((ji12) + 1)) ≤ 12) = true := decide_eq_true c15
                                    by_cases c16 : (x6_4 ++ (strOfNums y223)).size + ((⟨#[97, 98, 100, 101, 105, 108, 110, 111, 114, 115, 116, 117]⟩ : ByteArray).extract ((ji12) : Int).toNat ((IntKind.u64.wrap ((ji12) + 1)) : Int).toNat).size ≤ 9223372036854775807
                                    · rw [if_pos c16] at H
                                      have c16b0 := eq_true c16
                                      have c16b1 : decide ((x6_4 ++ (strOfNums y223)).size + ((⟨#[97, 98, 100, 101, 105, 108, 110, 111, 114, 115, 116, 117]⟩ : ByteArray).extract ((ji12) : Int).toNat ((IntKind.u64.wrap ((ji12) + 1)) : Int).toNat).size ≤ 9223372036854775807) = true := decide_eq_true c16
                                      try have c16b2 : (9223372036854775807 < (x6_4 ++ (strOfNums y223)).size + ((⟨#[97, 98, 100, 101, 105, 108, 110, 111, 114, 115, 116, 117]⟩ : ByteArray).extract ((ji12) : Int).toNat ((IntKind.u64.wrap ((ji12) + 1)) : Int).toNat).size) = False := eq_false (Nat.not_lt.2 c16)
                                      (try have c16b3 : (9223372036854775807 < x6_4.size + (strOfNums y223).size + (((IntKind.u64.wrap ((ji12) + 1)) : Int).toNat - ((ji12) : Int).toNat)) = False := by have h_ := c16b2; (try simp only [ByteArray.size_append] at h_); rw [ext_size (b := (⟨#[97, 98, 100, 101, 105, 108, 110, 111, 114, 115, 116, 117]⟩ : ByteArray)) (S := ((ji12) : Int).toNat) (X := ((IntKind.u64.wrap ((ji12) + 1)) : Int)) (by first | assumption | exact of_decide_eq_true (by assumption) | exact Int.le_of_lt (Int.not_le.1 (of_decide_eq_false (p := ((IntKind.u64.wrap ((ji12) + 1)) ≥ ((⟨#[97, 98, 100, 101, 105, 108, 110, 111, 114, 115, 116, 117]⟩ : ByteArray).size : Int))) (by assumption))) | exact Int.le_of_lt (Int.not_le.1 (of_decide_eq_false (p := (((⟨#[97, 98, 100, 101, 105, 108, 110, 111, 114, 115, 116, 117]⟩ : ByteArray).size : Int) ≤ (IntKind.u64.wrap ((ji12) + 1)))) (by assumption))))] at h_; first | exact h_ | (rw [Nat.add_assoc]; exact h_) | (rw [← Nat.add_assoc] at h_; exact h_))
                                      (try have c16b5 : (9223372036854775807 < (x6_4.size + (strOfNums y223).size) + (((IntKind.u64.wrap ((ji12) + 1)) : Int).toNat - ((ji12) : Int).toNat)) = False := by have h_ := c16b2; (try simp only [ByteArray.size_append] at h_); rw [ext_size (b := (⟨#[97, 98, 100, 101, 105, 108, 110, 111, 114, 115, 116, 117]⟩ : ByteArray)) (S := ((ji12) : Int).toNat) (X := ((IntKind.u64.wrap ((ji12) + 1)) : Int)) (by first | assumption | exact of_decide_eq_true (by assumption) | exact Int.le_of_lt (Int.not_le.1 (of_decide_eq_false (p := ((IntKind.u64.wrap ((ji12) + 1)) ≥ ((⟨#[97, 98, 100, 101, 105, 108, 110, 111, 114, 115, 116, 117]⟩ : ByteArray).size : Int))) (by assumption))) | exact Int.le_of_lt (Int.not_le.1 (of_decide_eq_false (p := (((⟨#[97, 98, 100, 101, 105, 108, 110, 111, 114, 115, 116, 117]⟩ : ByteArray).size : Int) ≤ (IntKind.u64.wrap ((ji12) + 1)))) (by assumption))))] at h_; first | exact h_ | (rw [Nat.add_assoc]; exact h_) | (rw [← Nat.add_assoc] at h_; exact h_))
                                      have H' := Aside0.mk H
                                      clear H
                                      go_wp2_with (first | ((with_reducible refine gate_dst (N := 48) rfl ?_); refine Kd.R_lit (Kd.int .u8) _ 5 ?hg (N := 48) ?hd (xs := ([(IntKind.u64.wrap (48 + (Int.tmod (IntKind.u64.wrap ((Int.tmod (IntKind.u64.wrap (Int.tdiv (IntKind.u64.wrap (rd l0 x4_1)) 3)) 7) * (IntKind.u64.wrap (x7_4 + 1)))) 10))) % 256] : List Int)) (inner := [.int .u8 ((IntKind.u64.wrap (48 + (Int.tmod (IntKind.u64.wrap ((Int.tmod (IntKind.u64.wrap (Int.tdiv (IntKind.u64.wrap (rd l0 x4_1)) 3)) 7) * (IntKind.u64.wrap (x7_4 + 1)))) 10))) % 256)]) (ok := fun _ => True) (okp := fun _ => True) ?hr ?hp (fun _ hk => hk) trivial (Below.refl _ _) (Nat.le_refl _) (by simp) ?_; (case hd => rfl); (case hg => rfl); (case hr => first | (go_simp; done) | (go_simp; rfl)); (case hp => exact (Reps.one (show Kd.M (Kd.int .u8) _ _ _ ((IntKind.u64.wrap (48 + (Int.tmod (IntKind.u64.wrap ((Int.tmod (IntKind.u64.wrap (Int.tdiv (IntKind.u64.wrap (rd l0 x4_1)) 3)) 7) * (IntKind.u64.wrap (x7_4 + 1)))) 10))) % 256) [.int .u8 ((IntKind.u64.wrap (48 + (Int.tmod (IntKind.u64.wrap ((Int.tmod (IntKind.u64.wrap (Int.tdiv (IntKind.u64.wrap (rd l0 x4_1)) 3)) 7) * (IntKind.u64.wrap (x7_4 + 1)))) 10))) % 256)] from rfl) (Reps.none _ _))); intro v224 w17 ho18 hb hg_ hnew_; clear hg_ hnew_; (first | rw [← Ny223.out] at ho18 | (simp only [Int.reduceToNat] at ho18; rw [← Ny223.out] at ho18)); have n0_ := Aside0.mk (Kd.R_below (by (with_reducible repeat (first | apply Kd.R_alloc | apply Kd.R_drewN | apply Kd.R_drew)); exact HO_3.out) hb); have n1_ := Aside0.mk (Kd.R_lower ho18 (below_size (by repeat (first | (with_reducible first | exact HB.out | apply below_alloc | apply pw_below_drewN | apply below_drew1) | exact HB.out)))); have n2_ := Aside0.mk (below_step (by repeat (first | (with_reducible first | exact HB.out | apply below_alloc | apply pw_below_drewN | apply below_drew1) | exact HB.out)) hb); clear HO_3; clear HB; have HO_3 := n0_; have HO225 := n1_; have HB := n2_; clear n0_ n1_ n2_; clear hb ho18; have hcv19 := own_string (P := Tryd.prog) Tryd.underlying37 Tryd.underlying5 Tryd.underlying9 (Kd.own_of_R HO225.out)))
                                      go_roundg k4
                                      case measure => have := HK1.out; have := HJ1.out; have := HJ6.out; have := HK4.out; omega
                                      case rel => exact ⟨((x6_4 ++ (strOfNums y223)) ++ ((⟨#[97, 98, 100, 101, 105, 108, 110, 111, 114, 115, 116, 117]⟩ : ByteArray).extract ((ji12) : Int).toNat ((IntKind.u64.wrap ((ji12) + 1)) : Int).toNat)), (IntKind.u64.wrap (x7_4 + 1)), (by first | rfl | (simp; done) | (simp only [← hji12] <;> (first | rfl | (simp; done) | (simp [mn, mx]; done))) | (simp [*]; done)), (by first | rfl | (simp; done) | (simp [*]; done)), H', ⟨by have := HK1.out; have := HJ1.out; have := HJ6.out; have := HK4.out; omega⟩, ⟨by (with_reducible repeat (first | apply Kd.R_alloc | apply Kd.R_drewN | apply Kd.R_drew)); exact HO_3.out⟩, ⟨by repeat (first | (with_reducible first | exact HB.out | apply below_alloc | apply pw_below_drewN | apply below_drew1) | exact HB.out)⟩⟩
                                    · rw [if_neg c16] at H
                                      exact absurd H (by simp)
                                  · rw [if_neg c15] at H
                                    exact absurd H (by simp)
                                · rw [if_neg c14] at H
                                  exact absurd H (by simp)
                              · rw [if_neg c13] at H
                                exact absurd H (by simp)
                            · rw [if_neg c11] at H
                              exact absurd H (by simp)
                          · rw [if_neg c10] at H
                            have c10b0 : decide (0 < (Int.tmod (IntKind.u64.wrap ((Int.tmod (IntKind.u64.wrap (Int.tdiv (IntKind.u64.wrap (rd l0 x4_1)) 3)) 7) * (IntKind.u64.wrap (x7_4 + 1)))) 10)) = false := decide_eq_false c10
                            clear c10
                            obtain ⟨ji20, hji20⟩ : ∃ j_ : Int, (Int.tmod (IntKind.u64.wrap ((IntKind.u64.wrap (Int.tdiv (IntKind.u64.wrap (rd l0 x4_1)) 7)) + (IntKind.u64.wrap ((IntKind.u64.wrap (x7_4 * x7_4)) * 3)))) 12) = j_ := ⟨_, rfl⟩
                            replace H : (if 0 ≤ (ji20) then (if (ji20) ≤ (IntKind.u64.wrap ((ji20) + 1)) then (if (IntKind.u64.wrap ((ji20) + 1)) ≤ 12 then (if x6_4.size + ((⟨#[97, 98, 100, 101, 105, 108, 110, 111, 114, 115, 116, 117]⟩ : ByteArray).extract ((ji20) : Int).toNat ((IntKind.u64.wrap ((ji20) + 1)) : Int).toNat).size ≤ 9223372036854775807 then (frisketlaw09_patterns.l1 k4 l0 x3_1 x4_1 (IntKind.u64.wrap (rd l0 x4_1)) (x6_4 ++ ((⟨#[97, 98, 100, 101, 105, 108, 110, 111, 114, 115, 116, 117]⟩ : ByteArray).extract ((ji20) : Int).toNat ((IntKind.u64.wrap ((ji20) + 1)) : Int).toNat)) (IntKind.u64.wrap (x7_4 + 1))) else (none)) else (none)) else (none)) else (none)) = some r := by first | (rw [hji20] at H; exact H) | (simp only [hji20] at H ⊢; exact H)
                            by_cases c21 : 0 ≤ (ji20)
                            · rw [if_pos c21] at H
                              have c21b0 := eq_true c21
                              have c21b1 : decide (0 ≤ (ji20)) = true := decide_eq_true c21
                              clear c21
                              by_cases c22 : (ji20) ≤ (IntKind.u64.wrap ((ji20) + 1))
                              · rw [if_pos c22] at H
                                have c22b0 := eq_true c22
                                have c22b1 : decide ((ji20) ≤ (IntKind.u64.wrap ((ji20) + 1))) = true := decide_eq_true c22
                                by_cases c23 : (IntKind.u64.wrap ((ji20) + 1)) ≤ 12
                                · rw [if_pos c23] at H
                                  have c23b0 := eq_true c23
                                  have c23b1 : decide ((IntKind.u64.wrap ((ji20) + 1)) ≤ 12) = true := decide_eq_true c23
                                  by_cases c24 : x6_4.size + ((⟨#[97, 98, 100, 101, 105, 108, 110, 111, 114, 115, 116, 117]⟩ : ByteArray).extract ((ji20) : Int).toNat ((IntKind.u64.wrap ((ji20) + 1)) : Int).toNat).size ≤ 9223372036854775807
                                  · rw [if_pos c24] at H
                                    have c24b0 := eq_true c24
                                    have c24b1 : decide (x6_4.size + ((⟨#[97, 98, 100, 101, 105, 108, 110, 111, 114, 115, 116, 117]⟩ : ByteArray).extract ((ji20) : Int).toNat ((IntKind.u64.wrap ((ji20) + 1)) : Int).toNat).size ≤ 9223372036854775807) = true := decide_eq_true c24
                                    try have c24b2 : (9223372036854775807 < x6_4.size + ((⟨#[97, 98, 100, 101, 105, 108, 110, 111, 114, 115, 116, 117]⟩ : ByteArray).extract ((ji20) : Int).toNat ((IntKind.u64.wrap ((ji20) + 1)) : Int).toNat).size) = False := eq_false (Nat.not_lt.2 c24)
                                    (try have c24b3 : (9223372036854775807 < x6_4.size + (((IntKind.u64.wrap ((ji20) + 1)) : Int).toNat - ((ji20) : Int).toNat)) = False := by have h_ := c24b2; (try simp only [ByteArray.size_append] at h_); rw [ext_size (b := (⟨#[97, 98, 100, 101, 105, 108, 110, 111, 114, 115, 116, 117]⟩ : ByteArray)) (S := ((ji20) : Int).toNat) (X := ((IntKind.u64.wrap ((ji20) + 1)) : Int)) (by first | assumption | exact of_decide_eq_true (by assumption) | exact Int.le_of_lt (Int.not_le.1 (of_decide_eq_false (p := ((IntKind.u64.wrap ((ji20) + 1)) ≥ ((⟨#[97, 98, 100, 101, 105, 108, 110, 111, 114, 115, 116, 117]⟩ : ByteArray).size : Int))) (by assumption))) | exact Int.le_of_lt (Int.not_le.1 (of_decide_eq_false (p := (((⟨#[97, 98, 100, 101, 105, 108, 110, 111, 114, 115, 116, 117]⟩ : ByteArray).size : Int) ≤ (IntKind.u64.wrap ((ji20) + 1)))) (by assumption))))] at h_; first | exact h_ | (rw [Nat.add_assoc]; exact h_) | (rw [← Nat.add_assoc] at h_; exact h_))
                                    have H' := Aside0.mk H
                                    clear H
                                    go_wp2
                                    go_roundg k4
                                    case measure => have := HK1.out; have := HJ1.out; have := HJ6.out; have := HK4.out; omega
                                    case rel => exact ⟨(x6_4 ++ ((⟨#[97, 98, 100, 101, 105, 108, 110, 111, 114, 115, 116, 117]⟩ : ByteArray).extract ((ji20) : Int).toNat ((IntKind.u64.wrap ((ji20) + 1)) : Int).toNat)), (IntKind.u64.wrap (x7_4 + 1)), (by first | rfl | (simp; done) | (simp only [← hji20] <;> (first | rfl | (simp; done) | (simp [mn, mx]; done))) | (simp [*]; done)), (by first | rfl | (simp; done) | (simp [*]; done)), H', ⟨by have := HK1.out; have := HJ1.out; have := HJ6.out; have := HK4.out; omega⟩, ⟨by (with_reducible repeat (first | apply Kd.R_alloc | apply Kd.R_drewN | apply Kd.R_drew)); exact HO_3.out⟩, ⟨by repeat (first | (with_reducible first | exact HB.out | apply below_alloc | apply pw_below_drewN | apply below_drew1) | exact HB.out)⟩⟩
                                  · rw [if_neg c24] at H
                                    exact absurd H (by simp)
                                · rw [if_neg c23] at H
                                  exact absurd H (by simp)
                              · rw [if_neg c22] at H
                                exact absurd H (by simp)
                            · rw [if_neg c21] at H
                              exact absurd H (by simp)
                        · rw [if_neg c9] at H
                          have c9b0 : decide (x7_4 < (IntKind.u64.wrap (1 + (Int.tmod (IntKind.u64.wrap (rd l0 x4_1)) 4)))) = false := decide_eq_false c9
                          clear c9
                          by_cases c25 : (Int.tmod (IntKind.u64.wrap (rd l0 x4_1)) 13) = 0
                          · rw [if_pos c25] at H
                            have c25b0 : ((Int.tmod (IntKind.u64.wrap (rd l0 x4_1)) 13) == 0) = true := beq_iff_eq.mpr c25
                            have c25b1 : ((Int.tmod (IntKind.u64.wrap (rd l0 x4_1)) 13) != 0) = false := bne_eq_false_iff_eq.mpr c25
                            clear c25
                            by_cases c26 : x6_4.size + 1 ≤ 9223372036854775807
                            · rw [if_pos c26] at H
                              have c26b0 := eq_true c26
                              have c26b1 : decide (x6_4.size + 1 ≤ 9223372036854775807) = true := decide_eq_true c26
                              try have c26b2 : (9223372036854775807 < x6_4.size + 1) = False := eq_false (Nat.not_lt.2 c26)
                              by_cases c27 : x3_1.length < 8796093022208
                              · rw [if_pos c27] at H
                                have LMc27 := Aside0.mk c27
                                clear c27
                                obtain ⟨y226, hy226⟩ : ∃ y_ : List ByteArray, y_ = (x3_1 ++ [x6_4 ++ (⟨#[46]⟩ : ByteArray)]) := ⟨_, rfl⟩
                                replace H : (frisketlaw09_patterns.l0 k4 l0 y226 (wrap64 (x4_1 + 1))) = some r := by first | (rw [hy226]; with_reducible exact H) | (have H2_ := (Option.bind_some _ _).symm.trans H; rw [hy226]; with_reducible exact H2_) | (have H2_ := (Option.bind_some _ _).symm.trans H; with_reducible exact H2_) | with_reducible exact H | (rw [hy226]; exact H) | exact H
                                have Ny226 := Aside0.mk hy226
                                clear hy226
                                have H' := Aside0.mk H
                                clear H
                                go_wp2_with (first | ((with_reducible refine gate_builtin (b := .append) (xs := #[.tmp 70, .tmp 72]) rfl ?_); at_builtin; refine Kd.R_append Kd.string (w0 := w) w.heap.size rfl (.tmp 70) (.tmp 72) 26 9 (.string ⟨#[]⟩) 16 rfl Tryd.underlying26 info9 rfl (by decide) (by omega) u3 x3_1 (x6_4 ++ (⟨#[46]⟩ : ByteArray)) [.string (x6_4 ++ (⟨#[46]⟩ : ByteArray))] (fun _ => True) (fun _ => False) rfl rfl ?aP (fun _ hk => hk.elim) ?aF ?aO ?aB ?aS ?aL ?_; (case aP => exact rfl); (case aB => exact (by repeat (first | (with_reducible first | exact HB.out | apply below_alloc | apply pw_below_drewN | apply below_drew1) | exact HB.out))); (case aF => exact (fun _ _ => trivial)); (case aO => exact (by (with_reducible repeat (first | apply Kd.R_alloc | apply Kd.R_drewN | apply Kd.R_drew)); exact HO_3.out)); (case aS => exact (below_size (by repeat (first | (with_reducible first | exact HB.out | apply below_alloc | apply pw_below_drewN | apply below_drew1) | exact HB.out)))); (case aL => have := LMc27.out; omega); intro v227 w28 ho hb hg hat; rw [← Ny226.out] at ho; have n0_ := Aside0.mk (hb); have n1_ := Aside0.mk (ho); clear HB; clear HO_3; have HB := n0_; have HO228 := n1_; clear n0_ n1_; clear ho hb hg hat))
                                go_roundg k4
                                case measure => have := HK1.out; have := HJ1.out; have := HJ6.out; have := HK4.out; omega
                                case rel => exact ⟨(y226), (wrap64 (x4_1 + 1)), (by first | rfl | (simp; done) | (simp [*]; done)), H', ⟨by have := HK1.out; have := HJ1.out; have := HJ6.out; have := HK4.out; omega⟩, ⟨by (with_reducible repeat (first | apply Kd.R_alloc | apply Kd.R_drewN | apply Kd.R_drew)); exact HO228.out⟩, ⟨by repeat (first | (with_reducible first | exact HB.out | apply below_alloc | apply pw_below_drewN | apply below_drew1) | exact HB.out)⟩⟩
                              · rw [if_neg c27] at H
                                exact absurd H (by simp)
                            · rw [if_neg c26] at H
                              exact absurd H (by simp)
                          · rw [if_neg c25] at H
                            have c25b0 : ((Int.tmod (IntKind.u64.wrap (rd l0 x4_1)) 13) == 0) = false := beq_eq_false_iff_ne.mpr c25
                            have c25b1 : ((Int.tmod (IntKind.u64.wrap (rd l0 x4_1)) 13) != 0) = true := bne_iff_ne.mpr c25
                            by_cases c29 : x3_1.length < 8796093022208
                            · rw [if_pos c29] at H
                              have LMc29 := Aside0.mk c29
                              clear c29
                              obtain ⟨y229, hy229⟩ : ∃ y_ : List ByteArray, y_ = (x3_1 ++ [x6_4]) := ⟨_, rfl⟩
                              replace H : (frisketlaw09_patterns.l0 k4 l0 y229 (wrap64 (x4_1 + 1))) = some r := by first | (rw [hy229]; with_reducible exact H) | (have H2_ := (Option.bind_some _ _).symm.trans H; rw [hy229]; with_reducible exact H2_) | (have H2_ := (Option.bind_some _ _).symm.trans H; with_reducible exact H2_) | with_reducible exact H | (rw [hy229]; exact H) | exact H
                              have Ny229 := Aside0.mk hy229
                              clear hy229
                              have H' := Aside0.mk H
                              clear H
                              go_wp2_with (first | ((with_reducible refine gate_builtin (b := .append) (xs := #[.tmp 70, .tmp 72]) rfl ?_); at_builtin; refine Kd.R_append Kd.string (w0 := w) w.heap.size rfl (.tmp 70) (.tmp 72) 26 9 (.string ⟨#[]⟩) 16 rfl Tryd.underlying26 info9 rfl (by decide) (by omega) u3 x3_1 x6_4 [.string x6_4] (fun _ => True) (fun _ => False) rfl rfl ?aP (fun _ hk => hk.elim) ?aF ?aO ?aB ?aS ?aL ?_; (case aP => exact rfl); (case aB => exact (by repeat (first | (with_reducible first | exact HB.out | apply below_alloc | apply pw_below_drewN | apply below_drew1) | exact HB.out))); (case aF => exact (fun _ _ => trivial)); (case aO => exact (by (with_reducible repeat (first | apply Kd.R_alloc | apply Kd.R_drewN | apply Kd.R_drew)); exact HO_3.out)); (case aS => exact (below_size (by repeat (first | (with_reducible first | exact HB.out | apply below_alloc | apply pw_below_drewN | apply below_drew1) | exact HB.out)))); (case aL => have := LMc29.out; omega); intro v230 w30 ho hb hg hat; rw [← Ny229.out] at ho; have n0_ := Aside0.mk (hb); have n1_ := Aside0.mk (ho); clear HB; clear HO_3; have HB := n0_; have HO231 := n1_; clear n0_ n1_; clear ho hb hg hat))
                              go_roundg k4
                              case measure => have := HK1.out; have := HJ1.out; have := HJ6.out; have := HK4.out; omega
                              case rel => exact ⟨(y229), (wrap64 (x4_1 + 1)), (by first | rfl | (simp; done) | (simp [*]; done)), H', ⟨by have := HK1.out; have := HJ1.out; have := HJ6.out; have := HK4.out; omega⟩, ⟨by (with_reducible repeat (first | apply Kd.R_alloc | apply Kd.R_drewN | apply Kd.R_drew)); exact HO231.out⟩, ⟨by repeat (first | (with_reducible first | exact HB.out | apply below_alloc | apply pw_below_drewN | apply below_drew1) | exact HB.out)⟩⟩
                            · rw [if_neg c29] at H
                              exact absurd H (by simp)
              · rw [if_neg c6] at H
                exact absurd H (by simp)
            · rw [if_neg c5] at H
              exact absurd H (by simp)
          · replace c4 := Bool.eq_false_iff.mpr c4
            subst c4
            have H1 : (some x3_1) = some r := by rw [if_neg (show ¬ (false = true) by decide)] at H; exact H
            clear H
            have H := H1
            clear H1
            obtain rfl := Option.some.inj H
            go_wp2
            go_ret
            exact ⟨_, by first | rfl | (simp [errW_none, errW_some] <;> rfl) | (simp [*, errW_none, errW_some] <;> rfl), by (with_reducible repeat (first | apply Kd.R_alloc | apply Kd.R_drewN | apply Kd.R_drew)); exact HO_3.out, by repeat (first | (with_reducible first | exact HB.out | apply below_alloc | apply pw_below_drewN | apply below_drew1) | exact HB.out)⟩

/-! ### frisketlaw09_HyphenBack: function 9 -/
def frisketlaw09_HyphenBack.f (k : Nat) (l0 : List Int) (l1 : List Int) : Option (Bool) := (frisketlaw09_Word.f k l0).bind fun t232 => ((frisketlaw09_patterns.f k l1).bind fun t233 => ((hyphen_Points.f k t232 t233 ([] : List ByteArray) 1 1).bind fun bt236 => ((hyphen_Show.f k t232 bt236.1).bind fun bt240 => ((hyphen_Read.f k bt240.1).bind fun bt242 => (if bt236.2 = 0 then (if bt240.2 = 0 then (if bt242.2.2 = 0 then (if bt242.1.toList = t232.toList then ((frisketlaw09_numbers.f k bt236.1 bt242.2.1).bind fun t247 => (if t247 = true then ((frisketlaw09_sane.f k).bind fun t248 => (some t248)) else (none))) else (none)) else (none)) else (none)) else (none))))))
theorem frisketlaw09_HyphenBack.mono : ∀ a0 a1 k, LeO (frisketlaw09_HyphenBack.f k a0 a1) (frisketlaw09_HyphenBack.f (k + 1) a0 a1) := by
  intro a0 a1 k
  unfold frisketlaw09_HyphenBack.f
  repeat' first
      | (with_reducible exact frisketlaw09_Word.mono _ _)
      | (with_reducible exact frisketlaw09_numbers.mono _ _ _)
      | (with_reducible exact frisketlaw09_patterns.mono _ _)
      | (with_reducible exact frisketlaw09_sane.mono _)
      | (with_reducible exact hyphen_Points.mono _ _ _ _ _ _)
      | (with_reducible exact hyphen_Read.mono _ _)
      | (with_reducible exact hyphen_Show.mono _ _ _)
      | (with_reducible exact LeO.refl _)
      | (with_reducible exact LeO.none _)
      | (with_reducible refine LeO.ite ?_ ?_)
      | (with_reducible refine LeO.bind ?_ (fun _ => ?_))
      | exact frisketlaw09_Word.mono _ _
      | exact frisketlaw09_numbers.mono _ _ _
      | exact frisketlaw09_patterns.mono _ _
      | exact frisketlaw09_sane.mono _
      | exact hyphen_Points.mono _ _ _ _ _ _
      | exact hyphen_Read.mono _ _
      | exact hyphen_Show.mono _ _ _
      | exact LeO.none _
      | refine LeO.ite ?_ ?_
      | refine LeO.bind ?_ (fun _ => ?_)
set_option maxHeartbeats 8000000 in
set_option maxRecDepth 100000 in
theorem frisketlaw09_HyphenBack.calls (k : Nat) (A0 : Option Addr) (c0 : Nat) (l0 : List Int) (A1 : Option Addr) (c1 : Nat) (l1 : List Int) (r : Bool) (w : World) (hT : Tab w) (hr0 : Kd.C (Kd.int .i64) w A0 l0.length l0) (hc0 : l0.length ≤ c0) (hr1 : Kd.C (Kd.int .i64) w A1 l1.length l1) (hc1 : l1.length ≤ c1) (h : frisketlaw09_HyphenBack.f k l0 l1 = some r) :
    Calls Tryd.prog 9 #[.slice A0 l0.length c0, .slice A1 l1.length c1] w fun e w' => e = .returned (.bool r) ∧ Below w.heap.size w w' := by
  have HR0 := Aside0.mk hr0
  have HC0 := Aside0.mk hc0
  clear hr0 hc0
  have HR1 := Aside0.mk hr1
  have HC1 := Aside0.mk hc1
  clear hr1 hc1
  have HB := Aside0.mk (Below.refl w.heap.size w)
  have H : ((frisketlaw09_Word.f k l0).bind fun t232 => ((frisketlaw09_patterns.f k l1).bind fun t233 => ((hyphen_Points.f k t232 t233 ([] : List ByteArray) 1 1).bind fun bt236 => ((hyphen_Show.f k t232 bt236.1).bind fun bt240 => ((hyphen_Read.f k bt240.1).bind fun bt242 => (if bt236.2 = 0 then (if bt240.2 = 0 then (if bt242.2.2 = 0 then (if bt242.1.toList = t232.toList then ((frisketlaw09_numbers.f k bt236.1 bt242.2.1).bind fun t247 => (if t247 = true then ((frisketlaw09_sane.f k).bind fun t248 => (some t248)) else (none))) else (none)) else (none)) else (none)) else (none))))))) = some r := h
  clear h
  replace H := Option.bind_eq_some_iff.mp H
  obtain ⟨t232, A30, H⟩ := H
  replace H : ((frisketlaw09_patterns.f k l1).bind fun t233 => ((hyphen_Points.f k t232 t233 ([] : List ByteArray) 1 1).bind fun bt236 => ((hyphen_Show.f k t232 bt236.1).bind fun bt240 => ((hyphen_Read.f k bt240.1).bind fun bt242 => (if bt236.2 = 0 then (if bt240.2 = 0 then (if bt242.2.2 = 0 then (if bt242.1.toList = t232.toList then ((frisketlaw09_numbers.f k bt236.1 bt242.2.1).bind fun t247 => (if t247 = true then ((frisketlaw09_sane.f k).bind fun t248 => (some t248)) else (none))) else (none)) else (none)) else (none)) else (none)))))) = some r := H
  have A3 := Aside0.mk A30
  clear A30
  replace H := Option.bind_eq_some_iff.mp H
  obtain ⟨t233, A40, H⟩ := H
  replace H : ((hyphen_Points.f k t232 t233 ([] : List ByteArray) 1 1).bind fun bt236 => ((hyphen_Show.f k t232 bt236.1).bind fun bt240 => ((hyphen_Read.f k bt240.1).bind fun bt242 => (if bt236.2 = 0 then (if bt240.2 = 0 then (if bt242.2.2 = 0 then (if bt242.1.toList = t232.toList then ((frisketlaw09_numbers.f k bt236.1 bt242.2.1).bind fun t247 => (if t247 = true then ((frisketlaw09_sane.f k).bind fun t248 => (some t248)) else (none))) else (none)) else (none)) else (none)) else (none))))) = some r := H
  have A4 := Aside0.mk A40
  clear A40
  replace H := Option.bind_eq_some_iff.mp H
  obtain ⟨⟨t236, t237⟩, A50, H⟩ := H
  replace H : ((hyphen_Show.f k t232 t236).bind fun bt240 => ((hyphen_Read.f k bt240.1).bind fun bt242 => (if t237 = 0 then (if bt240.2 = 0 then (if bt242.2.2 = 0 then (if bt242.1.toList = t232.toList then ((frisketlaw09_numbers.f k t236 bt242.2.1).bind fun t247 => (if t247 = true then ((frisketlaw09_sane.f k).bind fun t248 => (some t248)) else (none))) else (none)) else (none)) else (none)) else (none)))) = some r := H
  have A5 := Aside0.mk A50
  clear A50
  replace H := Option.bind_eq_some_iff.mp H
  obtain ⟨⟨t240, t241⟩, A60, H⟩ := H
  replace H : ((hyphen_Read.f k t240).bind fun bt242 => (if t237 = 0 then (if t241 = 0 then (if bt242.2.2 = 0 then (if bt242.1.toList = t232.toList then ((frisketlaw09_numbers.f k t236 bt242.2.1).bind fun t247 => (if t247 = true then ((frisketlaw09_sane.f k).bind fun t248 => (some t248)) else (none))) else (none)) else (none)) else (none)) else (none))) = some r := H
  have A6 := Aside0.mk A60
  clear A60
  replace H := Option.bind_eq_some_iff.mp H
  obtain ⟨⟨t242, t243, t244⟩, A70, H⟩ := H
  replace H : (if t237 = 0 then (if t241 = 0 then (if t244 = 0 then (if t242.toList = t232.toList then ((frisketlaw09_numbers.f k t236 t243).bind fun t247 => (if t247 = true then ((frisketlaw09_sane.f k).bind fun t248 => (some t248)) else (none))) else (none)) else (none)) else (none)) else (none)) = some r := H
  have A7 := Aside0.mk A70
  clear A70
  by_cases c8 : t237 = 0
  · rw [if_pos c8] at H
    have c8b0 : (t237 == 0) = true := beq_iff_eq.mpr c8
    have c8b1 : (t237 != 0) = false := bne_eq_false_iff_eq.mpr c8
    clear c8
    by_cases c9 : t241 = 0
    · rw [if_pos c9] at H
      have c9b0 : (t241 == 0) = true := beq_iff_eq.mpr c9
      have c9b1 : (t241 != 0) = false := bne_eq_false_iff_eq.mpr c9
      clear c9
      by_cases c10 : t244 = 0
      · rw [if_pos c10] at H
        have c10b0 : (t244 == 0) = true := beq_iff_eq.mpr c10
        have c10b1 : (t244 != 0) = false := bne_eq_false_iff_eq.mpr c10
        clear c10
        by_cases c11 : t242.toList = t232.toList
        · rw [if_pos c11] at H
          have c11b0 : (t242.toList == t232.toList) = true := beq_iff_eq.mpr c11
          have c11b1 : (t242.toList != t232.toList) = false := bne_eq_false_iff_eq.mpr c11
          clear c11
          replace H := Option.bind_eq_some_iff.mp H
          obtain ⟨t247, A120, H⟩ := H
          replace H : (if t247 = true then ((frisketlaw09_sane.f k).bind fun t248 => (some t248)) else (none)) = some r := H
          have A12 := Aside0.mk A120
          clear A120
          by_cases c13 : t247 = true
          · subst c13
            have H1 : ((frisketlaw09_sane.f k).bind fun t248 => (some t248)) = some r := by rw [if_pos rfl] at H; exact H
            clear H
            have H := H1
            clear H1
            replace H := Option.bind_eq_some_iff.mp H
            obtain ⟨t248, A140, H⟩ := H
            replace H : (some t248) = some r := H
            have A14 := Aside0.mk A140
            clear A140
            obtain rfl := Option.some.inj H
            go_enter Tryd.func9, Tryd.ntmps9
            go_wp2_with (first | ((with_reducible refine gate_callee (f := 10) rfl ?_); refine goesL_ (some 14) rfl rfl Tryd.func10 (by kernel_rfl) rfl #[.slice A0 l0.length c0] rfl (by (try simp only [List.map_toArray, List.map_cons, List.map_nil]); first | done | rfl | (simp only [List.length_drop, List.length_take]; rfl)) ?_; (with_reducible refine (frisketlaw09_Word.calls k _ _ l0 t232 _ ?side1 ?side2 A3.out).mono ?_); (case side1 => repeat (first | exact HR0.out | (with_reducible refine Kd.C_alloc ?_ _) | (with_reducible refine Kd.C_drewN ?_ _) | (with_reducible refine Kd.C_drew ?_))); (case side2 => exact HC0.out); rintro e w' ⟨rfl, ⟨nd, rfl⟩⟩; refine ⟨_, rfl, ?_⟩) | ((with_reducible refine gate_callee (f := 11) rfl ?_); refine goesL_ (some 18) rfl rfl Tryd.func11 (by kernel_rfl) rfl #[.slice A1 l1.length c1] rfl (by (try simp only [List.map_toArray, List.map_cons, List.map_nil]); first | done | rfl | (simp only [List.length_drop, List.length_take]; rfl)) ?_; (with_reducible refine (frisketlaw09_patterns.calls k _ _ l1 t233 _ ?side1 ?side2 A4.out).mono ?_); (case side1 => repeat (first | exact HR1.out | (with_reducible refine Kd.C_alloc ?_ _) | (with_reducible refine Kd.C_drewN ?_ _) | (with_reducible refine Kd.C_drew ?_))); (case side2 => exact HC1.out); rintro e w15 ⟨v234, rfl, ho0, hb⟩; refine ⟨_, rfl, ?_⟩; have n0_ := Aside0.mk (Kd.R_lower ho0 (below_size (by repeat (first | (with_reducible first | exact HB.out | apply below_alloc | apply pw_below_drewN | apply below_drew1) | exact HB.out)))); have n1_ := Aside0.mk (below_step (by repeat (first | (with_reducible first | exact HB.out | apply below_alloc | apply pw_below_drewN | apply below_drew1) | exact HB.out)) hb); clear HB; have HO235 := n0_; have HB := n1_; clear n0_ n1_; (try clear hb); (try clear hb2); (try clear hk); (try clear hi); (try clear ho0); obtain ⟨Ao16, co16, eo16⟩ := Kd.R_slice HO235.out; subst eo16) | ((with_reducible refine gate_callee (f := 12) rfl ?_); refine goesL_ (some 19) rfl rfl Tryd.func12 (by kernel_rfl) rfl #[.string t232, .slice Ao16 t233.length co16, .slice none 0 0, .int .i64 1, .int .i64 1] rfl (by (try simp only [List.map_toArray, List.map_cons, List.map_nil]); first | done | rfl | (simp only [List.length_drop, List.length_take]; rfl)) ?_; (refine (hyphen_Points.calls k t232 _ _ t233 _ _ ([] : List ByteArray) 1 1 t236 t237 _ ?side1 ?side2 ?side3 ?side4 (Tab.below hT (by repeat (first | (with_reducible first | exact HB.out | apply below_alloc | apply pw_below_drewN | apply below_drew1) | exact HB.out))) A5.out).mono ?_); (case side1 => repeat (first | exact (Kd.R_reads' HO235.out).2.2 | (with_reducible refine Kd.C_alloc ?_ _) | (with_reducible refine Kd.C_drewN ?_ _) | (with_reducible refine Kd.C_drew ?_))); (case side2 => exact (Kd.R_reads' HO235.out).2.1); (case side3 => exact Kd.C_nil _ _); (case side4 => exact Nat.le_refl _); rintro e w17 ⟨v238, rfl, ho0, hb⟩; refine ⟨_, rfl, ?_⟩; have n0_ := Aside0.mk (Kd.R_below (by (with_reducible repeat (first | apply Kd.R_alloc | apply Kd.R_drewN | apply Kd.R_drew)); exact HO235.out) hb); have n1_ := Aside0.mk (Kd.R_lower ho0 (below_size (by repeat (first | (with_reducible first | exact HB.out | apply below_alloc | apply pw_below_drewN | apply below_drew1) | exact HB.out)))); have n2_ := Aside0.mk (below_step (by repeat (first | (with_reducible first | exact HB.out | apply below_alloc | apply pw_below_drewN | apply below_drew1) | exact HB.out)) hb); clear HO235; clear HB; have HO235 := n0_; have HO239 := n1_; have HB := n2_; clear n0_ n1_ n2_; (try clear hb); (try clear hb2); (try clear hk); (try clear hi); (try clear ho0); obtain ⟨Ao18, co18, eo18⟩ := Kd.R_slice HO239.out; subst eo18) | ((with_reducible refine gate_callee (f := 24) rfl ?_); refine goesL_ (some 25) rfl rfl Tryd.func24 (by kernel_rfl) rfl #[.string t232, .slice Ao18 t236.length co18] rfl (by (try simp only [List.map_toArray, List.map_cons, List.map_nil]); first | done | rfl | (simp only [List.length_drop, List.length_take]; rfl)) ?_; (with_reducible refine (hyphen_Show.calls k t232 _ _ t236 t240 t241 _ ?side1 ?side2 A6.out).mono ?_); (case side1 => repeat (first | exact (Kd.R_reads' HO239.out).2.2 | (with_reducible refine Kd.C_alloc ?_ _) | (with_reducible refine Kd.C_drewN ?_ _) | (with_reducible refine Kd.C_drew ?_))); (case side2 => exact (Kd.R_reads' HO239.out).2.1); rintro e w19 ⟨rfl, hb⟩; refine ⟨_, rfl, ?_⟩; have n0_ := Aside0.mk (Kd.R_below (by (with_reducible repeat (first | apply Kd.R_alloc | apply Kd.R_drewN | apply Kd.R_drew)); exact HO235.out) hb); have n1_ := Aside0.mk (Kd.R_below (by (with_reducible repeat (first | apply Kd.R_alloc | apply Kd.R_drewN | apply Kd.R_drew)); exact HO239.out) hb); have n2_ := Aside0.mk (below_step (by repeat (first | (with_reducible first | exact HB.out | apply below_alloc | apply pw_below_drewN | apply below_drew1) | exact HB.out)) hb); clear HO235; clear HO239; clear HB; have HO235 := n0_; have HO239 := n1_; have HB := n2_; clear n0_ n1_ n2_; (try clear hb); (try clear hb2); (try clear hk); (try clear hi)) | ((with_reducible refine gate_callee (f := 26) rfl ?_); refine goesL_ (some 30) rfl rfl Tryd.func26 (by kernel_rfl) rfl #[.string t240] rfl (by (try simp only [List.map_toArray, List.map_cons, List.map_nil]); first | done | rfl | (simp only [List.length_drop, List.length_take]; rfl)) ?_; (with_reducible refine (hyphen_Read.calls k t240 t242 t243 t244 _ A7.out).mono ?_); rintro e w20 ⟨v245, rfl, ho0, hb⟩; refine ⟨_, rfl, ?_⟩; have n0_ := Aside0.mk (Kd.R_below (by (with_reducible repeat (first | apply Kd.R_alloc | apply Kd.R_drewN | apply Kd.R_drew)); exact HO235.out) hb); have n1_ := Aside0.mk (Kd.R_elder' (by (with_reducible repeat (first | apply Kd.R_alloc | apply Kd.R_drewN | apply Kd.R_drew)); exact HO239.out) (Kd.R_base ho0) hb); have n2_ := Aside0.mk (Kd.R_lower (Kd.R_new' ho0 (Kd.R_lt (by (with_reducible repeat (first | apply Kd.R_alloc | apply Kd.R_drewN | apply Kd.R_drew)); exact HO239.out))) (below_size (by repeat (first | (with_reducible first | exact HB.out | apply below_alloc | apply pw_below_drewN | apply below_drew1) | exact HB.out)))); have n3_ := Aside0.mk (below_step (by repeat (first | (with_reducible first | exact HB.out | apply below_alloc | apply pw_below_drewN | apply below_drew1) | exact HB.out)) hb); clear HO235; clear HO239; clear HB; have HO235 := n0_; have HO239 := n1_; have HO246 := n2_; have HB := n3_; clear n0_ n1_ n2_ n3_; (try clear hb); (try clear hb2); (try clear hk); (try clear hi); (try clear ho0); obtain ⟨Ao21, co21, eo21⟩ := Kd.R_slice HO246.out; subst eo21) | (go_at_call 13; (with_reducible refine (frisketlaw09_numbers.calls k _ _ t236 _ _ t243 true _ ?side1 ?side2 ?side3 ?side4 A12.out).mono ?_); (case side1 => repeat (first | exact (Kd.R_reads' HO239.out).2.2 | (with_reducible refine Kd.C_alloc ?_ _) | (with_reducible refine Kd.C_drewN ?_ _) | (with_reducible refine Kd.C_drew ?_))); (case side2 => exact (Kd.R_reads' HO239.out).2.1); (case side3 => repeat (first | exact (Kd.R_reads' HO246.out).2.2 | (with_reducible refine Kd.C_alloc ?_ _) | (with_reducible refine Kd.C_drewN ?_ _) | (with_reducible refine Kd.C_drew ?_))); (case side4 => exact (Kd.R_reads' HO246.out).2.1); rintro e w' ⟨rfl, ⟨nd, rfl⟩⟩) | (go_at_call 14; (with_reducible refine (frisketlaw09_sane.calls k  t248 _ (Tab.below hT (by repeat (first | (with_reducible first | exact HB.out | apply below_alloc | apply pw_below_drewN | apply below_drew1) | exact HB.out))) A14.out).mono ?_); rintro e w22 ⟨rfl, hb⟩; have n0_ := Aside0.mk (Kd.R_below (by (with_reducible repeat (first | apply Kd.R_alloc | apply Kd.R_drewN | apply Kd.R_drew)); exact HO235.out) hb); have n1_ := Aside0.mk (Kd.R_below (by (with_reducible repeat (first | apply Kd.R_alloc | apply Kd.R_drewN | apply Kd.R_drew)); exact HO239.out) hb); have n2_ := Aside0.mk (Kd.R_below (by (with_reducible repeat (first | apply Kd.R_alloc | apply Kd.R_drewN | apply Kd.R_drew)); exact HO246.out) hb); have n3_ := Aside0.mk (below_step (by repeat (first | (with_reducible first | exact HB.out | apply below_alloc | apply pw_below_drewN | apply below_drew1) | exact HB.out)) hb); clear HO235; clear HO239; clear HO246; clear HB; have HO235 := n0_; have HO239 := n1_; have HO246 := n2_; have HB := n3_; clear n0_ n1_ n2_ n3_; (try clear hb); (try clear hb2); (try clear hk); (try clear hi)))
            go_ret
            exact ⟨by first | rfl | (simp [errW_none, errW_some] <;> rfl) | (simp [*, errW_none, errW_some] <;> rfl), by repeat (first | (with_reducible first | exact HB.out | apply below_alloc | apply pw_below_drewN | apply below_drew1) | exact HB.out)⟩
          · replace c13 := Bool.eq_false_iff.mpr c13
            subst c13
            have H1 : (none) = some r := by rw [if_neg (show ¬ (false = true) by decide)] at H; exact H
            clear H
            have H := H1
            clear H1
            exact absurd H (by simp)
        · rw [if_neg c11] at H
          exact absurd H (by simp)
      · rw [if_neg c10] at H
        exact absurd H (by simp)
    · rw [if_neg c9] at H
      exact absurd H (by simp)
  · rw [if_neg c8] at H
    exact absurd H (by simp)

/-- THE ONE PURE STATEMENT of frisketlaw09_HyphenBack: yours. -/
def frisketlaw09_HyphenBack.Pure : Prop := ∀ (l0 : List Int) (l1 : List Int), l0.length ≤ maxLen → l0.length * 8 ≤ 140737488351232 → (∀ x ∈ l0, (Lit.int .i64 x).wf = true) → l1.length ≤ maxLen → l1.length * 8 ≤ 140737488351232 → (∀ x ∈ l1, (Lit.int .i64 x).wf = true) → ∃ k, frisketlaw09_HyphenBack.f k l0 l1 = some true
theorem frisketlaw09_HyphenBack.walk (P : frisketlaw09_HyphenBack.Pure) (a0 : Option Addr) (len0 cap0 : Nat) (z0 : List Int) (a1 : Option Addr) (len1 cap1 : Nat) (z1 : List Int) (w : World) (hT : Tab w) (w0 : (a0 = none ∧ len0 = 0 ∧ cap0 = 0 ∧ z0 = []) ∨ ∃ x, a0 = some x ∧ len0 ≤ cap0 ∧ cap0 ≤ maxLen ∧ z0.length = cap0 ∧ (∀ i, i < z0.length → w.cell? (x.add i) = some (.int .i64 (z0.getD i 0))) ∧ ∀ n ∈ z0, (Lit.int .i64 n).wf = true) (y0 : len0 * 8 ≤ 140737488351232) (w1 : (a1 = none ∧ len1 = 0 ∧ cap1 = 0 ∧ z1 = []) ∨ ∃ x, a1 = some x ∧ len1 ≤ cap1 ∧ cap1 ≤ maxLen ∧ z1.length = cap1 ∧ (∀ i, i < z1.length → w.cell? (x.add i) = some (.int .i64 (z1.getD i 0))) ∧ ∀ n ∈ z1, (Lit.int .i64 n).wf = true) (y1 : len1 * 8 ≤ 140737488351232) :
    Calls Tryd.prog 9 #[.slice a0 len0 cap0, .slice a1 len1 cap1] w fun e w' => e = .returned (.bool true) ∧ Below w.heap.size w w' := by
  obtain ⟨l0, rfl, hr0, hm0, hw0, hc0⟩ := ReadsInt.ofRowC w0
  obtain ⟨l1, rfl, hr1, hm1, hw1, hc1⟩ := ReadsInt.ofRowC w1
  obtain ⟨k, h⟩ := P l0 l1 hm0 y0 hw0 hm1 y1 hw1
  refine (frisketlaw09_HyphenBack.calls k _ _ l0 _ _ l1 true w hT (Kd.C_of_reads (d := (0 : Int)) (h1 := fun _ => rfl) hr0) hc0 (Kd.C_of_reads (d := (0 : Int)) (h1 := fun _ => rfl) hr1) hc1 h).mono ?_
  rintro e w' ⟨rfl, hd⟩
  exact ⟨rfl, hd⟩

/-! ### hyphen_Values: function 19 -/
def hyphen_Values.f (k : Nat) (a0 : ByteArray) (l1 : List ByteArray) : Option (List Int × Int) := (hyphen_parsed.f k l1).bind fun bt249 => (if bt249.2 = 0 then ((hyphen_low.f a0).bind fun bt253 => (if (bt253.2 = true) then ((hyphen_values.f k bt253.1 bt249.1).bind fun t255 => (some (t255, 0))) else (some (([] : List Int), 1)))) else (some (([] : List Int), bt249.2)))
theorem hyphen_Values.mono : ∀ a0 a1 k, LeO (hyphen_Values.f k a0 a1) (hyphen_Values.f (k + 1) a0 a1) := by
  intro a0 a1 k
  unfold hyphen_Values.f
  repeat' first
      | (with_reducible exact hyphen_parsed.mono _ _)
      | (with_reducible exact hyphen_values.mono _ _ _)
      | (with_reducible exact LeO.refl _)
      | (with_reducible exact LeO.none _)
      | (with_reducible refine LeO.ite ?_ ?_)
      | (with_reducible refine LeO.bind ?_ (fun _ => ?_))
      | exact hyphen_parsed.mono _ _
      | exact hyphen_values.mono _ _ _
      | exact LeO.none _
      | refine LeO.ite ?_ ?_
      | refine LeO.bind ?_ (fun _ => ?_)
set_option maxHeartbeats 8000000 in
set_option maxRecDepth 100000 in
theorem hyphen_Values.calls (k : Nat) (a0 : ByteArray) (A1 : Option Addr) (c1 : Nat) (l1 : List ByteArray) (r1 : List Int) (r2 : Int) (w : World) (hr1 : Kd.C Kd.string w A1 l1.length l1) (hc1 : l1.length ≤ c1) (h : hyphen_Values.f k a0 l1 = some (r1, r2)) :
    Calls Tryd.prog 19 #[.string a0, .slice A1 l1.length c1] w fun e w' => ∃ v0_ : Value, e = .returned (.tuple #[v0_, .int .i64 r2]) ∧ Kd.V (Kd.int .i64) 3 w' w.heap.size (fun k_ => (w.heap.size ≤ k_)) v0_ r1 ∧ Below w.heap.size w w' := by
  have HR1 := Aside0.mk hr1
  have HC1 := Aside0.mk hc1
  clear hr1 hc1
  have HB := Aside0.mk (Below.refl w.heap.size w)
  have H : ((hyphen_parsed.f k l1).bind fun bt249 => (if bt249.2 = 0 then ((hyphen_low.f a0).bind fun bt253 => (if (bt253.2 = true) then ((hyphen_values.f k bt253.1 bt249.1).bind fun t255 => (some (t255, 0))) else (some (([] : List Int), 1)))) else (some (([] : List Int), bt249.2)))) = some (r1, r2) := h
  clear h
  replace H := Option.bind_eq_some_iff.mp H
  obtain ⟨⟨t249, t250⟩, A30, H⟩ := H
  replace H : (if t250 = 0 then ((hyphen_low.f a0).bind fun bt253 => (if (bt253.2 = true) then ((hyphen_values.f k bt253.1 t249).bind fun t255 => (some (t255, 0))) else (some (([] : List Int), 1)))) else (some (([] : List Int), t250))) = some (r1, r2) := H
  have A3 := Aside0.mk A30
  clear A30
  by_cases c4 : t250 = 0
  · rw [if_pos c4] at H
    have c4b0 : (t250 == 0) = true := beq_iff_eq.mpr c4
    have c4b1 : (t250 != 0) = false := bne_eq_false_iff_eq.mpr c4
    clear c4
    replace H := Option.bind_eq_some_iff.mp H
    obtain ⟨⟨t253, t254⟩, A50, H⟩ := H
    replace H : (if (t254 = true) then ((hyphen_values.f k t253 t249).bind fun t255 => (some (t255, 0))) else (some (([] : List Int), 1))) = some (r1, r2) := H
    have A5 := Aside0.mk A50
    clear A50
    by_cases c6 : (t254 = true)
    · subst c6
      have H1 : ((hyphen_values.f k t253 t249).bind fun t255 => (some (t255, 0))) = some (r1, r2) := by rw [if_pos rfl] at H; exact H
      clear H
      have H := H1
      clear H1
      replace H := Option.bind_eq_some_iff.mp H
      obtain ⟨t255, A70, H⟩ := H
      replace H : (some (t255, 0)) = some (r1, r2) := H
      have A7 := Aside0.mk A70
      clear A70
      simp only [Option.some.injEq, Prod.mk.injEq] at H
      obtain ⟨rfl, rfl⟩ := H
      go_enter Tryd.func19, Tryd.ntmps19
      go_wp2_with (first | ((with_reducible refine gate_callee (f := 28) rfl ?_); refine goesL_ (some 12) rfl rfl Tryd.func28 (by kernel_rfl) rfl #[.slice A1 l1.length c1] rfl (by (try simp only [List.map_toArray, List.map_cons, List.map_nil]); first | done | rfl | (simp only [List.length_drop, List.length_take]; rfl)) ?_; (with_reducible refine (hyphen_parsed.calls k _ _ l1 t249 t250 _ ?side1 ?side2 A3.out).mono ?_); (case side1 => repeat (first | exact HR1.out | (with_reducible refine Kd.C_alloc ?_ _) | (with_reducible refine Kd.C_drewN ?_ _) | (with_reducible refine Kd.C_drew ?_))); (case side2 => exact HC1.out); rintro e w8 ⟨v251, rfl, ho0, hb⟩; refine ⟨_, rfl, ?_⟩; have n0_ := Aside0.mk (Kd.S_lower (Kd.S_newM (M := fun k_ => (w.heap.size ≤ k_)) ho0 (below_size (by repeat (first | (with_reducible first | exact HB.out | apply below_alloc | apply pw_below_drewN | apply below_drew1) | exact HB.out))) (fun k_ h_ => h_)) (below_size (by repeat (first | (with_reducible first | exact HB.out | apply below_alloc | apply pw_below_drewN | apply below_drew1) | exact HB.out)))); have n1_ := Aside0.mk (below_step (by repeat (first | (with_reducible first | exact HB.out | apply below_alloc | apply pw_below_drewN | apply below_drew1) | exact HB.out)) hb); clear HB; have HO252 := n0_; have HB := n1_; clear n0_ n1_; (try clear hb); (try clear hb2); (try clear hk); (try clear hi); (try clear ho0)) | ((with_reducible refine gate_callee (f := 31) rfl ?_); refine goesL_ (some 20) rfl rfl Tryd.func31 (by kernel_rfl) rfl #[.string a0] rfl (by (try simp only [List.map_toArray, List.map_cons, List.map_nil]); first | done | rfl | (simp only [List.length_drop, List.length_take]; rfl)) ?_; (with_reducible refine (hyphen_low.calls a0 t253 true _ A5.out).mono ?_); rintro e w9 ⟨rfl, hb⟩; refine ⟨_, rfl, ?_⟩; have n0_ := Aside0.mk (Kd.S_below (by (with_reducible repeat (first | apply Kd.S_alloc | apply Kd.S_drewN | apply Kd.S_drew)); exact HO252.out) hb); have n1_ := Aside0.mk (below_step (by repeat (first | (with_reducible first | exact HB.out | apply below_alloc | apply pw_below_drewN | apply below_drew1) | exact HB.out)) hb); clear HO252; clear HB; have HO252 := n0_; have HB := n1_; clear n0_ n1_; (try clear hb); (try clear hb2); (try clear hk); (try clear hi); obtain ⟨Ao10, co10, eo10⟩ := Kd.S_slice HO252.out; subst eo10) | ((with_reducible refine gate_callee (f := 32) rfl ?_); refine goesL_ (some 27) rfl rfl Tryd.func32 (by kernel_rfl) rfl #[.string t253, .slice Ao10 t249.length co10] rfl (by (try simp only [List.map_toArray, List.map_cons, List.map_nil]); first | done | rfl | (simp only [List.length_drop, List.length_take]; rfl)) ?_; (with_reducible refine (hyphen_values.calls k t253 _ _ t249 t255 _ ?side1 ?side2 A7.out).mono ?_); (case side1 => repeat (first | exact (Kd.S_reads' HO252.out).2.2 | (with_reducible refine Kd.C_alloc ?_ _) | (with_reducible refine Kd.C_drewN ?_ _) | (with_reducible refine Kd.C_drew ?_))); (case side2 => exact (Kd.S_reads' HO252.out).2.1); rintro e w11 ⟨v256, rfl, ho0, hb⟩; refine ⟨_, rfl, ?_⟩; have n0_ := Aside0.mk (Kd.S_below (by (with_reducible repeat (first | apply Kd.S_alloc | apply Kd.S_drewN | apply Kd.S_drew)); exact HO252.out) hb); have n1_ := Aside0.mk (Kd.V_lower (Kd.V_mono (ok' := fun k_ => (w.heap.size ≤ k_) ∧ some k_ ≠ (.slice Ao10 t249.length co10 : Value).ownBlock) ho0 (fun k_ hk_ => ⟨(Nat.le_trans (below_size (by repeat (first | (with_reducible first | exact HB.out | apply below_alloc | apply pw_below_drewN | apply below_drew1) | exact HB.out))) hk_), (Kd.fresh' (Kd.S_lt (by (with_reducible repeat (first | apply Kd.S_alloc | apply Kd.S_drewN | apply Kd.S_drew)); exact HO252.out)) k_ hk_)⟩)) (below_size (by repeat (first | (with_reducible first | exact HB.out | apply below_alloc | apply pw_below_drewN | apply below_drew1) | exact HB.out)))); have n2_ := Aside0.mk (below_step (by repeat (first | (with_reducible first | exact HB.out | apply below_alloc | apply pw_below_drewN | apply below_drew1) | exact HB.out)) hb); clear HO252; clear HB; have HO252 := n0_; have HO257 := n1_; have HB := n2_; clear n0_ n1_ n2_; (try clear hb); (try clear hb2); (try clear hk); (try clear hi); (try clear ho0)))
      go_ret2
      exact ⟨_, by first | rfl | (simp [errW_none, errW_some] <;> rfl) | (simp [*, errW_none, errW_some] <;> rfl), by (with_reducible repeat (first | apply Kd.V_alloc | apply Kd.V_drewN | apply Kd.V_drew)); exact Kd.V_mono HO257.out (fun _ hk => hk.1), by repeat (first | (with_reducible first | exact HB.out | apply below_alloc | apply pw_below_drewN | apply below_drew1) | exact HB.out)⟩
    · replace c6 := Bool.eq_false_iff.mpr c6
      subst c6
      have H1 : (some (([] : List Int), 1)) = some (r1, r2) := by rw [if_neg (show ¬ (false = true) by decide)] at H; exact H
      clear H
      have H := H1
      clear H1
      simp only [Option.some.injEq, Prod.mk.injEq] at H
      obtain ⟨rfl, rfl⟩ := H
      go_enter Tryd.func19, Tryd.ntmps19
      go_wp2_with (first | ((with_reducible refine gate_callee (f := 28) rfl ?_); refine goesL_ (some 12) rfl rfl Tryd.func28 (by kernel_rfl) rfl #[.slice A1 l1.length c1] rfl (by (try simp only [List.map_toArray, List.map_cons, List.map_nil]); first | done | rfl | (simp only [List.length_drop, List.length_take]; rfl)) ?_; (with_reducible refine (hyphen_parsed.calls k _ _ l1 t249 t250 _ ?side1 ?side2 A3.out).mono ?_); (case side1 => repeat (first | exact HR1.out | (with_reducible refine Kd.C_alloc ?_ _) | (with_reducible refine Kd.C_drewN ?_ _) | (with_reducible refine Kd.C_drew ?_))); (case side2 => exact HC1.out); rintro e w12 ⟨v251, rfl, ho0, hb⟩; refine ⟨_, rfl, ?_⟩; have n0_ := Aside0.mk (Kd.S_lower (Kd.S_newM (M := fun k_ => (w.heap.size ≤ k_)) ho0 (below_size (by repeat (first | (with_reducible first | exact HB.out | apply below_alloc | apply pw_below_drewN | apply below_drew1) | exact HB.out))) (fun k_ h_ => h_)) (below_size (by repeat (first | (with_reducible first | exact HB.out | apply below_alloc | apply pw_below_drewN | apply below_drew1) | exact HB.out)))); have n1_ := Aside0.mk (below_step (by repeat (first | (with_reducible first | exact HB.out | apply below_alloc | apply pw_below_drewN | apply below_drew1) | exact HB.out)) hb); clear HB; have HO252 := n0_; have HB := n1_; clear n0_ n1_; (try clear hb); (try clear hb2); (try clear hk); (try clear hi); (try clear ho0)) | ((with_reducible refine gate_callee (f := 31) rfl ?_); refine goesL_ (some 20) rfl rfl Tryd.func31 (by kernel_rfl) rfl #[.string a0] rfl (by (try simp only [List.map_toArray, List.map_cons, List.map_nil]); first | done | rfl | (simp only [List.length_drop, List.length_take]; rfl)) ?_; (with_reducible refine (hyphen_low.calls a0 t253 false _ A5.out).mono ?_); rintro e w13 ⟨rfl, hb⟩; refine ⟨_, rfl, ?_⟩; have n0_ := Aside0.mk (Kd.S_below (by (with_reducible repeat (first | apply Kd.S_alloc | apply Kd.S_drewN | apply Kd.S_drew)); exact HO252.out) hb); have n1_ := Aside0.mk (below_step (by repeat (first | (with_reducible first | exact HB.out | apply below_alloc | apply pw_below_drewN | apply below_drew1) | exact HB.out)) hb); clear HO252; clear HB; have HO252 := n0_; have HB := n1_; clear n0_ n1_; (try clear hb); (try clear hb2); (try clear hk); (try clear hi)))
      go_ret2
      exact ⟨_, by first | rfl | (simp [errW_none, errW_some] <;> rfl) | (simp [*, errW_none, errW_some] <;> rfl), (by first | exact Kd.V_nil _ _ _ _ _ | exact Kd.R_V (Kd.R_nil _ _ _ _ _) | exact Kd.N_nil _ _ _ _ _ | exact Kd.V_nil _ _ _ _ _ | exact Kd.Q_nil _ _ _ _ _ | exact Kd.S_nil _ _ _ _ _), by repeat (first | (with_reducible first | exact HB.out | apply below_alloc | apply pw_below_drewN | apply below_drew1) | exact HB.out)⟩
  · rw [if_neg c4] at H
    have c4b0 : (t250 == 0) = false := beq_eq_false_iff_ne.mpr c4
    have c4b1 : (t250 != 0) = true := bne_iff_ne.mpr c4
    simp only [Option.some.injEq, Prod.mk.injEq] at H
    obtain ⟨rfl, rfl⟩ := H
    go_enter Tryd.func19, Tryd.ntmps19
    go_wp2_with (first | ((with_reducible refine gate_callee (f := 28) rfl ?_); refine goesL_ (some 12) rfl rfl Tryd.func28 (by kernel_rfl) rfl #[.slice A1 l1.length c1] rfl (by (try simp only [List.map_toArray, List.map_cons, List.map_nil]); first | done | rfl | (simp only [List.length_drop, List.length_take]; rfl)) ?_; (with_reducible refine (hyphen_parsed.calls k _ _ l1 t249 t250 _ ?side1 ?side2 A3.out).mono ?_); (case side1 => repeat (first | exact HR1.out | (with_reducible refine Kd.C_alloc ?_ _) | (with_reducible refine Kd.C_drewN ?_ _) | (with_reducible refine Kd.C_drew ?_))); (case side2 => exact HC1.out); rintro e w14 ⟨v251, rfl, ho0, hb⟩; refine ⟨_, rfl, ?_⟩; have n0_ := Aside0.mk (Kd.S_lower (Kd.S_newM (M := fun k_ => (w.heap.size ≤ k_)) ho0 (below_size (by repeat (first | (with_reducible first | exact HB.out | apply below_alloc | apply pw_below_drewN | apply below_drew1) | exact HB.out))) (fun k_ h_ => h_)) (below_size (by repeat (first | (with_reducible first | exact HB.out | apply below_alloc | apply pw_below_drewN | apply below_drew1) | exact HB.out)))); have n1_ := Aside0.mk (below_step (by repeat (first | (with_reducible first | exact HB.out | apply below_alloc | apply pw_below_drewN | apply below_drew1) | exact HB.out)) hb); clear HB; have HO252 := n0_; have HB := n1_; clear n0_ n1_; (try clear hb); (try clear hb2); (try clear hk); (try clear hi); (try clear ho0)))
    go_ret2
    exact ⟨_, by first | rfl | (simp [errW_none, errW_some] <;> rfl) | (simp [*, errW_none, errW_some] <;> rfl), (by first | exact Kd.V_nil _ _ _ _ _ | exact Kd.R_V (Kd.R_nil _ _ _ _ _) | exact Kd.N_nil _ _ _ _ _ | exact Kd.V_nil _ _ _ _ _ | exact Kd.Q_nil _ _ _ _ _ | exact Kd.S_nil _ _ _ _ _), by repeat (first | (with_reducible first | exact HB.out | apply below_alloc | apply pw_below_drewN | apply below_drew1) | exact HB.out)⟩

end Go.Proofs.YtegcelmjejhnfaaDoor.QHy
