-- Written by a program of this session (myprint.py) out of the translation; Lean checks it.
import Derived.Test.YtegcelmjejhnfaaDoorQHyx0
import Derived.Test.YtegcelmjejhnfaaDoorQHyx4
import Derived.Test.YtegcelmjejhnfaaDoorFHyHy
import Derived.Test.YtegcelmjejhnfaaDoorArrEq
namespace Go.Proofs.YtegcelmjejhnfaaDoor.QHy
open Go.RowKit Go.Proofs.YtegcelmjejhnfaaDoorW.PrintWords Go.Proofs.YtegcelmjejhnfaaDoorW.PrintLast Go.Proofs.YtegcelmjejhnfaaDoorW.PrintMore
attribute [local go_sem] max2_int min2_int max_two min_two max_three min_three max_four min_four   -- for this text's walks alone
set_option linter.unusedVariables false
set_option linter.unusedSimpArgs false

/-! ### frisketref09_split: function 38 -/
mutual
def frisketref09_split.l0 : Nat → ByteArray → ByteArray → List Int → Int → Int → Option (ByteArray × List Int × Bool)
  | 0, _, _, _, _, _ => none
  | k + 1, x0, x5, x6, x7, x8 => if x8 < (x0.size : Int) then (if 0 ≤ x8 then (if (bt x0 x8) ≥ 49 then (frisketref09_split.j1 k x0 x5 x6 x7 x8 (decide ((bt x0 x8) ≤ 57))) else (frisketref09_split.j1 k x0 x5 x6 x7 x8 false)) else (none)) else (if x7 ≥ 1 then (some (x5, x6, decide (x7 ≤ 15))) else (some (x5, x6, false)))
def frisketref09_split.j1 : Nat → ByteArray → ByteArray → List Int → Int → Int → Bool → Option (ByteArray × List Int × Bool)
  | 0, _, _, _, _, _, _ => none
  | k + 1, x0, x5, x6, x7, x8, x16 => if x16 = true then (if 0 ≤ (wrap64 ((x6.length : Int) - 1)) then (if (wrap64 ((x6.length : Int) - 1)) < (x6.length : Int) then (if (rd x6 (wrap64 ((x6.length : Int) - 1))) = 0 then (if x8 = 0 then (if (x0.size : Int) > 1 then (if 1 < (x0.size : Int) then (if (bt x0 1) = 46 then (some ((⟨#[]⟩ : ByteArray), ([] : List Int), false)) else (if x5.toList = ([] : List UInt8) then (if 0 ≤ x8 then (if x8 < (x0.size : Int) then (frisketref09_split.l0 k x0 x5 (x6.set ((wrap64 ((x6.length : Int) - 1)) : Int).toNat (((bt x0 x8) - 48) % 256)) x7 (wrap64 (x8 + 1))) else (none)) else (none)) else (if x8 > 0 then (if 0 ≤ (wrap64 (x8 - 1)) then (if (wrap64 (x8 - 1)) < (x0.size : Int) then (if (bt x0 (wrap64 (x8 - 1))) = 46 then (if x8 > 1 then (some ((⟨#[]⟩ : ByteArray), ([] : List Int), false)) else (if 0 ≤ x8 then (if x8 < (x0.size : Int) then (frisketref09_split.l0 k x0 x5 (x6.set ((wrap64 ((x6.length : Int) - 1)) : Int).toNat (((bt x0 x8) - 48) % 256)) x7 (wrap64 (x8 + 1))) else (none)) else (none))) else (if 0 ≤ x8 then (if x8 < (x0.size : Int) then (frisketref09_split.l0 k x0 x5 (x6.set ((wrap64 ((x6.length : Int) - 1)) : Int).toNat (((bt x0 x8) - 48) % 256)) x7 (wrap64 (x8 + 1))) else (none)) else (none))) else (none)) else (none)) else (if 0 ≤ x8 then (if x8 < (x0.size : Int) then (frisketref09_split.l0 k x0 x5 (x6.set ((wrap64 ((x6.length : Int) - 1)) : Int).toNat (((bt x0 x8) - 48) % 256)) x7 (wrap64 (x8 + 1))) else (none)) else (none))))) else (none)) else (if x5.toList = ([] : List UInt8) then (if 0 ≤ x8 then (if x8 < (x0.size : Int) then (frisketref09_split.l0 k x0 x5 (x6.set ((wrap64 ((x6.length : Int) - 1)) : Int).toNat (((bt x0 x8) - 48) % 256)) x7 (wrap64 (x8 + 1))) else (none)) else (none)) else (if x8 > 0 then (if 0 ≤ (wrap64 (x8 - 1)) then (if (wrap64 (x8 - 1)) < (x0.size : Int) then (if (bt x0 (wrap64 (x8 - 1))) = 46 then (if x8 > 1 then (some ((⟨#[]⟩ : ByteArray), ([] : List Int), false)) else (if 0 ≤ x8 then (if x8 < (x0.size : Int) then (frisketref09_split.l0 k x0 x5 (x6.set ((wrap64 ((x6.length : Int) - 1)) : Int).toNat (((bt x0 x8) - 48) % 256)) x7 (wrap64 (x8 + 1))) else (none)) else (none))) else (if 0 ≤ x8 then (if x8 < (x0.size : Int) then (frisketref09_split.l0 k x0 x5 (x6.set ((wrap64 ((x6.length : Int) - 1)) : Int).toNat (((bt x0 x8) - 48) % 256)) x7 (wrap64 (x8 + 1))) else (none)) else (none))) else (none)) else (none)) else (if 0 ≤ x8 then (if x8 < (x0.size : Int) then (frisketref09_split.l0 k x0 x5 (x6.set ((wrap64 ((x6.length : Int) - 1)) : Int).toNat (((bt x0 x8) - 48) % 256)) x7 (wrap64 (x8 + 1))) else (none)) else (none))))) else (if x5.toList = ([] : List UInt8) then (if 0 ≤ x8 then (if x8 < (x0.size : Int) then (frisketref09_split.l0 k x0 x5 (x6.set ((wrap64 ((x6.length : Int) - 1)) : Int).toNat (((bt x0 x8) - 48) % 256)) x7 (wrap64 (x8 + 1))) else (none)) else (none)) else (if x8 > 0 then (if 0 ≤ (wrap64 (x8 - 1)) then (if (wrap64 (x8 - 1)) < (x0.size : Int) then (if (bt x0 (wrap64 (x8 - 1))) = 46 then (if x8 > 1 then (some ((⟨#[]⟩ : ByteArray), ([] : List Int), false)) else (if 0 ≤ x8 then (if x8 < (x0.size : Int) then (frisketref09_split.l0 k x0 x5 (x6.set ((wrap64 ((x6.length : Int) - 1)) : Int).toNat (((bt x0 x8) - 48) % 256)) x7 (wrap64 (x8 + 1))) else (none)) else (none))) else (if 0 ≤ x8 then (if x8 < (x0.size : Int) then (frisketref09_split.l0 k x0 x5 (x6.set ((wrap64 ((x6.length : Int) - 1)) : Int).toNat (((bt x0 x8) - 48) % 256)) x7 (wrap64 (x8 + 1))) else (none)) else (none))) else (none)) else (none)) else (if 0 ≤ x8 then (if x8 < (x0.size : Int) then (frisketref09_split.l0 k x0 x5 (x6.set ((wrap64 ((x6.length : Int) - 1)) : Int).toNat (((bt x0 x8) - 48) % 256)) x7 (wrap64 (x8 + 1))) else (none)) else (none))))) else (some ((⟨#[]⟩ : ByteArray), ([] : List Int), false))) else (none)) else (none)) else (if 0 ≤ x8 then (if x8 < (x0.size : Int) then ((frisketref09_small.f (bt x0 x8)).bind fun t305 => (if t305 = true then (if x8 ≤ (wrap64 (x8 + 1)) then (if (wrap64 (x8 + 1)) ≤ (x0.size : Int) then (if x5.size + (x0.extract (x8 : Int).toNat ((wrap64 (x8 + 1)) : Int).toNat).size ≤ 9223372036854775807 then (if x6.length < 17592186044416 then (frisketref09_split.l0 k x0 (x5 ++ (x0.extract (x8 : Int).toNat ((wrap64 (x8 + 1)) : Int).toNat)) (x6 ++ [0]) (wrap64 (x7 + 1)) (wrap64 (x8 + 1))) else (none)) else (none)) else (none)) else (none)) else (if (bt x0 x8) = 46 then (if x8 = 0 then (if x8 ≤ (wrap64 (x8 + 1)) then (if (wrap64 (x8 + 1)) ≤ (x0.size : Int) then (if x5.size + (x0.extract (x8 : Int).toNat ((wrap64 (x8 + 1)) : Int).toNat).size ≤ 9223372036854775807 then (if x6.length < 17592186044416 then (frisketref09_split.l0 k x0 (x5 ++ (x0.extract (x8 : Int).toNat ((wrap64 (x8 + 1)) : Int).toNat)) (x6 ++ [0]) x7 (wrap64 (x8 + 1))) else (none)) else (none)) else (none)) else (none)) else (if x8 = (wrap64 ((x0.size : Int) - 1)) then (if x8 ≤ (wrap64 (x8 + 1)) then (if (wrap64 (x8 + 1)) ≤ (x0.size : Int) then (if x5.size + (x0.extract (x8 : Int).toNat ((wrap64 (x8 + 1)) : Int).toNat).size ≤ 9223372036854775807 then (if x6.length < 17592186044416 then (frisketref09_split.l0 k x0 (x5 ++ (x0.extract (x8 : Int).toNat ((wrap64 (x8 + 1)) : Int).toNat)) (x6 ++ [0]) x7 (wrap64 (x8 + 1))) else (none)) else (none)) else (none)) else (none)) else (some ((⟨#[]⟩ : ByteArray), ([] : List Int), false)))) else (some ((⟨#[]⟩ : ByteArray), ([] : List Int), false))))) else (none)) else (none))
end
def frisketref09_split.f (k : Nat) (a0 : ByteArray) : Option (ByteArray × List Int × Bool) := frisketref09_split.l0 k a0 (⟨#[]⟩ : ByteArray) (([0] : List Int)) 0 0
theorem frisketref09_split.mono_l : ∀ k, (∀ y0 y1 y2 y3 y4, LeO (frisketref09_split.l0 k y0 y1 y2 y3 y4) (frisketref09_split.l0 (k + 1) y0 y1 y2 y3 y4)) ∧ (∀ y0 y1 y2 y3 y4 y5, LeO (frisketref09_split.j1 k y0 y1 y2 y3 y4 y5) (frisketref09_split.j1 (k + 1) y0 y1 y2 y3 y4 y5))
  | 0 => ⟨fun _ _ _ _ _ r h => by simp [frisketref09_split.l0] at h, fun _ _ _ _ _ _ r h => by simp [frisketref09_split.j1] at h⟩
  | k + 1 => by
    obtain ⟨ih0, ih1⟩ := frisketref09_split.mono_l k
    refine ⟨?_, ?_⟩
    · intro y0 y1 y2 y3 y4
      unfold frisketref09_split.l0
      repeat' first
      | (with_reducible exact ih0 _ _ _ _ _)
      | (with_reducible exact ih1 _ _ _ _ _ _)
      | (with_reducible exact LeO.refl _)
      | (with_reducible exact LeO.none _)
      | (with_reducible refine LeO.ite ?_ ?_)
      | (with_reducible refine LeO.bind ?_ (fun _ => ?_))
      | exact ih0 _ _ _ _ _
      | exact ih1 _ _ _ _ _ _
      | exact LeO.none _
      | refine LeO.ite ?_ ?_
      | refine LeO.bind ?_ (fun _ => ?_)
    · intro y0 y1 y2 y3 y4 y5
      unfold frisketref09_split.j1
      repeat' first
      | (with_reducible exact ih0 _ _ _ _ _)
      | (with_reducible exact ih1 _ _ _ _ _ _)
      | (with_reducible exact LeO.refl _)
      | (with_reducible exact LeO.none _)
      | (with_reducible refine LeO.ite ?_ ?_)
      | (with_reducible refine LeO.bind ?_ (fun _ => ?_))
      | exact ih0 _ _ _ _ _
      | exact ih1 _ _ _ _ _ _
      | exact LeO.none _
      | refine LeO.ite ?_ ?_
      | refine LeO.bind ?_ (fun _ => ?_)
theorem frisketref09_split.mono : ∀ a0 k, LeO (frisketref09_split.f k a0) (frisketref09_split.f (k + 1) a0) := by
  intro a0 k
  obtain ⟨ih0, ih1⟩ := frisketref09_split.mono_l k
  unfold frisketref09_split.f
  repeat' first
      | (with_reducible exact ih0 _ _ _ _ _)
      | (with_reducible exact ih1 _ _ _ _ _ _)
      | (with_reducible exact LeO.refl _)
      | (with_reducible exact LeO.none _)
      | (with_reducible refine LeO.ite ?_ ?_)
      | (with_reducible refine LeO.bind ?_ (fun _ => ?_))
      | exact ih0 _ _ _ _ _
      | exact ih1 _ _ _ _ _ _
      | exact LeO.none _
      | refine LeO.ite ?_ ?_
      | refine LeO.bind ?_ (fun _ => ?_)
set_option maxHeartbeats 8000000 in
set_option maxRecDepth 100000 in
theorem frisketref09_split.calls (k : Nat) (a0 : ByteArray) (r1 : ByteArray) (r2 : List Int) (r3 : Bool) (w : World) (h : frisketref09_split.f k a0 = some (r1, r2, r3)) :
    Calls Tryd.prog 38 #[.string a0] w fun e w' => ∃ v1_ : Value, e = .returned (.tuple #[.string r1, v1_, .bool r3]) ∧ Kd.R (Kd.int .i64) 3 w' w.heap.size (fun _ => True) v1_ r2 ∧ Below w.heap.size w w' := by
  have HB := Aside0.mk (Below.refl w.heap.size w)
  have H : (frisketref09_split.l0 k a0 (⟨#[]⟩ : ByteArray) (([0] : List Int)) 0 0) = some (r1, r2, r3) := h
  clear h
  obtain ⟨y289, hy289⟩ : ∃ y_ : List Int, y_ = (([0] : List Int)) := ⟨_, rfl⟩
  replace H : (frisketref09_split.l0 k a0 (⟨#[]⟩ : ByteArray) y289 0 0) = some (r1, r2, r3) := by first | (rw [hy289]; with_reducible exact H) | (have H2_ := (Option.bind_some _ _).symm.trans H; rw [hy289]; with_reducible exact H2_) | (have H2_ := (Option.bind_some _ _).symm.trans H; with_reducible exact H2_) | with_reducible exact H | (rw [hy289]; exact H) | exact H
  have Ny289 := Aside0.mk hy289
  clear hy289
  have H' := Aside0.mk H
  clear H
  go_enter Tryd.func38, Tryd.ntmps38
  go_wp2_with (first | ((with_reducible refine gate_dst (N := 9) rfl ?_); (try (refine gate_guard (by rfl) ?_; dsimp only)); refine Kd.R_lit (Kd.int .i64) _ 3 ?hg (N := 9) ?hd (xs := ([0] : List Int)) (inner := [.int .i64 0]) (ok := fun _ => True) (okp := fun _ => True) ?hr ?hp (fun _ hk => hk) trivial (Below.refl _ _) (Nat.le_refl _) (by simp) ?_; (case hd => rfl); (case hg => rfl); (case hr => first | (go_simp; done) | (go_simp; rfl)); (case hp => exact (Reps.one (show Kd.M (Kd.int .i64) _ _ _ 0 [.int .i64 0] from rfl) (Reps.none _ _))); intro v290 w2 ho3 hb hg_ hnew_; clear hg_ hnew_; (first | rw [← Ny289.out] at ho3 | (simp only [Int.reduceToNat] at ho3; rw [← Ny289.out] at ho3)); have n0_ := Aside0.mk (Kd.R_lower ho3 (below_size (by repeat (first | (with_reducible first | exact HB.out | apply below_alloc | apply pw_below_drewN | apply below_drew1) | exact HB.out)))); have n1_ := Aside0.mk (below_step (by repeat (first | (with_reducible first | exact HB.out | apply below_alloc | apply pw_below_drewN | apply below_drew1) | exact HB.out)) hb); clear HB; have HO291 := n0_; have HB := n1_; clear n0_ n1_; clear hb ho3))
  go_loopg [5, 6, 7, 8] k (fun kq v5 v6 v7 v8 w' => ∃ (x5_1 : ByteArray) (x6_1 : List Int) (x7_1 : Int) (x8_1 : Int), v5 = .string x5_1 ∧ v7 = .int .i64 x7_1 ∧ v8 = .int .i64 x8_1 ∧ Aside0 (frisketref09_split.l0 kq a0 x5_1 x6_1 x7_1 x8_1 = some (r1, r2, r3)) ∧ Aside0 (kq ≤ k) ∧ Aside0 (Kd.R (Kd.int .i64) 3 w' w.heap.size (fun _ => True) v6 x6_1) ∧ Aside0 (Below w.heap.size w w'))
  case atStart => exact ⟨((⟨#[]⟩ : ByteArray)), (y289), (0), (0), (by first | rfl | (simp; done) | (simp [*]; done)), (by first | rfl | (simp; done) | (simp [*]; done)), (by first | rfl | (simp; done) | (simp [*]; done)), H', ⟨Nat.le_refl _⟩, ⟨by (with_reducible repeat (first | apply Kd.R_alloc | apply Kd.R_drewN | apply Kd.R_drew)); exact HO291.out⟩, ⟨by repeat (first | (with_reducible first | exact HB.out | apply below_alloc | apply pw_below_drewN | apply below_drew1) | exact HB.out)⟩⟩
  case round =>
    clear H'
    try clear p2
    try clear c3
    obtain ⟨x5_1, x6_1, x7_1, x8_1, rfl, rfl, rfl, HA, HK1, HO_6, HB⟩ := hrel
    cases gk with
    | zero => exact absurd HA.out (by simp [frisketref09_split.l0])
    | succ k1 =>
      have H := HA.out
      clear HA
      simp only [frisketref09_split.l0] at H
      by_cases c4 : x8_1 < (a0.size : Int)
      · rw [if_pos c4] at H
        have c4b0 : decide (x8_1 < (a0.size : Int)) = true := decide_eq_true c4
        clear c4
        have HC5 := Aside0.mk H
        clear H
        go_upto_region 7 with (fail)
        go_cut [16] (fun v16 wc => ∃ (kq : Nat) (x16_4 : Bool), v16 = .bool x16_4 ∧ Aside0 (frisketref09_split.j1 kq a0 x5_1 x6_1 x7_1 x8_1 x16_4 = some (r1, r2, r3)) ∧ Aside0 (kq ≤ k1) ∧ Aside0 (Kd.R (Kd.int .i64) 3 wc w.heap.size (fun _ => True) u6 x6_1) ∧ Aside0 (Below w.heap.size w wc))
        case first =>
          have H := HC5.out
          clear HC5
          by_cases c6 : 0 ≤ x8_1
          · rw [if_pos c6] at H
            have c6b0 : decide (0 ≤ x8_1) = true := decide_eq_true c6
            clear c6
            (first | rw [c6b0] | (simp only [i64_w, i32_w]; rw [c6b0]) | skip)
            by_cases c8 : (bt a0 x8_1) ≥ 49
            · rw [if_pos c8] at H
              have c8b0 : decide (49 ≤ (bt a0 x8_1)) = true := decide_eq_true c8
              clear c8
              have H' := Aside0.mk H
              clear H
              have p7 : 0 ≤ (x8_1 : Int) := of_decide_eq_true (by first | (with_reducible assumption) | assumption)
              have q7 : x8_1 < (a0.size : Int) := of_decide_eq_true (by first | (with_reducible assumption) | assumption)
              have hx7 := bt_at a0 x8_1
              replace p7 := eq_true p7
              replace q7 := eq_true q7
              have p9 : 0 ≤ (x8_1 : Int) := of_decide_eq_true (by first | (with_reducible assumption) | assumption)
              have q9 : x8_1 < (a0.size : Int) := of_decide_eq_true (by first | (with_reducible assumption) | assumption)
              have hx9 := bt_at a0 x8_1
              replace p9 := eq_true p9
              replace q9 := eq_true q9
              go_wp2
              go_meet
              case rel => exact ⟨_, (decide ((bt a0 x8_1) ≤ 57)), (by first | rfl | (simp; done) | (simp [*]; done)), H', ⟨by have := HK1.out; first | omega | exact Nat.le_refl _⟩, ⟨by (with_reducible repeat (first | apply Kd.R_alloc | apply Kd.R_drewN | apply Kd.R_drew)); exact HO_6.out⟩, ⟨by repeat (first | (with_reducible first | exact HB.out | apply below_alloc | apply pw_below_drewN | apply below_drew1) | exact HB.out)⟩⟩
            · rw [if_neg c8] at H
              have c8b0 : decide (49 ≤ (bt a0 x8_1)) = false := decide_eq_false c8
              clear c8
              have H' := Aside0.mk H
              clear H
              have p7 : 0 ≤ (x8_1 : Int) := of_decide_eq_true (by first | (with_reducible assumption) | assumption)
              have q7 : x8_1 < (a0.size : Int) := of_decide_eq_true (by first | (with_reducible assumption) | assumption)
              have hx7 := bt_at a0 x8_1
              replace p7 := eq_true p7
              replace q7 := eq_true q7
              go_wp2
              go_meet
              case rel => exact ⟨_, (false), (by first | rfl | (simp; done) | (simp [*]; done)), H', ⟨by have := HK1.out; first | omega | exact Nat.le_refl _⟩, ⟨by (with_reducible repeat (first | apply Kd.R_alloc | apply Kd.R_drewN | apply Kd.R_drew)); exact HO_6.out⟩, ⟨by repeat (first | (with_reducible first | exact HB.out | apply below_alloc | apply pw_below_drewN | apply below_drew1) | exact HB.out)⟩⟩
          · rw [if_neg c6] at H
            exact absurd H (by simp)
        case rest =>
          clear HC5
          try clear p2
          try clear c3
          try clear c4
          try clear c4b0
          try clear c6
          try clear c6b0
          try clear p7
          try clear q7
          try clear hx7
          try clear c8
          try clear c8b0
          try clear p9
          try clear q9
          try clear hx9
          try clear p2
          try clear p7
          try clear p9
          try clear q7
          try clear q9
          obtain ⟨kq, x16_4, rfl, HA, HJ4, HO_6, HB⟩ := hcut
          cases kq with
          | zero => exact absurd HA.out (by simp [frisketref09_split.j1])
          | succ kj4 =>
            have H := HA.out
            clear HA
            simp only [frisketref09_split.j1] at H
            by_cases c10 : x16_4 = true
            · subst c10
              have H1 : (if 0 ≤ (wrap64 ((x6_1.length : Int) - 1)) then (if (wrap64 ((x6_1.length : Int) - 1)) < (x6_1.length : Int) then (if (rd x6_1 (wrap64 ((x6_1.length : Int) - 1))) = 0 then (if x8_1 = 0 then (if (a0.size : Int) > 1 then (if 1 < (a0.size : Int) then (if (bt a0 1) = 46 then (some ((⟨#[]⟩ : ByteArray), ([] : List Int), false)) else (if x5_1.toList = ([] : List UInt8) then (if 0 ≤ x8_1 then (if x8_1 < (a0.size : Int) then (frisketref09_split.l0 kj4 a0 x5_1 (x6_1.set ((wrap64 ((x6_1.length : Int) - 1)) : Int).toNat (((bt a0 x8_1) - 48) % 256)) x7_1 (wrap64 (x8_1 + 1))) else (none)) else (none)) else (if x8_1 > 0 then (if 0 ≤ (wrap64 (x8_1 - 1)) then (if (wrap64 (x8_1 - 1)) < (a0.size : Int) then (if (bt a0 (wrap64 (x8_1 - 1))) = 46 then (if x8_1 > 1 then (some ((⟨#[]⟩ : ByteArray), ([] : List Int), false)) else (if 0 ≤ x8_1 then (if x8_1 < (a0.size : Int) then (frisketref09_split.l0 kj4 a0 x5_1 (x6_1.set ((wrap64 ((x6_1.length : Int) - 1)) : Int).toNat (((bt a0 x8_1) - 48) % 256)) x7_1 (wrap64 (x8_1 + 1))) else (none)) else (none))) else (if 0 ≤ x8_1 then (if x8_1 < (a0.size : Int) then (frisketref09_split.l0 kj4 a0 x5_1 (x6_1.set ((wrap64 ((x6_1.length : Int) - 1)) : Int).toNat (((bt a0 x8_1) - 48) % 256)) x7_1 (wrap64 (x8_1 + 1))) else (none)) else (none))) else (none)) else (none)) else (if 0 ≤ x8_1 then (if x8_1 < (a0.size : Int) then (frisketref09_split.l0 kj4 a0 x5_1 (x6_1.set ((wrap64 ((x6_1.length : Int) - 1)) : Int).toNat (((bt a0 x8_1) - 48) % 256)) x7_1 (wrap64 (x8_1 + 1))) else (none)) else (none))))) else (none)) else (if x5_1.toList = ([] : List UInt8) then (if 0 ≤ x8_1 then (if x8_1 < (a0.size : Int) then (frisketref09_split.l0 kj4 a0 x5_1 (x6_1.set ((wrap64 ((x6_1.length : Int) - 1)) : Int).toNat (((bt a0 x8_1) - 48) % 256)) x7_1 (wrap64 (x8_1 + 1))) else (none)) else (none)) else (if x8_1 > 0 then (if 0 ≤ (wrap64 (x8_1 - 1)) then (if (wrap64 (x8_1 - 1)) < (a0.size : Int) then (if (bt a0 (wrap64 (x8_1 - 1))) = 46 then (if x8_1 > 1 then (some ((⟨#[]⟩ : ByteArray), ([] : List Int), false)) else (if 0 ≤ x8_1 then (if x8_1 < (a0.size : Int) then (frisketref09_split.l0 kj4 a0 x5_1 (x6_1.set ((wrap64 ((x6_1.length : Int) - 1)) : Int).toNat (((bt a0 x8_1) - 48) % 256)) x7_1 (wrap64 (x8_1 + 1))) else (none)) else (none))) else (if 0 ≤ x8_1 then (if x8_1 < (a0.size : Int) then (frisketref09_split.l0 kj4 a0 x5_1 (x6_1.set ((wrap64 ((x6_1.length : Int) - 1)) : Int).toNat (((bt a0 x8_1) - 48) % 256)) x7_1 (wrap64 (x8_1 + 1))) else (none)) else (none))) else (none)) else (none)) else (if 0 ≤ x8_1 then (if x8_1 < (a0.size : Int) then (frisketref09_split.l0 kj4 a0 x5_1 (x6_1.set ((wrap64 ((x6_1.length : Int) - 1)) : Int).toNat (((bt a0 x8_1) - 48) % 256)) x7_1 (wrap64 (x8_1 + 1))) else (none)) else (none))))) else (if x5_1.toList = ([] : List UInt8) then (if 0 ≤ x8_1 then (if x8_1 < (a0.size : Int) then (frisketref09_split.l0 kj4 a0 x5_1 (x6_1.set ((wrap64 ((x6_1.length : Int) - 1)) : Int).toNat (((bt a0 x8_1) - 48) % 256)) x7_1 (wrap64 (x8_1 + 1))) else (none)) else (none)) else (if x8_1 > 0 then (if 0 ≤ (wrap64 (x8_1 - 1)) then (if (wrap64 (x8_1 - 1)) < (a0.size : Int) then (if (bt a0 (wrap64 (x8_1 - 1))) = 46 then (if x8_1 > 1 then (some ((⟨#[]⟩ : ByteArray), ([] : List Int), false)) else (if 0 ≤ x8_1 then (if x8_1 < (a0.size : Int) then (frisketref09_split.l0 kj4 a0 x5_1 (x6_1.set ((wrap64 ((x6_1.length : Int) - 1)) : Int).toNat (((bt a0 x8_1) - 48) % 256)) x7_1 (wrap64 (x8_1 + 1))) else (none)) else (none))) else (if 0 ≤ x8_1 then (if x8_1 < (a0.size : Int) then (frisketref09_split.l0 kj4 a0 x5_1 (x6_1.set ((wrap64 ((x6_1.length : Int) - 1)) : Int).toNat (((bt a0 x8_1) - 48) % 256)) x7_1 (wrap64 (x8_1 + 1))) else (none)) else (none))) else (none)) else (none)) else (if 0 ≤ x8_1 then (if x8_1 < (a0.size : Int) then (frisketref09_split.l0 kj4 a0 x5_1 (x6_1.set ((wrap64 ((x6_1.length : Int) - 1)) : Int).toNat (((bt a0 x8_1) - 48) % 256)) x7_1 (wrap64 (x8_1 + 1))) else (none)) else (none))))) else (some ((⟨#[]⟩ : ByteArray), ([] : List Int), false))) else (none)) else (none)) = some (r1, r2, r3) := by rw [if_pos rfl] at H; exact H
              clear H
              have H := H1
              clear H1
              obtain ⟨ji11, hji11⟩ : ∃ j_ : Int, (wrap64 ((x6_1.length : Int) - 1)) = j_ := ⟨_, rfl⟩
              replace H : (if 0 ≤ (ji11) then (if (ji11) < (x6_1.length : Int) then (if (rd x6_1 (ji11)) = 0 then (if x8_1 = 0 then (if (a0.size : Int) > 1 then (if 1 < (a0.size : Int) then (if (bt a0 1) = 46 then (some ((⟨#[]⟩ : ByteArray), ([] : List Int), false)) else (if x5_1.toList = ([] : List UInt8) then (if 0 ≤ x8_1 then (if x8_1 < (a0.size : Int) then (frisketref09_split.l0 kj4 a0 x5_1 (x6_1.set ((ji11) : Int).toNat (((bt a0 x8_1) - 48) % 256)) x7_1 (wrap64 (x8_1 + 1))) else (none)) else (none)) else (if x8_1 > 0 then (if 0 ≤ (wrap64 (x8_1 - 1)) then (if (wrap64 (x8_1 - 1)) < (a0.size : Int) then (if (bt a0 (wrap64 (x8_1 - 1))) = 46 then (if x8_1 > 1 then (some ((⟨#[]⟩ : ByteArray), ([] : List Int), false)) else (if 0 ≤ x8_1 then (if x8_1 < (a0.size : Int) then (frisketref09_split.l0 kj4 a0 x5_1 (x6_1.set ((ji11) : Int).toNat (((bt a0 x8_1) - 48) % 256)) x7_1 (wrap64 (x8_1 + 1))) else (none)) else (none))) else (if 0 ≤ x8_1 then (if x8_1 < (a0.size : Int) then (frisketref09_split.l0 kj4 a0 x5_1 (x6_1.set ((ji11) : Int).toNat (((bt a0 x8_1) - 48) % 256)) x7_1 (wrap64 (x8_1 + 1))) else (none)) else (none))) else (none)) else (none)) else (if 0 ≤ x8_1 then (if x8_1 < (a0.size : Int) then (frisketref09_split.l0 kj4 a0 x5_1 (x6_1.set ((ji11) : Int).toNat (((bt a0 x8_1) - 48) % 256)) x7_1 (wrap64 (x8_1 + 1))) else (none)) else (none))))) else (none)) else (if x5_1.toList = ([] : List UInt8) then (if 0 ≤ x8_1 then (if x8_1 < (a0.size : Int) then (frisketref09_split.l0 kj4 a0 x5_1 (x6_1.set ((ji11) : Int).toNat (((bt a0 x8_1) - 48) % 256)) x7_1 (wrap64 (x8_1 + 1))) else (none)) else (none)) else (if x8_1 > 0 then (if 0 ≤ (wrap64 (x8_1 - 1)) then (if (wrap64 (x8_1 - 1)) < (a0.size : Int) then (if (bt a0 (wrap64 (x8_1 - 1))) = 46 then (if x8_1 > 1 then (some ((⟨#[]⟩ : ByteArray), ([] : List Int), false)) else (if 0 ≤ x8_1 then (if x8_1 < (a0.size : Int) then (frisketref09_split.l0 kj4 a0 x5_1 (x6_1.set ((ji11) : Int).toNat (((bt a0 x8_1) - 48) % 256)) x7_1 (wrap64 (x8_1 + 1))) else (none)) else (none))) else (if 0 ≤ x8_1 then (if x8_1 < (a0.size : Int) then (frisketref09_split.l0 kj4 a0 x5_1 (x6_1.set ((ji11) : Int).toNat (((bt a0 x8_1) - 48) % 256)) x7_1 (wrap64 (x8_1 + 1))) else (none)) else (none))) else (none)) else (none)) else (if 0 ≤ x8_1 then (if x8_1 < (a0.size : Int) then (frisketref09_split.l0 kj4 a0 x5_1 (x6_1.set ((ji11) : Int).toNat (((bt a0 x8_1) - 48) % 256)) x7_1 (wrap64 (x8_1 + 1))) else (none)) else (none))))) else (if x5_1.toList = ([] : List UInt8) then (if 0 ≤ x8_1 then (if x8_1 < (a0.size : Int) then (frisketref09_split.l0 kj4 a0 x5_1 (x6_1.set ((ji11) : Int).toNat (((bt a0 x8_1) - 48) % 256)) x7_1 (wrap64 (x8_1 + 1))) else (none)) else (none)) else (if x8_1 > 0 then (if 0 ≤ (wrap64 (x8_1 - 1)) then (if (wrap64 (x8_1 - 1)) < (a0.size : Int) then (if (bt a0 (wrap64 (x8_1 - 1))) = 46 then (if x8_1 > 1 then (some ((⟨#[]⟩ : ByteArray), ([] : List Int), false)) else (if 0 ≤ x8_1 then (if x8_1 < (a0.size : Int) then (frisketref09_split.l0 kj4 a0 x5_1 (x6_1.set ((ji11) : Int).toNat (((bt a0 x8_1) - 48) % 256)) x7_1 (wrap64 (x8_1 + 1))) else (none)) else (none))) else (if 0 ≤ x8_1 then (if x8_1 < (a0.size : Int) then (frisketref09_split.l0 kj4 a0 x5_1 (x6_1.set ((ji11) : Int).toNat (((bt a0 x8_1) - 48) % 256)) x7_1 (wrap64 (x8_1 + 1))) else (none)) else (none))) else (none)) else (none)) else (if 0 ≤ x8_1 then (if x8_1 < (a0.size : Int) then (frisketref09_split.l0 kj4 a0 x5_1 (x6_1.set ((ji11) : Int).toNat (((bt a0 x8_1) - 48) % 256)) x7_1 (wrap64 (x8_1 + 1))) else (none)) else (none))))) else (some ((⟨#[]⟩ : ByteArray), ([] : List Int), false))) else (none)) else (none)) = some (r1, r2, r3) := by first | (rw [hji11] at H; exact H) | (simp only [hji11] at H ⊢; exact H)
              have hji11w : (IntKind.i64.wrap ((x6_1.length : Int) - 1)) = ji11 := (i64_w _).trans hji11
              by_cases c12 : 0 ≤ (ji11)
              · rw [if_pos c12] at H
                have c12b0 : decide (0 ≤ (ji11)) = true := decide_eq_true c12
                clear c12
                by_cases c13 : (ji11) < (x6_1.length : Int)
                · rw [if_pos c13] at H
                  have c13b0 : decide ((ji11) < (x6_1.length : Int)) = true := decide_eq_true c13
                  clear c13
                  by_cases c14 : (rd x6_1 (ji11)) = 0
                  · rw [if_pos c14] at H
                    have c14b0 : ((rd x6_1 (ji11)) == 0) = true := beq_iff_eq.mpr c14
                    have c14b1 : ((rd x6_1 (ji11)) != 0) = false := bne_eq_false_iff_eq.mpr c14
                    clear c14
                    by_cases c15 : x8_1 = 0
                    · rw [if_pos c15] at H
                      have c15b0 : (x8_1 == 0) = true := beq_iff_eq.mpr c15
                      have c15b1 : (x8_1 != 0) = false := bne_eq_false_iff_eq.mpr c15
                      clear c15
                      by_cases c16 : (a0.size : Int) > 1
                      · rw [if_pos c16] at H
                        have c16b0 : decide (1 < (a0.size : Int)) = true := decide_eq_true c16
                        have c16b1 : decide (1 < a0.size) = true := decide_eq_true (by omega)
                        clear c16
                        by_cases c17 : 1 < (a0.size : Int)
                        · rw [if_pos c17] at H
                          have c17b0 : decide (1 < (a0.size : Int)) = true := decide_eq_true c17
                          have c17b1 : decide (1 < a0.size) = true := decide_eq_true (by omega)
                          clear c17
                          by_cases c19 : (bt a0 1) = 46
                          · rw [if_pos c19] at H
                            have c19b0 : ((bt a0 1) == 46) = true := beq_iff_eq.mpr c19
                            have c19b1 : ((bt a0 1) != 46) = false := bne_eq_false_iff_eq.mpr c19
                            clear c19
                            simp only [Option.some.injEq, Prod.mk.injEq] at H
                            obtain ⟨rfl, rfl, rfl⟩ := H
                            obtain ⟨Ao20, co20, eo20⟩ := Kd.R_slice HO_6.out
                            subst eo20
                            have p292 : 0 ≤ ((ji11) : Int) := of_decide_eq_true (by first | (with_reducible assumption) | assumption)
                            have q292 : (ji11) < (x6_1.length : Int) := of_decide_eq_true (by first | (with_reducible assumption) | assumption)
                            obtain ⟨ad292, e292, hx292_0⟩ := Kd.at_int (Kd.R_reads' HO_6.out).2.2 (ji11) p292 q292
                            cases e292
                            replace p292 := eq_true p292
                            replace q292 := eq_true q292
                            have p18 : 0 ≤ (1 : Int) := (by omega)
                            have q18 : 1 < a0.size := (by have : (1 : Int) < (a0.size : Int) := of_decide_eq_true (by first | (with_reducible assumption) | assumption); omega)
                            have hx18 : ∀ h : 1 < a0.size, ((a0[1]'h).toNat : Int) = bt a0 1 := bt_at a0 1
                            clear p18
                            have qi18 : (1 < (a0.size : Int)) = True := eq_true (of_decide_eq_true (by first | (with_reducible assumption) | assumption))
                            replace q18 := eq_true q18
                            go_wp2
                            go_ret3
                            exact ⟨_, by first | rfl | (simp [errW_none, errW_some] <;> rfl) | (simp only [← hji11]; first | rfl | (simp [errW_none, errW_some] <;> rfl)) | (simp [*, errW_none, errW_some] <;> rfl), by first | exact Kd.R_nil _ _ _ _ _ | exact Kd.N_nil _ _ _ _ _ | exact Kd.V_nil _ _ _ _ _ | exact Kd.Q_nil _ _ _ _ _ | exact Kd.S_nil _ _ _ _ _, by repeat (first | (with_reducible first | exact HB.out | apply below_alloc | apply pw_below_drewN | apply below_drew1) | exact HB.out)⟩
                          · rw [if_neg c19] at H
                            have c19b0 : ((bt a0 1) == 46) = false := beq_eq_false_iff_ne.mpr c19
                            have c19b1 : ((bt a0 1) != 46) = true := bne_iff_ne.mpr c19
                            by_cases c21 : x5_1.toList = ([] : List UInt8)
                            · rw [if_pos c21] at H
                              have c21b0 : (x5_1.toList == ([] : List UInt8)) = true := beq_iff_eq.mpr c21
                              have c21b1 : (x5_1.toList != ([] : List UInt8)) = false := bne_eq_false_iff_eq.mpr c21
                              clear c21
                              by_cases c22 : 0 ≤ x8_1
                              · rw [if_pos c22] at H
                                have c22b0 : decide (0 ≤ x8_1) = true := decide_eq_true c22
                                clear c22
                                by_cases c23 : x8_1 < (a0.size : Int)
                                · rw [if_pos c23] at H
                                  have c23b0 : decide (x8_1 < (a0.size : Int)) = true := decide_eq_true c23
                                  clear c23
                                  obtain ⟨y293, hy293⟩ : ∃ y_ : List Int, y_ = (x6_1.set ((ji11) : Int).toNat (((bt a0 x8_1) - 48) % 256)) := ⟨_, rfl⟩
                                  replace H : (frisketref09_split.l0 kj4 a0 x5_1 y293 x7_1 (wrap64 (x8_1 + 1))) = some (r1, r2, r3) := by first | (rw [hy293]; with_reducible exact H) | (have H2_ := (Option.bind_some _ _).symm.trans H; rw [hy293]; with_reducible exact H2_) | (have H2_ := (Option.bind_some _ _).symm.trans H; with_reducible exact H2_) | with_reducible exact H | (rw [hy293]; exact H) | exact H
                                  have Ny293 := Aside0.mk hy293
                                  clear hy293
                                  have H' := Aside0.mk H
                                  clear H
                                  obtain ⟨Ao26, co26, eo26⟩ := Kd.R_slice HO_6.out
                                  subst eo26
                                  have p292 : 0 ≤ ((ji11) : Int) := of_decide_eq_true (by first | (with_reducible assumption) | assumption)
                                  have q292 : (ji11) < (x6_1.length : Int) := of_decide_eq_true (by first | (with_reducible assumption) | assumption)
                                  obtain ⟨ad292, e292, hx292_0⟩ := Kd.at_int (Kd.R_reads' HO_6.out).2.2 (ji11) p292 q292
                                  cases e292
                                  replace p292 := eq_true p292
                                  replace q292 := eq_true q292
                                  have p18 : 0 ≤ (1 : Int) := (by omega)
                                  have q18 : 1 < a0.size := (by have : (1 : Int) < (a0.size : Int) := of_decide_eq_true (by first | (with_reducible assumption) | assumption); omega)
                                  have hx18 : ∀ h : 1 < a0.size, ((a0[1]'h).toNat : Int) = bt a0 1 := bt_at a0 1
                                  clear p18
                                  have qi18 : (1 < (a0.size : Int)) = True := eq_true (of_decide_eq_true (by first | (with_reducible assumption) | assumption))
                                  replace q18 := eq_true q18
                                  have p24 : 0 ≤ (x8_1 : Int) := of_decide_eq_true (by first | (with_reducible assumption) | assumption)
                                  have q24 : x8_1 < (a0.size : Int) := of_decide_eq_true (by first | (with_reducible assumption) | assumption)
                                  have hx24 := bt_at a0 x8_1
                                  replace p24 := eq_true p24
                                  replace q24 := eq_true q24
                                  have p25 : 0 ≤ ((ji11) : Int) := of_decide_eq_true (by first | (with_reducible assumption) | assumption)
                                  have q25 : ((ji11) : Int) < ((x6_1.length : Int) : Int) := of_decide_eq_true (by first | (with_reducible assumption) | assumption)
                                  obtain ⟨go25, co25, eo25, gb25, gl25, cl25, HG25⟩ := Kd.R_form HO_6.out (by omega)
                                  (first | cases eo25 | (injection eo25 with ea_ en_ ec_; (first | subst ea_ | (injection ea_ with ea_; subst ea_)); subst ec_; clear en_))
                                  have GB25 := Aside0.mk gb25
                                  have GG25 := Aside0.mk HG25
                                  clear gb25 gl25 HG25
                                  (first | simp only [add_plain] at hx292_0 | skip)
                                  obtain ⟨hx25_0, hf25_0⟩ := Kd.R_celln 0 HO_6.out ((ji11) : Int) p25 q25
                                  replace p25 := eq_true p25
                                  replace q25 := eq_true q25
                                  have HP27 := Kd.R_putg HO_6.out ((ji11) : Int) (((bt a0 x8_1) - 48) % 256)
                                  go_wp2_with (first | ((with_reducible refine gate_store (t := 3) (p := 76) rfl ?_); refine store_event (t := 3) (p := 76) (v := ?vo_w28) (w1 := (wc.setCell ⟨go25, ((ji11) : Int).toNat, none⟩ (.int .i64 (((bt a0 x8_1) - 48) % 256)))) ?hg ?ho ?hn ?hr ?_; (case ho => rfl); (case hg => rfl); (case hn => rfl); (case hr => first | (go_simp; done) | (go_simp; rfl)); intro w28 hw; have hg : wc.grownBy w28 (some go25) := (by rw [hw]; exact HP27.2); have hp_ : Kd.R (Kd.int .i64) 3 w28 w.heap.size (fun _ => True) (.slice (some ⟨go25, 0, none⟩) x6_1.length co26) y293 := (by rw [hw, Ny293.out]; exact HP27.1); clear HP27; have n0_ := Aside0.mk (hp_); have n1_ := Aside0.mk ((by rw [hw]; exact below_set (HB.out) GB25.out : Below w.heap.size w w28)); clear HO_6; clear HB; have HO_6 := n0_; have HB := n1_; clear n0_ n1_; clear hg hw hp_))
                                  go_roundg kj4
                                  case measure => have := HK1.out; have := HJ4.out; omega
                                  case rel => exact ⟨(x5_1), (y293), (x7_1), (wrap64 (x8_1 + 1)), (by first | rfl | (simp; done) | (simp [*]; done)), (by first | rfl | (simp; done) | (simp [*]; done)), (by first | rfl | (simp; done) | (simp [*]; done)), H', ⟨by have := HK1.out; have := HJ4.out; omega⟩, ⟨by (with_reducible repeat (first | apply Kd.R_alloc | apply Kd.R_drewN | apply Kd.R_drew)); exact HO_6.out⟩, ⟨by repeat (first | (with_reducible first | exact HB.out | apply below_alloc | apply pw_below_drewN | apply below_drew1) | exact HB.out)⟩⟩
                                · rw [if_neg c23] at H
                                  exact absurd H (by simp)
                              · rw [if_neg c22] at H
                                exact absurd H (by simp)
                            · rw [if_neg c21] at H
                              have c21b0 : (x5_1.toList == ([] : List UInt8)) = false := beq_eq_false_iff_ne.mpr c21
                              have c21b1 : (x5_1.toList != ([] : List UInt8)) = true := bne_iff_ne.mpr c21
                              by_cases c29 : x8_1 > 0
                              · rw [if_pos c29] at H
                                have c29b0 : decide (0 < x8_1) = true := decide_eq_true c29
                                clear c29
                                obtain ⟨ji30, hji30⟩ : ∃ j_ : Int, (wrap64 (x8_1 - 1)) = j_ := ⟨_, rfl⟩
                                replace H : (if 0 ≤ (ji30) then (if (ji30) < (a0.size : Int) then (if (bt a0 (ji30)) = 46 then (if x8_1 > 1 then (some ((⟨#[]⟩ : ByteArray), ([] : List Int), false)) else (if 0 ≤ x8_1 then (if x8_1 < (a0.size : Int) then (frisketref09_split.l0 kj4 a0 x5_1 (x6_1.set ((ji11) : Int).toNat (((bt a0 x8_1) - 48) % 256)) x7_1 (wrap64 (x8_1 + 1))) else (none)) else (none))) else (if 0 ≤ x8_1 then (if x8_1 < (a0.size : Int) then (frisketref09_split.l0 kj4 a0 x5_1 (x6_1.set ((ji11) : Int).toNat (((bt a0 x8_1) - 48) % 256)) x7_1 (wrap64 (x8_1 + 1))) else (none)) else (none))) else (none)) else (none)) = some (r1, r2, r3) := by first | (rw [hji30] at H; exact H) | (simp only [hji30] at H ⊢; exact H)
                                have hji30w : (IntKind.i64.wrap (x8_1 - 1)) = ji30 := (i64_w _).trans hji30
                                by_cases c31 : 0 ≤ (ji30)
                                · rw [if_pos c31] at H
                                  have c31b0 : decide (0 ≤ (ji30)) = true := decide_eq_true c31
                                  clear c31
                                  by_cases c32 : (ji30) < (a0.size : Int)
                                  · rw [if_pos c32] at H
                                    have c32b0 : decide ((ji30) < (a0.size : Int)) = true := decide_eq_true c32
                                    clear c32
                                    by_cases c34 : (bt a0 (ji30)) = 46
                                    · rw [if_pos c34] at H
                                      have c34b0 : ((bt a0 (ji30)) == 46) = true := beq_iff_eq.mpr c34
                                      have c34b1 : ((bt a0 (ji30)) != 46) = false := bne_eq_false_iff_eq.mpr c34
                                      clear c34
                                      by_cases c35 : x8_1 > 1
                                      · rw [if_pos c35] at H
                                        have c35b0 : decide (1 < x8_1) = true := decide_eq_true c35
                                        clear c35
                                        simp only [Option.some.injEq, Prod.mk.injEq] at H
                                        obtain ⟨rfl, rfl, rfl⟩ := H
                                        obtain ⟨Ao36, co36, eo36⟩ := Kd.R_slice HO_6.out
                                        subst eo36
                                        have p292 : 0 ≤ ((ji11) : Int) := of_decide_eq_true (by first | (with_reducible assumption) | assumption)
                                        have q292 : (ji11) < (x6_1.length : Int) := of_decide_eq_true (by first | (with_reducible assumption) | assumption)
                                        obtain ⟨ad292, e292, hx292_0⟩ := Kd.at_int (Kd.R_reads' HO_6.out).2.2 (ji11) p292 q292
                                        cases e292
                                        replace p292 := eq_true p292
                                        replace q292 := eq_true q292
                                        have p18 : 0 ≤ (1 : Int) := (by omega)
                                        have q18 : 1 < a0.size := (by have : (1 : Int) < (a0.size : Int) := of_decide_eq_true (by first | (with_reducible assumption) | assumption); omega)
                                        have hx18 : ∀ h : 1 < a0.size, ((a0[1]'h).toNat : Int) = bt a0 1 := bt_at a0 1
                                        clear p18
                                        have qi18 : (1 < (a0.size : Int)) = True := eq_true (of_decide_eq_true (by first | (with_reducible assumption) | assumption))
                                        replace q18 := eq_true q18
                                        have p33 : 0 ≤ ((ji30) : Int) := of_decide_eq_true (by first | (with_reducible assumption) | assumption)
                                        have q33 : (ji30) < (a0.size : Int) := of_decide_eq_true (by first | (with_reducible assumption) | assumption)
                                        have hx33 := bt_at a0 (ji30)
                                        replace p33 := eq_true p33
                                        replace q33 := eq_true q33
                                        go_wp2
                                        go_ret3
                                        exact ⟨_, by first | rfl | (simp [errW_none, errW_some] <;> rfl) | (simp only [← hji11, ← hji30]; first | rfl | (simp [errW_none, errW_some] <;> rfl)) | (simp [*, errW_none, errW_some] <;> rfl), by first | exact Kd.R_nil _ _ _ _ _ | exact Kd.N_nil _ _ _ _ _ | exact Kd.V_nil _ _ _ _ _ | exact Kd.Q_nil _ _ _ _ _ | exact Kd.S_nil _ _ _ _ _, by repeat (first | (with_reducible first | exact HB.out | apply below_alloc | apply pw_below_drewN | apply below_drew1) | exact HB.out)⟩
                                      · rw [if_neg c35] at H
                                        have c35b0 : decide (1 < x8_1) = false := decide_eq_false c35
                                        clear c35
                                        by_cases c37 : 0 ≤ x8_1
                                        · rw [if_pos c37] at H
                                          have c37b0 : decide (0 ≤ x8_1) = true := decide_eq_true c37
                                          clear c37
                                          by_cases c38 : x8_1 < (a0.size : Int)
                                          · rw [if_pos c38] at H
                                            have c38b0 : decide (x8_1 < (a0.size : Int)) = true := decide_eq_true c38
                                            clear c38
                                            obtain ⟨y294, hy294⟩ : ∃ y_ : List Int, y_ = (x6_1.set ((ji11) : Int).toNat (((bt a0 x8_1) - 48) % 256)) := ⟨_, rfl⟩
                                            replace H : (frisketref09_split.l0 kj4 a0 x5_1 y294 x7_1 (wrap64 (x8_1 + 1))) = some (r1, r2, r3) := by first | (rw [hy294]; with_reducible exact H) | (have H2_ := (Option.bind_some _ _).symm.trans H; rw [hy294]; with_reducible exact H2_) | (have H2_ := (Option.bind_some _ _).symm.trans H; with_reducible exact H2_) | with_reducible exact H | (rw [hy294]; exact H) | exact H
                                            have Ny294 := Aside0.mk hy294
                                            clear hy294
                                            have H' := Aside0.mk H
                                            clear H
                                            obtain ⟨Ao41, co41, eo41⟩ := Kd.R_slice HO_6.out
                                            subst eo41
                                            have p292 : 0 ≤ ((ji11) : Int) := of_decide_eq_true (by first | (with_reducible assumption) | assumption)
                                            have q292 : (ji11) < (x6_1.length : Int) := of_decide_eq_true (by first | (with_reducible assumption) | assumption)
                                            obtain ⟨ad292, e292, hx292_0⟩ := Kd.at_int (Kd.R_reads' HO_6.out).2.2 (ji11) p292 q292
                                            cases e292
                                            replace p292 := eq_true p292
                                            replace q292 := eq_true q292
                                            have p18 : 0 ≤ (1 : Int) := (by omega)
                                            have q18 : 1 < a0.size := (by have : (1 : Int) < (a0.size : Int) := of_decide_eq_true (by first | (with_reducible assumption) | assumption); omega)
                                            have hx18 : ∀ h : 1 < a0.size, ((a0[1]'h).toNat : Int) = bt a0 1 := bt_at a0 1
                                            clear p18
                                            have qi18 : (1 < (a0.size : Int)) = True := eq_true (of_decide_eq_true (by first | (with_reducible assumption) | assumption))
                                            replace q18 := eq_true q18
                                            have p33 : 0 ≤ ((ji30) : Int) := of_decide_eq_true (by first | (with_reducible assumption) | assumption)
                                            have q33 : (ji30) < (a0.size : Int) := of_decide_eq_true (by first | (with_reducible assumption) | assumption)
                                            have hx33 := bt_at a0 (ji30)
                                            replace p33 := eq_true p33
                                            replace q33 := eq_true q33
                                            have p39 : 0 ≤ (x8_1 : Int) := of_decide_eq_true (by first | (with_reducible assumption) | assumption)
                                            have q39 : x8_1 < (a0.size : Int) := of_decide_eq_true (by first | (with_reducible assumption) | assumption)
                                            have hx39 := bt_at a0 x8_1
                                            replace p39 := eq_true p39
                                            replace q39 := eq_true q39
                                            have p40 : 0 ≤ ((ji11) : Int) := of_decide_eq_true (by first | (with_reducible assumption) | assumption)
                                            have q40 : ((ji11) : Int) < ((x6_1.length : Int) : Int) := of_decide_eq_true (by first | (with_reducible assumption) | assumption)
                                            obtain ⟨go40, co40, eo40, gb40, gl40, cl40, HG40⟩ := Kd.R_form HO_6.out (by omega)
                                            (first | cases eo40 | (injection eo40 with ea_ en_ ec_; (first | subst ea_ | (injection ea_ with ea_; subst ea_)); subst ec_; clear en_))
                                            have GB40 := Aside0.mk gb40
                                            have GG40 := Aside0.mk HG40
                                            clear gb40 gl40 HG40
                                            (first | simp only [add_plain] at hx292_0 | skip)
                                            obtain ⟨hx40_0, hf40_0⟩ := Kd.R_celln 0 HO_6.out ((ji11) : Int) p40 q40
                                            replace p40 := eq_true p40
                                            replace q40 := eq_true q40
                                            have HP42 := Kd.R_putg HO_6.out ((ji11) : Int) (((bt a0 x8_1) - 48) % 256)
                                            go_wp2_with (first | ((with_reducible refine gate_store (t := 3) (p := 76) rfl ?_); refine store_event (t := 3) (p := 76) (v := ?vo_w43) (w1 := (wc.setCell ⟨go40, ((ji11) : Int).toNat, none⟩ (.int .i64 (((bt a0 x8_1) - 48) % 256)))) ?hg ?ho ?hn ?hr ?_; (case ho => rfl); (case hg => rfl); (case hn => rfl); (case hr => first | (go_simp; done) | (go_simp; rfl)); intro w43 hw; have hg : wc.grownBy w43 (some go40) := (by rw [hw]; exact HP42.2); have hp_ : Kd.R (Kd.int .i64) 3 w43 w.heap.size (fun _ => True) (.slice (some ⟨go40, 0, none⟩) x6_1.length co41) y294 := (by rw [hw, Ny294.out]; exact HP42.1); clear HP42; have n0_ := Aside0.mk (hp_); have n1_ := Aside0.mk ((by rw [hw]; exact below_set (HB.out) GB40.out : Below w.heap.size w w43)); clear HO_6; clear HB; have HO_6 := n0_; have HB := n1_; clear n0_ n1_; clear hg hw hp_))
                                            go_roundg kj4
                                            case measure => have := HK1.out; have := HJ4.out; omega
                                            case rel => exact ⟨(x5_1), (y294), (x7_1), (wrap64 (x8_1 + 1)), (by first | rfl | (simp; done) | (simp [*]; done)), (by first | rfl | (simp; done) | (simp [*]; done)), (by first | rfl | (simp; done) | (simp [*]; done)), H', ⟨by have := HK1.out; have := HJ4.out; omega⟩, ⟨by (with_reducible repeat (first | apply Kd.R_alloc | apply Kd.R_drewN | apply Kd.R_drew)); exact HO_6.out⟩, ⟨by repeat (first | (with_reducible first | exact HB.out | apply below_alloc | apply pw_below_drewN | apply below_drew1) | exact HB.out)⟩⟩
                                          · rw [if_neg c38] at H
                                            exact absurd H (by simp)
                                        · rw [if_neg c37] at H
                                          exact absurd H (by simp)
                                    · rw [if_neg c34] at H
                                      have c34b0 : ((bt a0 (ji30)) == 46) = false := beq_eq_false_iff_ne.mpr c34
                                      have c34b1 : ((bt a0 (ji30)) != 46) = true := bne_iff_ne.mpr c34
                                      by_cases c44 : 0 ≤ x8_1
                                      · rw [if_pos c44] at H
                                        have c44b0 : decide (0 ≤ x8_1) = true := decide_eq_true c44
                                        clear c44
                                        by_cases c45 : x8_1 < (a0.size : Int)
                                        · rw [if_pos c45] at H
                                          have c45b0 : decide (x8_1 < (a0.size : Int)) = true := decide_eq_true c45
                                          clear c45
                                          obtain ⟨y295, hy295⟩ : ∃ y_ : List Int, y_ = (x6_1.set ((ji11) : Int).toNat (((bt a0 x8_1) - 48) % 256)) := ⟨_, rfl⟩
                                          replace H : (frisketref09_split.l0 kj4 a0 x5_1 y295 x7_1 (wrap64 (x8_1 + 1))) = some (r1, r2, r3) := by first | (rw [hy295]; with_reducible exact H) | (have H2_ := (Option.bind_some _ _).symm.trans H; rw [hy295]; with_reducible exact H2_) | (have H2_ := (Option.bind_some _ _).symm.trans H; with_reducible exact H2_) | with_reducible exact H | (rw [hy295]; exact H) | exact H
                                          have Ny295 := Aside0.mk hy295
                                          clear hy295
                                          have H' := Aside0.mk H
                                          clear H
                                          obtain ⟨Ao48, co48, eo48⟩ := Kd.R_slice HO_6.out
                                          subst eo48
                                          have p292 : 0 ≤ ((ji11) : Int) := of_decide_eq_true (by first | (with_reducible assumption) | assumption)
                                          have q292 : (ji11) < (x6_1.length : Int) := of_decide_eq_true (by first | (with_reducible assumption) | assumption)
                                          obtain ⟨ad292, e292, hx292_0⟩ := Kd.at_int (Kd.R_reads' HO_6.out).2.2 (ji11) p292 q292
                                          cases e292
                                          replace p292 := eq_true p292
                                          replace q292 := eq_true q292
                                          have p18 : 0 ≤ (1 : Int) := (by omega)
                                          have q18 : 1 < a0.size := (by have : (1 : Int) < (a0.size : Int) := of_decide_eq_true (by first | (with_reducible assumption) | assumption); omega)
                                          have hx18 : ∀ h : 1 < a0.size, ((a0[1]'h).toNat : Int) = bt a0 1 := bt_at a0 1
                                          clear p18
                                          have qi18 : (1 < (a0.size : Int)) = True := eq_true (of_decide_eq_true (by first | (with_reducible assumption) | assumption))
                                          replace q18 := eq_true q18
                                          have p33 : 0 ≤ ((ji30) : Int) := of_decide_eq_true (by first | (with_reducible assumption) | assumption)
                                          have q33 : (ji30) < (a0.size : Int) := of_decide_eq_true (by first | (with_reducible assumption) | assumption)
                                          have hx33 := bt_at a0 (ji30)
                                          replace p33 := eq_true p33
                                          replace q33 := eq_true q33
                                          have p46 : 0 ≤ (x8_1 : Int) := of_decide_eq_true (by first | (with_reducible assumption) | assumption)
                                          have q46 : x8_1 < (a0.size : Int) := of_decide_eq_true (by first | (with_reducible assumption) | assumption)
                                          have hx46 := bt_at a0 x8_1
                                          replace p46 := eq_true p46
                                          replace q46 := eq_true q46
                                          have p47 : 0 ≤ ((ji11) : Int) := of_decide_eq_true (by first | (with_reducible assumption) | assumption)
                                          have q47 : ((ji11) : Int) < ((x6_1.length : Int) : Int) := of_decide_eq_true (by first | (with_reducible assumption) | assumption)
                                          obtain ⟨go47, co47, eo47, gb47, gl47, cl47, HG47⟩ := Kd.R_form HO_6.out (by omega)
                                          (first | cases eo47 | (injection eo47 with ea_ en_ ec_; (first | subst ea_ | (injection ea_ with ea_; subst ea_)); subst ec_; clear en_))
                                          have GB47 := Aside0.mk gb47
                                          have GG47 := Aside0.mk HG47
                                          clear gb47 gl47 HG47
                                          (first | simp only [add_plain] at hx292_0 | skip)
                                          obtain ⟨hx47_0, hf47_0⟩ := Kd.R_celln 0 HO_6.out ((ji11) : Int) p47 q47
                                          replace p47 := eq_true p47
                                          replace q47 := eq_true q47
                                          have HP49 := Kd.R_putg HO_6.out ((ji11) : Int) (((bt a0 x8_1) - 48) % 256)
                                          go_wp2_with (first | ((with_reducible refine gate_store (t := 3) (p := 76) rfl ?_); refine store_event (t := 3) (p := 76) (v := ?vo_w50) (w1 := (wc.setCell ⟨go47, ((ji11) : Int).toNat, none⟩ (.int .i64 (((bt a0 x8_1) - 48) % 256)))) ?hg ?ho ?hn ?hr ?_; (case ho => rfl); (case hg => rfl); (case hn => rfl); (case hr => first | (go_simp; done) | (go_simp; rfl)); intro w50 hw; have hg : wc.grownBy w50 (some go47) := (by rw [hw]; exact HP49.2); have hp_ : Kd.R (Kd.int .i64) 3 w50 w.heap.size (fun _ => True) (.slice (some ⟨go47, 0, none⟩) x6_1.length co48) y295 := (by rw [hw, Ny295.out]; exact HP49.1); clear HP49; have n0_ := Aside0.mk (hp_); have n1_ := Aside0.mk ((by rw [hw]; exact below_set (HB.out) GB47.out : Below w.heap.size w w50)); clear HO_6; clear HB; have HO_6 := n0_; have HB := n1_; clear n0_ n1_; clear hg hw hp_))
                                          go_roundg kj4
                                          case measure => have := HK1.out; have := HJ4.out; omega
                                          case rel => exact ⟨(x5_1), (y295), (x7_1), (wrap64 (x8_1 + 1)), (by first | rfl | (simp; done) | (simp [*]; done)), (by first | rfl | (simp; done) | (simp [*]; done)), (by first | rfl | (simp; done) | (simp [*]; done)), H', ⟨by have := HK1.out; have := HJ4.out; omega⟩, ⟨by (with_reducible repeat (first | apply Kd.R_alloc | apply Kd.R_drewN | apply Kd.R_drew)); exact HO_6.out⟩, ⟨by repeat (first | (with_reducible first | exact HB.out | apply below_alloc | apply pw_below_drewN | apply below_drew1) | exact HB.out)⟩⟩
                                        · rw [if_neg c45] at H
                                          exact absurd H (by simp)
                                      · rw [if_neg c44] at H
                                        exact absurd H (by simp)
                                  · rw [if_neg c32] at H
                                    exact absurd H (by simp)
                                · rw [if_neg c31] at H
                                  exact absurd H (by simp)
                              · rw [if_neg c29] at H
                                have c29b0 : decide (0 < x8_1) = false := decide_eq_false c29
                                clear c29
                                by_cases c51 : 0 ≤ x8_1
                                · rw [if_pos c51] at H
                                  have c51b0 : decide (0 ≤ x8_1) = true := decide_eq_true c51
                                  clear c51
                                  by_cases c52 : x8_1 < (a0.size : Int)
                                  · rw [if_pos c52] at H
                                    have c52b0 : decide (x8_1 < (a0.size : Int)) = true := decide_eq_true c52
                                    clear c52
                                    obtain ⟨y296, hy296⟩ : ∃ y_ : List Int, y_ = (x6_1.set ((ji11) : Int).toNat (((bt a0 x8_1) - 48) % 256)) := ⟨_, rfl⟩
                                    replace H : (frisketref09_split.l0 kj4 a0 x5_1 y296 x7_1 (wrap64 (x8_1 + 1))) = some (r1, r2, r3) := by first | (rw [hy296]; with_reducible exact H) | (have H2_ := (Option.bind_some _ _).symm.trans H; rw [hy296]; with_reducible exact H2_) | (have H2_ := (Option.bind_some _ _).symm.trans H; with_reducible exact H2_) | with_reducible exact H | (rw [hy296]; exact H) | exact H
                                    have Ny296 := Aside0.mk hy296
                                    clear hy296
                                    have H' := Aside0.mk H
                                    clear H
                                    obtain ⟨Ao55, co55, eo55⟩ := Kd.R_slice HO_6.out
                                    subst eo55
                                    have p292 : 0 ≤ ((ji11) : Int) := of_decide_eq_true (by first | (with_reducible assumption) | assumption)
                                    have q292 : (ji11) < (x6_1.length : Int) := of_decide_eq_true (by first | (with_reducible assumption) | assumption)
                                    obtain ⟨ad292, e292, hx292_0⟩ := Kd.at_int (Kd.R_reads' HO_6.out).2.2 (ji11) p292 q292
                                    cases e292
                                    replace p292 := eq_true p292
                                    replace q292 := eq_true q292
                                    have p18 : 0 ≤ (1 : Int) := (by omega)
                                    have q18 : 1 < a0.size := (by have : (1 : Int) < (a0.size : Int) := of_decide_eq_true (by first | (with_reducible assumption) | assumption); omega)
                                    have hx18 : ∀ h : 1 < a0.size, ((a0[1]'h).toNat : Int) = bt a0 1 := bt_at a0 1
                                    clear p18
                                    have qi18 : (1 < (a0.size : Int)) = True := eq_true (of_decide_eq_true (by first | (with_reducible assumption) | assumption))
                                    replace q18 := eq_true q18
                                    have p53 : 0 ≤ (x8_1 : Int) := of_decide_eq_true (by first | (with_reducible assumption) | assumption)
                                    have q53 : x8_1 < (a0.size : Int) := of_decide_eq_true (by first | (with_reducible assumption) | assumption)
                                    have hx53 := bt_at a0 x8_1
                                    replace p53 := eq_true p53
                                    replace q53 := eq_true q53
                                    have p54 : 0 ≤ ((ji11) : Int) := of_decide_eq_true (by first | (with_reducible assumption) | assumption)
                                    have q54 : ((ji11) : Int) < ((x6_1.length : Int) : Int) := of_decide_eq_true (by first | (with_reducible assumption) | assumption)
                                    obtain ⟨go54, co54, eo54, gb54, gl54, cl54, HG54⟩ := Kd.R_form HO_6.out (by omega)
                                    (first | cases eo54 | (injection eo54 with ea_ en_ ec_; (first | subst ea_ | (injection ea_ with ea_; subst ea_)); subst ec_; clear en_))
                                    have GB54 := Aside0.mk gb54
                                    have GG54 := Aside0.mk HG54
                                    clear gb54 gl54 HG54
                                    (first | simp only [add_plain] at hx292_0 | skip)
                                    obtain ⟨hx54_0, hf54_0⟩ := Kd.R_celln 0 HO_6.out ((ji11) : Int) p54 q54
                                    replace p54 := eq_true p54
                                    replace q54 := eq_true q54
                                    have HP56 := Kd.R_putg HO_6.out ((ji11) : Int) (((bt a0 x8_1) - 48) % 256)
                                    go_wp2_with (first | ((with_reducible refine gate_store (t := 3) (p := 76) rfl ?_); refine store_event (t := 3) (p := 76) (v := ?vo_w57) (w1 := (wc.setCell ⟨go54, ((ji11) : Int).toNat, none⟩ (.int .i64 (((bt a0 x8_1) - 48) % 256)))) ?hg ?ho ?hn ?hr ?_; (case ho => rfl); (case hg => rfl); (case hn => rfl); (case hr => first | (go_simp; done) | (go_simp; rfl)); intro w57 hw; have hg : wc.grownBy w57 (some go54) := (by rw [hw]; exact HP56.2); have hp_ : Kd.R (Kd.int .i64) 3 w57 w.heap.size (fun _ => True) (.slice (some ⟨go54, 0, none⟩) x6_1.length co55) y296 := (by rw [hw, Ny296.out]; exact HP56.1); clear HP56; have n0_ := Aside0.mk (hp_); have n1_ := Aside0.mk ((by rw [hw]; exact below_set (HB.out) GB54.out : Below w.heap.size w w57)); clear HO_6; clear HB; have HO_6 := n0_; have HB := n1_; clear n0_ n1_; clear hg hw hp_))
                                    go_roundg kj4
                                    case measure => have := HK1.out; have := HJ4.out; omega
                                    case rel => exact ⟨(x5_1), (y296), (x7_1), (wrap64 (x8_1 + 1)), (by first | rfl | (simp; done) | (simp [*]; done)), (by first | rfl | (simp; done) | (simp [*]; done)), (by first | rfl | (simp; done) | (simp [*]; done)), H', ⟨by have := HK1.out; have := HJ4.out; omega⟩, ⟨by (with_reducible repeat (first | apply Kd.R_alloc | apply Kd.R_drewN | apply Kd.R_drew)); exact HO_6.out⟩, ⟨by repeat (first | (with_reducible first | exact HB.out | apply below_alloc | apply pw_below_drewN | apply below_drew1) | exact HB.out)⟩⟩
                                  · rw [if_neg c52] at H
                                    exact absurd H (by simp)
                                · rw [if_neg c51] at H
                                  exact absurd H (by simp)
                        · rw [if_neg c17] at H
                          exact absurd H (by simp)
                      · rw [if_neg c16] at H
                        have c16b0 : decide (1 < (a0.size : Int)) = false := decide_eq_false c16
                        have c16b1 : decide (1 < a0.size) = false := decide_eq_false (by omega)
                        clear c16
                        by_cases c58 : x5_1.toList = ([] : List UInt8)
                        · rw [if_pos c58] at H
                          have c58b0 : (x5_1.toList == ([] : List UInt8)) = true := beq_iff_eq.mpr c58
                          have c58b1 : (x5_1.toList != ([] : List UInt8)) = false := bne_eq_false_iff_eq.mpr c58
                          clear c58
                          by_cases c59 : 0 ≤ x8_1
                          · rw [if_pos c59] at H
                            have c59b0 : decide (0 ≤ x8_1) = true := decide_eq_true c59
                            clear c59
                            by_cases c60 : x8_1 < (a0.size : Int)
                            · rw [if_pos c60] at H
                              have c60b0 : decide (x8_1 < (a0.size : Int)) = true := decide_eq_true c60
                              clear c60
                              obtain ⟨y297, hy297⟩ : ∃ y_ : List Int, y_ = (x6_1.set ((ji11) : Int).toNat (((bt a0 x8_1) - 48) % 256)) := ⟨_, rfl⟩
                              replace H : (frisketref09_split.l0 kj4 a0 x5_1 y297 x7_1 (wrap64 (x8_1 + 1))) = some (r1, r2, r3) := by first | (rw [hy297]; with_reducible exact H) | (have H2_ := (Option.bind_some _ _).symm.trans H; rw [hy297]; with_reducible exact H2_) | (have H2_ := (Option.bind_some _ _).symm.trans H; with_reducible exact H2_) | with_reducible exact H | (rw [hy297]; exact H) | exact H
                              have Ny297 := Aside0.mk hy297
                              clear hy297
                              have H' := Aside0.mk H
                              clear H
                              obtain ⟨Ao63, co63, eo63⟩ := Kd.R_slice HO_6.out
                              subst eo63
                              have p292 : 0 ≤ ((ji11) : Int) := of_decide_eq_true (by first | (with_reducible assumption) | assumption)
                              have q292 : (ji11) < (x6_1.length : Int) := of_decide_eq_true (by first | (with_reducible assumption) | assumption)
                              obtain ⟨ad292, e292, hx292_0⟩ := Kd.at_int (Kd.R_reads' HO_6.out).2.2 (ji11) p292 q292
                              cases e292
                              replace p292 := eq_true p292
                              replace q292 := eq_true q292
                              have p61 : 0 ≤ (x8_1 : Int) := of_decide_eq_true (by first | (with_reducible assumption) | assumption)
                              have q61 : x8_1 < (a0.size : Int) := of_decide_eq_true (by first | (with_reducible assumption) | assumption)
                              have hx61 := bt_at a0 x8_1
                              replace p61 := eq_true p61
                              replace q61 := eq_true q61
                              have p62 : 0 ≤ ((ji11) : Int) := of_decide_eq_true (by first | (with_reducible assumption) | assumption)
                              have q62 : ((ji11) : Int) < ((x6_1.length : Int) : Int) := of_decide_eq_true (by first | (with_reducible assumption) | assumption)
                              obtain ⟨go62, co62, eo62, gb62, gl62, cl62, HG62⟩ := Kd.R_form HO_6.out (by omega)
                              (first | cases eo62 | (injection eo62 with ea_ en_ ec_; (first | subst ea_ | (injection ea_ with ea_; subst ea_)); subst ec_; clear en_))
                              have GB62 := Aside0.mk gb62
                              have GG62 := Aside0.mk HG62
                              clear gb62 gl62 HG62
                              (first | simp only [add_plain] at hx292_0 | skip)
                              obtain ⟨hx62_0, hf62_0⟩ := Kd.R_celln 0 HO_6.out ((ji11) : Int) p62 q62
                              replace p62 := eq_true p62
                              replace q62 := eq_true q62
                              have HP64 := Kd.R_putg HO_6.out ((ji11) : Int) (((bt a0 x8_1) - 48) % 256)
                              go_wp2_with (first | ((with_reducible refine gate_store (t := 3) (p := 76) rfl ?_); refine store_event (t := 3) (p := 76) (v := ?vo_w65) (w1 := (wc.setCell ⟨go62, ((ji11) : Int).toNat, none⟩ (.int .i64 (((bt a0 x8_1) - 48) % 256)))) ?hg ?ho ?hn ?hr ?_; (case ho => rfl); (case hg => rfl); (case hn => rfl); (case hr => first | (go_simp; done) | (go_simp; rfl)); intro w65 hw; have hg : wc.grownBy w65 (some go62) := (by rw [hw]; exact HP64.2); have hp_ : Kd.R (Kd.int .i64) 3 w65 w.heap.size (fun _ => True) (.slice (some ⟨go62, 0, none⟩) x6_1.length co63) y297 := (by rw [hw, Ny297.out]; exact HP64.1); clear HP64; have n0_ := Aside0.mk (hp_); have n1_ := Aside0.mk ((by rw [hw]; exact below_set (HB.out) GB62.out : Below w.heap.size w w65)); clear HO_6; clear HB; have HO_6 := n0_; have HB := n1_; clear n0_ n1_; clear hg hw hp_))
                              go_roundg kj4
                              case measure => have := HK1.out; have := HJ4.out; omega
                              case rel => exact ⟨(x5_1), (y297), (x7_1), (wrap64 (x8_1 + 1)), (by first | rfl | (simp; done) | (simp [*]; done)), (by first | rfl | (simp; done) | (simp [*]; done)), (by first | rfl | (simp; done) | (simp [*]; done)), H', ⟨by have := HK1.out; have := HJ4.out; omega⟩, ⟨by (with_reducible repeat (first | apply Kd.R_alloc | apply Kd.R_drewN | apply Kd.R_drew)); exact HO_6.out⟩, ⟨by repeat (first | (with_reducible first | exact HB.out | apply below_alloc | apply pw_below_drewN | apply below_drew1) | exact HB.out)⟩⟩
                            · rw [if_neg c60] at H
                              exact absurd H (by simp)
                          · rw [if_neg c59] at H
                            exact absurd H (by simp)
                        · rw [if_neg c58] at H
                          have c58b0 : (x5_1.toList == ([] : List UInt8)) = false := beq_eq_false_iff_ne.mpr c58
                          have c58b1 : (x5_1.toList != ([] : List UInt8)) = true := bne_iff_ne.mpr c58
                          by_cases c66 : x8_1 > 0
                          · rw [if_pos c66] at H
                            have c66b0 : decide (0 < x8_1) = true := decide_eq_true c66
                            clear c66
                            obtain ⟨ji67, hji67⟩ : ∃ j_ : Int, (wrap64 (x8_1 - 1)) = j_ := ⟨_, rfl⟩
                            replace H : (if 0 ≤ (ji67) then (if (ji67) < (a0.size : Int) then (if (bt a0 (ji67)) = 46 then (if x8_1 > 1 then (some ((⟨#[]⟩ : ByteArray), ([] : List Int), false)) else (if 0 ≤ x8_1 then (if x8_1 < (a0.size : Int) then (frisketref09_split.l0 kj4 a0 x5_1 (x6_1.set ((ji11) : Int).toNat (((bt a0 x8_1) - 48) % 256)) x7_1 (wrap64 (x8_1 + 1))) else (none)) else (none))) else (if 0 ≤ x8_1 then (if x8_1 < (a0.size : Int) then (frisketref09_split.l0 kj4 a0 x5_1 (x6_1.set ((ji11) : Int).toNat (((bt a0 x8_1) - 48) % 256)) x7_1 (wrap64 (x8_1 + 1))) else (none)) else (none))) else (none)) else (none)) = some (r1, r2, r3) := by first | (rw [hji67] at H; exact H) | (simp only [hji67] at H ⊢; exact H)
                            have hji67w : (IntKind.i64.wrap (x8_1 - 1)) = ji67 := (i64_w _).trans hji67
                            by_cases c68 : 0 ≤ (ji67)
                            · rw [if_pos c68] at H
                              have c68b0 : decide (0 ≤ (ji67)) = true := decide_eq_true c68
                              clear c68
                              by_cases c69 : (ji67) < (a0.size : Int)
                              · rw [if_pos c69] at H
                                have c69b0 : decide ((ji67) < (a0.size : Int)) = true := decide_eq_true c69
                                clear c69
                                by_cases c71 : (bt a0 (ji67)) = 46
                                · rw [if_pos c71] at H
                                  have c71b0 : ((bt a0 (ji67)) == 46) = true := beq_iff_eq.mpr c71
                                  have c71b1 : ((bt a0 (ji67)) != 46) = false := bne_eq_false_iff_eq.mpr c71
                                  clear c71
                                  by_cases c72 : x8_1 > 1
                                  · rw [if_pos c72] at H
                                    have c72b0 : decide (1 < x8_1) = true := decide_eq_true c72
                                    clear c72
                                    simp only [Option.some.injEq, Prod.mk.injEq] at H
                                    obtain ⟨rfl, rfl, rfl⟩ := H
                                    obtain ⟨Ao73, co73, eo73⟩ := Kd.R_slice HO_6.out
                                    subst eo73
                                    have p292 : 0 ≤ ((ji11) : Int) := of_decide_eq_true (by first | (with_reducible assumption) | assumption)
                                    have q292 : (ji11) < (x6_1.length : Int) := of_decide_eq_true (by first | (with_reducible assumption) | assumption)
                                    obtain ⟨ad292, e292, hx292_0⟩ := Kd.at_int (Kd.R_reads' HO_6.out).2.2 (ji11) p292 q292
                                    cases e292
                                    replace p292 := eq_true p292
                                    replace q292 := eq_true q292
                                    have p70 : 0 ≤ ((ji67) : Int) := of_decide_eq_true (by first | (with_reducible assumption) | assumption)
                                    have q70 : (ji67) < (a0.size : Int) := of_decide_eq_true (by first | (with_reducible assumption) | assumption)
                                    have hx70 := bt_at a0 (ji67)
                                    replace p70 := eq_true p70
                                    replace q70 := eq_true q70
                                    go_wp2
                                    go_ret3
                                    exact ⟨_, by first | rfl | (simp [errW_none, errW_some] <;> rfl) | (simp only [← hji11, ← hji67]; first | rfl | (simp [errW_none, errW_some] <;> rfl)) | (simp [*, errW_none, errW_some] <;> rfl), by first | exact Kd.R_nil _ _ _ _ _ | exact Kd.N_nil _ _ _ _ _ | exact Kd.V_nil _ _ _ _ _ | exact Kd.Q_nil _ _ _ _ _ | exact Kd.S_nil _ _ _ _ _, by repeat (first | (with_reducible first | exact HB.out | apply below_alloc | apply pw_below_drewN | apply below_drew1) | exact HB.out)⟩
                                  · rw [if_neg c72] at H
                                    have c72b0 : decide (1 < x8_1) = false := decide_eq_false c72
                                    clear c72
                                    by_cases c74 : 0 ≤ x8_1
                                    · rw [if_pos c74] at H
                                      have c74b0 : decide (0 ≤ x8_1) = true := decide_eq_true c74
                                      clear c74
                                      by_cases c75 : x8_1 < (a0.size : Int)
                                      · rw [if_pos c75] at H
                                        have c75b0 : decide (x8_1 < (a0.size : Int)) = true := decide_eq_true c75
                                        clear c75
                                        obtain ⟨y298, hy298⟩ : ∃ y_ : List Int, y_ = (x6_1.set ((ji11) : Int).toNat (((bt a0 x8_1) - 48) % 256)) := ⟨_, rfl⟩
                                        replace H : (frisketref09_split.l0 kj4 a0 x5_1 y298 x7_1 (wrap64 (x8_1 + 1))) = some (r1, r2, r3) := by first | (rw [hy298]; with_reducible exact H) | (have H2_ := (Option.bind_some _ _).symm.trans H; rw [hy298]; with_reducible exact H2_) | (have H2_ := (Option.bind_some _ _).symm.trans H; with_reducible exact H2_) | with_reducible exact H | (rw [hy298]; exact H) | exact H
                                        have Ny298 := Aside0.mk hy298
                                        clear hy298
                                        have H' := Aside0.mk H
                                        clear H
                                        obtain ⟨Ao78, co78, eo78⟩ := Kd.R_slice HO_6.out
                                        subst eo78
                                        have p292 : 0 ≤ ((ji11) : Int) := of_decide_eq_true (by first | (with_reducible assumption) | assumption)
                                        have q292 : (ji11) < (x6_1.length : Int) := of_decide_eq_true (by first | (with_reducible assumption) | assumption)
                                        obtain ⟨ad292, e292, hx292_0⟩ := Kd.at_int (Kd.R_reads' HO_6.out).2.2 (ji11) p292 q292
                                        cases e292
                                        replace p292 := eq_true p292
                                        replace q292 := eq_true q292
                                        have p70 : 0 ≤ ((ji67) : Int) := of_decide_eq_true (by first | (with_reducible assumption) | assumption)
                                        have q70 : (ji67) < (a0.size : Int) := of_decide_eq_true (by first | (with_reducible assumption) | assumption)
                                        have hx70 := bt_at a0 (ji67)
                                        replace p70 := eq_true p70
                                        replace q70 := eq_true q70
                                        have p76 : 0 ≤ (x8_1 : Int) := of_decide_eq_true (by first | (with_reducible assumption) | assumption)
                                        have q76 : x8_1 < (a0.size : Int) := of_decide_eq_true (by first | (with_reducible assumption) | assumption)
                                        have hx76 := bt_at a0 x8_1
                                        replace p76 := eq_true p76
                                        replace q76 := eq_true q76
                                        have p77 : 0 ≤ ((ji11) : Int) := of_decide_eq_true (by first | (with_reducible assumption) | assumption)
                                        have q77 : ((ji11) : Int) < ((x6_1.length : Int) : Int) := of_decide_eq_true (by first | (with_reducible assumption) | assumption)
                                        obtain ⟨go77, co77, eo77, gb77, gl77, cl77, HG77⟩ := Kd.R_form HO_6.out (by omega)
                                        (first | cases eo77 | (injection eo77 with ea_ en_ ec_; (first | subst ea_ | (injection ea_ with ea_; subst ea_)); subst ec_; clear en_))
                                        have GB77 := Aside0.mk gb77
                                        have GG77 := Aside0.mk HG77
                                        clear gb77 gl77 HG77
                                        (first | simp only [add_plain] at hx292_0 | skip)
                                        obtain ⟨hx77_0, hf77_0⟩ := Kd.R_celln 0 HO_6.out ((ji11) : Int) p77 q77
                                        replace p77 := eq_true p77
                                        replace q77 := eq_true q77
                                        have HP79 := Kd.R_putg HO_6.out ((ji11) : Int) (((bt a0 x8_1) - 48) % 256)
                                        go_wp2_with (first | ((with_reducible refine gate_store (t := 3) (p := 76) rfl ?_); refine store_event (t := 3) (p := 76) (v := ?vo_w80) (w1 := (wc.setCell ⟨go77, ((ji11) : Int).toNat, none⟩ (.int .i64 (((bt a0 x8_1) - 48) % 256)))) ?hg ?ho ?hn ?hr ?_; (case ho => rfl); (case hg => rfl); (case hn => rfl); (case hr => first | (go_simp; done) | (go_simp; rfl)); intro w80 hw; have hg : wc.grownBy w80 (some go77) := (by rw [hw]; exact HP79.2); have hp_ : Kd.R (Kd.int .i64) 3 w80 w.heap.size (fun _ => True) (.slice (some ⟨go77, 0, none⟩) x6_1.length co78) y298 := (by rw [hw, Ny298.out]; exact HP79.1); clear HP79; have n0_ := Aside0.mk (hp_); have n1_ := Aside0.mk ((by rw [hw]; exact below_set (HB.out) GB77.out : Below w.heap.size w w80)); clear HO_6; clear HB; have HO_6 := n0_; have HB := n1_; clear n0_ n1_; clear hg hw hp_))
                                        go_roundg kj4
                                        case measure => have := HK1.out; have := HJ4.out; omega
                                        case rel => exact ⟨(x5_1), (y298), (x7_1), (wrap64 (x8_1 + 1)), (by first | rfl | (simp; done) | (simp [*]; done)), (by first | rfl | (simp; done) | (simp [*]; done)), (by first | rfl | (simp; done) | (simp [*]; done)), H', ⟨by have := HK1.out; have := HJ4.out; omega⟩, ⟨by (with_reducible repeat (first | apply Kd.R_alloc | apply Kd.R_drewN | apply Kd.R_drew)); exact HO_6.out⟩, ⟨by repeat (first | (with_reducible first | exact HB.out | apply below_alloc | apply pw_below_drewN | apply below_drew1) | exact HB.out)⟩⟩
                                      · rw [if_neg c75] at H
                                        exact absurd H (by simp)
                                    · rw [if_neg c74] at H
                                      exact absurd H (by simp)
                                · rw [if_neg c71] at H
                                  have c71b0 : ((bt a0 (ji67)) == 46) = false := beq_eq_false_iff_ne.mpr c71
                                  have c71b1 : ((bt a0 (ji67)) != 46) = true := bne_iff_ne.mpr c71
                                  by_cases c81 : 0 ≤ x8_1
                                  · rw [if_pos c81] at H
                                    have c81b0 : decide (0 ≤ x8_1) = true := decide_eq_true c81
                                    clear c81
                                    by_cases c82 : x8_1 < (a0.size : Int)
                                    · rw [if_pos c82] at H
                                      have c82b0 : decide (x8_1 < (a0.size : Int)) = true := decide_eq_true c82
                                      clear c82
                                      obtain ⟨y299, hy299⟩ : ∃ y_ : List Int, y_ = (x6_1.set ((ji11) : Int).toNat (((bt a0 x8_1) - 48) % 256)) := ⟨_, rfl⟩
                                      replace H : (frisketref09_split.l0 kj4 a0 x5_1 y299 x7_1 (wrap64 (x8_1 + 1))) = some (r1, r2, r3) := by first | (rw [hy299]; with_reducible exact H) | (have H2_ := (Option.bind_some _ _).symm.trans H; rw [hy299]; with_reducible exact H2_) | (have H2_ := (Option.bind_some _ _).symm.trans H; with_reducible exact H2_) | with_reducible exact H | (rw [hy299]; exact H) | exact H
                                      have Ny299 := Aside0.mk hy299
                                      clear hy299
                                      have H' := Aside0.mk H
                                      clear H
                                      obtain ⟨Ao85, co85, eo85⟩ := Kd.R_slice HO_6.out
                                      subst eo85
                                      have p292 : 0 ≤ ((ji11) : Int) := of_decide_eq_true (by first | (with_reducible assumption) | assumption)
                                      have q292 : (ji11) < (x6_1.length : Int) := of_decide_eq_true (by first | (with_reducible assumption) | assumption)
                                      obtain ⟨ad292, e292, hx292_0⟩ := Kd.at_int (Kd.R_reads' HO_6.out).2.2 (ji11) p292 q292
                                      cases e292
                                      replace p292 := eq_true p292
                                      replace q292 := eq_true q292
                                      have p70 : 0 ≤ ((ji67) : Int) := of_decide_eq_true (by first | (with_reducible assumption) | assumption)
                                      have q70 : (ji67) < (a0.size : Int) := of_decide_eq_true (by first | (with_reducible assumption) | assumption)
                                      have hx70 := bt_at a0 (ji67)
                                      replace p70 := eq_true p70
                                      replace q70 := eq_true q70
                                      have p83 : 0 ≤ (x8_1 : Int) := of_decide_eq_true (by first | (with_reducible assumption) | assumption)
                                      have q83 : x8_1 < (a0.size : Int) := of_decide_eq_true (by first | (with_reducible assumption) | assumption)
                                      have hx83 := bt_at a0 x8_1
                                      replace p83 := eq_true p83
                                      replace q83 := eq_true q83
                                      have p84 : 0 ≤ ((ji11) : Int) := of_decide_eq_true (by first | (with_reducible assumption) | assumption)
                                      have q84 : ((ji11) : Int) < ((x6_1.length : Int) : Int) := of_decide_eq_true (by first | (with_reducible assumption) | assumption)
                                      obtain ⟨go84, co84, eo84, gb84, gl84, cl84, HG84⟩ := Kd.R_form HO_6.out (by omega)
                                      (first | cases eo84 | (injection eo84 with ea_ en_ ec_; (first | subst ea_ | (injection ea_ with ea_; subst ea_)); subst ec_; clear en_))
                                      have GB84 := Aside0.mk gb84
                                      have GG84 := Aside0.mk HG84
                                      clear gb84 gl84 HG84
                                      (first | simp only [add_plain] at hx292_0 | skip)
                                      obtain ⟨hx84_0, hf84_0⟩ := Kd.R_celln 0 HO_6.out ((ji11) : Int) p84 q84
                                      replace p84 := eq_true p84
                                      replace q84 := eq_true q84
                                      have HP86 := Kd.R_putg HO_6.out ((ji11) : Int) (((bt a0 x8_1) - 48) % 256)
                                      go_wp2_with (first | ((with_reducible refine gate_store (t := 3) (p := 76) rfl ?_); refine store_event (t := 3) (p := 76) (v := ?vo_w87) (w1 := (wc.setCell ⟨go84, ((ji11) : Int).toNat, none⟩ (.int .i64 (((bt a0 x8_1) - 48) % 256)))) ?hg ?ho ?hn ?hr ?_; (case ho => rfl); (case hg => rfl); (case hn => rfl); (case hr => first | (go_simp; done) | (go_simp; rfl)); intro w87 hw; have hg : wc.grownBy w87 (some go84) := (by rw [hw]; exact HP86.2); have hp_ : Kd.R (Kd.int .i64) 3 w87 w.heap.size (fun _ => True) (.slice (some ⟨go84, 0, none⟩) x6_1.length co85) y299 := (by rw [hw, Ny299.out]; exact HP86.1); clear HP86; have n0_ := Aside0.mk (hp_); have n1_ := Aside0.mk ((by rw [hw]; exact below_set (HB.out) GB84.out : Below w.heap.size w w87)); clear HO_6; clear HB; have HO_6 := n0_; have HB := n1_; clear n0_ n1_; clear hg hw hp_))
                                      go_roundg kj4
                                      case measure => have := HK1.out; have := HJ4.out; omega
                                      case rel => exact ⟨(x5_1), (y299), (x7_1), (wrap64 (x8_1 + 1)), (by first | rfl | (simp; done) | (simp [*]; done)), (by first | rfl | (simp; done) | (simp [*]; done)), (by first | rfl | (simp; done) | (simp [*]; done)), H', ⟨by have := HK1.out; have := HJ4.out; omega⟩, ⟨by (with_reducible repeat (first | apply Kd.R_alloc | apply Kd.R_drewN | apply Kd.R_drew)); exact HO_6.out⟩, ⟨by repeat (first | (with_reducible first | exact HB.out | apply below_alloc | apply pw_below_drewN | apply below_drew1) | exact HB.out)⟩⟩
                                    · rw [if_neg c82] at H
                                      exact absurd H (by simp)
                                  · rw [if_neg c81] at H
                                    exact absurd H (by simp)
                              · rw [if_neg c69] at H
                                exact absurd H (by simp)
                            · rw [if_neg c68] at H
                              exact absurd H (by simp)
                          · rw [if_neg c66] at H
                            have c66b0 : decide (0 < x8_1) = false := decide_eq_false c66
                            clear c66
                            by_cases c88 : 0 ≤ x8_1
                            · rw [if_pos c88] at H
                              have c88b0 : decide (0 ≤ x8_1) = true := decide_eq_true c88
                              clear c88
                              by_cases c89 : x8_1 < (a0.size : Int)
                              · rw [if_pos c89] at H
                                have c89b0 : decide (x8_1 < (a0.size : Int)) = true := decide_eq_true c89
                                clear c89
                                obtain ⟨y300, hy300⟩ : ∃ y_ : List Int, y_ = (x6_1.set ((ji11) : Int).toNat (((bt a0 x8_1) - 48) % 256)) := ⟨_, rfl⟩
                                replace H : (frisketref09_split.l0 kj4 a0 x5_1 y300 x7_1 (wrap64 (x8_1 + 1))) = some (r1, r2, r3) := by first | (rw [hy300]; with_reducible exact H) | (have H2_ := (Option.bind_some _ _).symm.trans H; rw [hy300]; with_reducible exact H2_) | (have H2_ := (Option.bind_some _ _).symm.trans H; with_reducible exact H2_) | with_reducible exact H | (rw [hy300]; exact H) | exact H
                                have Ny300 := Aside0.mk hy300
                                clear hy300
                                have H' := Aside0.mk H
                                clear H
                                obtain ⟨Ao92, co92, eo92⟩ := Kd.R_slice HO_6.out
                                subst eo92
                                have p292 : 0 ≤ ((ji11) : Int) := of_decide_eq_true (by first | (with_reducible assumption) | assumption)
                                have q292 : (ji11) < (x6_1.length : Int) := of_decide_eq_true (by first | (with_reducible assumption) | assumption)
                                obtain ⟨ad292, e292, hx292_0⟩ := Kd.at_int (Kd.R_reads' HO_6.out).2.2 (ji11) p292 q292
                                cases e292
                                replace p292 := eq_true p292
                                replace q292 := eq_true q292
                                have p90 : 0 ≤ (x8_1 : Int) := of_decide_eq_true (by first | (with_reducible assumption) | assumption)
                                have q90 : x8_1 < (a0.size : Int) := of_decide_eq_true (by first | (with_reducible assumption) | assumption)
                                have hx90 := bt_at a0 x8_1
                                replace p90 := eq_true p90
                                replace q90 := eq_true q90
                                have p91 : 0 ≤ ((ji11) : Int) := of_decide_eq_true (by first | (with_reducible assumption) | assumption)
                                have q91 : ((ji11) : Int) < ((x6_1.length : Int) : Int) := of_decide_eq_true (by first | (with_reducible assumption) | assumption)
                                obtain ⟨go91, co91, eo91, gb91, gl91, cl91, HG91⟩ := Kd.R_form HO_6.out (by omega)
                                (first | cases eo91 | (injection eo91 with ea_ en_ ec_; (first | subst ea_ | (injection ea_ with ea_; subst ea_)); subst ec_; clear en_))
                                have GB91 := Aside0.mk gb91
                                have GG91 := Aside0.mk HG91
                                clear gb91 gl91 HG91
                                (first | simp only [add_plain] at hx292_0 | skip)
                                obtain ⟨hx91_0, hf91_0⟩ := Kd.R_celln 0 HO_6.out ((ji11) : Int) p91 q91
                                replace p91 := eq_true p91
                                replace q91 := eq_true q91
                                have HP93 := Kd.R_putg HO_6.out ((ji11) : Int) (((bt a0 x8_1) - 48) % 256)
                                go_wp2_with (first | ((with_reducible refine gate_store (t := 3) (p := 76) rfl ?_); refine store_event (t := 3) (p := 76) (v := ?vo_w94) (w1 := (wc.setCell ⟨go91, ((ji11) : Int).toNat, none⟩ (.int .i64 (((bt a0 x8_1) - 48) % 256)))) ?hg ?ho ?hn ?hr ?_; (case ho => rfl); (case hg => rfl); (case hn => rfl); (case hr => first | (go_simp; done) | (go_simp; rfl)); intro w94 hw; have hg : wc.grownBy w94 (some go91) := (by rw [hw]; exact HP93.2); have hp_ : Kd.R (Kd.int .i64) 3 w94 w.heap.size (fun _ => True) (.slice (some ⟨go91, 0, none⟩) x6_1.length co92) y300 := (by rw [hw, Ny300.out]; exact HP93.1); clear HP93; have n0_ := Aside0.mk (hp_); have n1_ := Aside0.mk ((by rw [hw]; exact below_set (HB.out) GB91.out : Below w.heap.size w w94)); clear HO_6; clear HB; have HO_6 := n0_; have HB := n1_; clear n0_ n1_; clear hg hw hp_))
                                go_roundg kj4
                                case measure => have := HK1.out; have := HJ4.out; omega
                                case rel => exact ⟨(x5_1), (y300), (x7_1), (wrap64 (x8_1 + 1)), (by first | rfl | (simp; done) | (simp [*]; done)), (by first | rfl | (simp; done) | (simp [*]; done)), (by first | rfl | (simp; done) | (simp [*]; done)), H', ⟨by have := HK1.out; have := HJ4.out; omega⟩, ⟨by (with_reducible repeat (first | apply Kd.R_alloc | apply Kd.R_drewN | apply Kd.R_drew)); exact HO_6.out⟩, ⟨by repeat (first | (with_reducible first | exact HB.out | apply below_alloc | apply pw_below_drewN | apply below_drew1) | exact HB.out)⟩⟩
                              · rw [if_neg c89] at H
                                exact absurd H (by simp)
                            · rw [if_neg c88] at H
                              exact absurd H (by simp)
                    · rw [if_neg c15] at H
                      have c15b0 : (x8_1 == 0) = false := beq_eq_false_iff_ne.mpr c15
                      have c15b1 : (x8_1 != 0) = true := bne_iff_ne.mpr c15
                      by_cases c95 : x5_1.toList = ([] : List UInt8)
                      · rw [if_pos c95] at H
                        have c95b0 : (x5_1.toList == ([] : List UInt8)) = true := beq_iff_eq.mpr c95
                        have c95b1 : (x5_1.toList != ([] : List UInt8)) = false := bne_eq_false_iff_eq.mpr c95
                        clear c95
                        by_cases c96 : 0 ≤ x8_1
                        · rw [if_pos c96] at H
                          have c96b0 : decide (0 ≤ x8_1) = true := decide_eq_true c96
                          clear c96
                          by_cases c97 : x8_1 < (a0.size : Int)
                          · rw [if_pos c97] at H
                            have c97b0 : decide (x8_1 < (a0.size : Int)) = true := decide_eq_true c97
                            clear c97
                            obtain ⟨y301, hy301⟩ : ∃ y_ : List Int, y_ = (x6_1.set ((ji11) : Int).toNat (((bt a0 x8_1) - 48) % 256)) := ⟨_, rfl⟩
                            replace H : (frisketref09_split.l0 kj4 a0 x5_1 y301 x7_1 (wrap64 (x8_1 + 1))) = some (r1, r2, r3) := by first | (rw [hy301]; with_reducible exact H) | (have H2_ := (Option.bind_some _ _).symm.trans H; rw [hy301]; with_reducible exact H2_) | (have H2_ := (Option.bind_some _ _).symm.trans H; with_reducible exact H2_) | with_reducible exact H | (rw [hy301]; exact H) | exact H
                            have Ny301 := Aside0.mk hy301
                            clear hy301
                            have H' := Aside0.mk H
                            clear H
                            obtain ⟨Ao100, co100, eo100⟩ := Kd.R_slice HO_6.out
                            subst eo100
                            have p292 : 0 ≤ ((ji11) : Int) := of_decide_eq_true (by first | (with_reducible assumption) | assumption)
                            have q292 : (ji11) < (x6_1.length : Int) := of_decide_eq_true (by first | (with_reducible assumption) | assumption)
                            obtain ⟨ad292, e292, hx292_0⟩ := Kd.at_int (Kd.R_reads' HO_6.out).2.2 (ji11) p292 q292
                            cases e292
                            replace p292 := eq_true p292
                            replace q292 := eq_true q292
                            have p98 : 0 ≤ (x8_1 : Int) := of_decide_eq_true (by first | (with_reducible assumption) | assumption)
                            have q98 : x8_1 < (a0.size : Int) := of_decide_eq_true (by first | (with_reducible assumption) | assumption)
                            have hx98 := bt_at a0 x8_1
                            replace p98 := eq_true p98
                            replace q98 := eq_true q98
                            have p99 : 0 ≤ ((ji11) : Int) := of_decide_eq_true (by first | (with_reducible assumption) | assumption)
                            have q99 : ((ji11) : Int) < ((x6_1.length : Int) : Int) := of_decide_eq_true (by first | (with_reducible assumption) | assumption)
                            obtain ⟨go99, co99, eo99, gb99, gl99, cl99, HG99⟩ := Kd.R_form HO_6.out (by omega)
                            (first | cases eo99 | (injection eo99 with ea_ en_ ec_; (first | subst ea_ | (injection ea_ with ea_; subst ea_)); subst ec_; clear en_))
                            have GB99 := Aside0.mk gb99
                            have GG99 := Aside0.mk HG99
                            clear gb99 gl99 HG99
                            (first | simp only [add_plain] at hx292_0 | skip)
                            obtain ⟨hx99_0, hf99_0⟩ := Kd.R_celln 0 HO_6.out ((ji11) : Int) p99 q99
                            replace p99 := eq_true p99
                            replace q99 := eq_true q99
                            have HP101 := Kd.R_putg HO_6.out ((ji11) : Int) (((bt a0 x8_1) - 48) % 256)
                            go_wp2_with (first | ((with_reducible refine gate_store (t := 3) (p := 76) rfl ?_); refine store_event (t := 3) (p := 76) (v := ?vo_w102) (w1 := (wc.setCell ⟨go99, ((ji11) : Int).toNat, none⟩ (.int .i64 (((bt a0 x8_1) - 48) % 256)))) ?hg ?ho ?hn ?hr ?_; (case ho => rfl); (case hg => rfl); (case hn => rfl); (case hr => first | (go_simp; done) | (go_simp; rfl)); intro w102 hw; have hg : wc.grownBy w102 (some go99) := (by rw [hw]; exact HP101.2); have hp_ : Kd.R (Kd.int .i64) 3 w102 w.heap.size (fun _ => True) (.slice (some ⟨go99, 0, none⟩) x6_1.length co100) y301 := (by rw [hw, Ny301.out]; exact HP101.1); clear HP101; have n0_ := Aside0.mk (hp_); have n1_ := Aside0.mk ((by rw [hw]; exact below_set (HB.out) GB99.out : Below w.heap.size w w102)); clear HO_6; clear HB; have HO_6 := n0_; have HB := n1_; clear n0_ n1_; clear hg hw hp_))
                            go_roundg kj4
                            case measure => have := HK1.out; have := HJ4.out; omega
                            case rel => exact ⟨(x5_1), (y301), (x7_1), (wrap64 (x8_1 + 1)), (by first | rfl | (simp; done) | (simp [*]; done)), (by first | rfl | (simp; done) | (simp [*]; done)), (by first | rfl | (simp; done) | (simp [*]; done)), H', ⟨by have := HK1.out; have := HJ4.out; omega⟩, ⟨by (with_reducible repeat (first | apply Kd.R_alloc | apply Kd.R_drewN | apply Kd.R_drew)); exact HO_6.out⟩, ⟨by repeat (first | (with_reducible first | exact HB.out | apply below_alloc | apply pw_below_drewN | apply below_drew1) | exact HB.out)⟩⟩
                          · rw [if_neg c97] at H
                            exact absurd H (by simp)
                        · rw [if_neg c96] at H
                          exact absurd H (by simp)
                      · rw [if_neg c95] at H
                        have c95b0 : (x5_1.toList == ([] : List UInt8)) = false := beq_eq_false_iff_ne.mpr c95
                        have c95b1 : (x5_1.toList != ([] : List UInt8)) = true := bne_iff_ne.mpr c95
                        by_cases c103 : x8_1 > 0
                        · rw [if_pos c103] at H
                          have c103b0 : decide (0 < x8_1) = true := decide_eq_true c103
                          clear c103
                          obtain ⟨ji104, hji104⟩ : ∃ j_ : Int, (wrap64 (x8_1 - 1)) = j_ := ⟨_, rfl⟩
                          replace H : (if 0 ≤ (ji104) then (if (ji104) < (a0.size : Int) then (if (bt a0 (ji104)) = 46 then (if x8_1 > 1 then (some ((⟨#[]⟩ : ByteArray), ([] : List Int), false)) else (if 0 ≤ x8_1 then (if x8_1 < (a0.size : Int) then (frisketref09_split.l0 kj4 a0 x5_1 (x6_1.set ((ji11) : Int).toNat (((bt a0 x8_1) - 48) % 256)) x7_1 (wrap64 (x8_1 + 1))) else (none)) else (none))) else (if 0 ≤ x8_1 then (if x8_1 < (a0.size : Int) then (frisketref09_split.l0 kj4 a0 x5_1 (x6_1.set ((ji11) : Int).toNat (((bt a0 x8_1) - 48) % 256)) x7_1 (wrap64 (x8_1 + 1))) else (none)) else (none))) else (none)) else (none)) = some (r1, r2, r3) := by first | (rw [hji104] at H; exact H) | (simp only [hji104] at H ⊢; exact H)
                          have hji104w : (IntKind.i64.wrap (x8_1 - 1)) = ji104 := (i64_w _).trans hji104
                          by_cases c105 : 0 ≤ (ji104)
                          · rw [if_pos c105] at H
                            have c105b0 : decide (0 ≤ (ji104)) = true := decide_eq_true c105
                            clear c105
                            by_cases c106 : (ji104) < (a0.size : Int)
                            · rw [if_pos c106] at H
                              have c106b0 : decide ((ji104) < (a0.size : Int)) = true := decide_eq_true c106
                              clear c106
                              by_cases c108 : (bt a0 (ji104)) = 46
                              · rw [if_pos c108] at H
                                have c108b0 : ((bt a0 (ji104)) == 46) = true := beq_iff_eq.mpr c108
                                have c108b1 : ((bt a0 (ji104)) != 46) = false := bne_eq_false_iff_eq.mpr c108
                                clear c108
                                by_cases c109 : x8_1 > 1
                                · rw [if_pos c109] at H
                                  have c109b0 : decide (1 < x8_1) = true := decide_eq_true c109
                                  clear c109
                                  simp only [Option.some.injEq, Prod.mk.injEq] at H
                                  obtain ⟨rfl, rfl, rfl⟩ := H
                                  obtain ⟨Ao110, co110, eo110⟩ := Kd.R_slice HO_6.out
                                  subst eo110
                                  have p292 : 0 ≤ ((ji11) : Int) := of_decide_eq_true (by first | (with_reducible assumption) | assumption)
                                  have q292 : (ji11) < (x6_1.length : Int) := of_decide_eq_true (by first | (with_reducible assumption) | assumption)
                                  obtain ⟨ad292, e292, hx292_0⟩ := Kd.at_int (Kd.R_reads' HO_6.out).2.2 (ji11) p292 q292
                                  cases e292
                                  replace p292 := eq_true p292
                                  replace q292 := eq_true q292
                                  have p107 : 0 ≤ ((ji104) : Int) := of_decide_eq_true (by first | (with_reducible assumption) | assumption)
                                  have q107 : (ji104) < (a0.size : Int) := of_decide_eq_true (by first | (with_reducible assumption) | assumption)
                                  have hx107 := bt_at a0 (ji104)
                                  replace p107 := eq_true p107
                                  replace q107 := eq_true q107
                                  go_wp2
                                  go_ret3
                                  exact ⟨_, by first | rfl | (simp [errW_none, errW_some] <;> rfl) | (simp only [← hji11, ← hji104]; first | rfl | (simp [errW_none, errW_some] <;> rfl)) | (simp [*, errW_none, errW_some] <;> rfl), by first | exact Kd.R_nil _ _ _ _ _ | exact Kd.N_nil _ _ _ _ _ | exact Kd.V_nil _ _ _ _ _ | exact Kd.Q_nil _ _ _ _ _ | exact Kd.S_nil _ _ _ _ _, by repeat (first | (with_reducible first | exact HB.out | apply below_alloc | apply pw_below_drewN | apply below_drew1) | exact HB.out)⟩
                                · rw [if_neg c109] at H
                                  have c109b0 : decide (1 < x8_1) = false := decide_eq_false c109
                                  clear c109
                                  by_cases c111 : 0 ≤ x8_1
                                  · rw [if_pos c111] at H
                                    have c111b0 : decide (0 ≤ x8_1) = true := decide_eq_true c111
                                    clear c111
                                    by_cases c112 : x8_1 < (a0.size : Int)
                                    · rw [if_pos c112] at H
                                      have c112b0 : decide (x8_1 < (a0.size : Int)) = true := decide_eq_true c112
                                      clear c112
                                      obtain ⟨y302, hy302⟩ : ∃ y_ : List Int, y_ = (x6_1.set ((ji11) : Int).toNat (((bt a0 x8_1) - 48) % 256)) := ⟨_, rfl⟩
                                      replace H : (frisketref09_split.l0 kj4 a0 x5_1 y302 x7_1 (wrap64 (x8_1 + 1))) = some (r1, r2, r3) := by first | (rw [hy302]; with_reducible exact H) | (have H2_ := (Option.bind_some _ _).symm.trans H; rw [hy302]; with_reducible exact H2_) | (have H2_ := (Option.bind_some _ _).symm.trans H; with_reducible exact H2_) | with_reducible exact H | (rw [hy302]; exact H) | exact H
                                      have Ny302 := Aside0.mk hy302
                                      clear hy302
                                      have H' := Aside0.mk H
                                      clear H
                                      obtain ⟨Ao115, co115, eo115⟩ := Kd.R_slice HO_6.out
                                      subst eo115
                                      have p292 : 0 ≤ ((ji11) : Int) := of_decide_eq_true (by first | (with_reducible assumption) | assumption)
                                      have q292 : (ji11) < (x6_1.length : Int) := of_decide_eq_true (by first | (with_reducible assumption) | assumption)
                                      obtain ⟨ad292, e292, hx292_0⟩ := Kd.at_int (Kd.R_reads' HO_6.out).2.2 (ji11) p292 q292
                                      cases e292
                                      replace p292 := eq_true p292
                                      replace q292 := eq_true q292
                                      have p107 : 0 ≤ ((ji104) : Int) := of_decide_eq_true (by first | (with_reducible assumption) | assumption)
                                      have q107 : (ji104) < (a0.size : Int) := of_decide_eq_true (by first | (with_reducible assumption) | assumption)
                                      have hx107 := bt_at a0 (ji104)
                                      replace p107 := eq_true p107
                                      replace q107 := eq_true q107
                                      have p113 : 0 ≤ (x8_1 : Int) := of_decide_eq_true (by first | (with_reducible assumption) | assumption)
                                      have q113 : x8_1 < (a0.size : Int) := of_decide_eq_true (by first | (with_reducible assumption) | assumption)
                                      have hx113 := bt_at a0 x8_1
                                      replace p113 := eq_true p113
                                      replace q113 := eq_true q113
                                      have p114 : 0 ≤ ((ji11) : Int) := of_decide_eq_true (by first | (with_reducible assumption) | assumption)
                                      have q114 : ((ji11) : Int) < ((x6_1.length : Int) : Int) := of_decide_eq_true (by first | (with_reducible assumption) | assumption)
                                      obtain ⟨go114, co114, eo114, gb114, gl114, cl114, HG114⟩ := Kd.R_form HO_6.out (by omega)
                                      (first | cases eo114 | (injection eo114 with ea_ en_ ec_; (first | subst ea_ | (injection ea_ with ea_; subst ea_)); subst ec_; clear en_))
                                      have GB114 := Aside0.mk gb114
                                      have GG114 := Aside0.mk HG114
                                      clear gb114 gl114 HG114
                                      (first | simp only [add_plain] at hx292_0 | skip)
                                      obtain ⟨hx114_0, hf114_0⟩ := Kd.R_celln 0 HO_6.out ((ji11) : Int) p114 q114
                                      replace p114 := eq_true p114
                                      replace q114 := eq_true q114
                                      have HP116 := Kd.R_putg HO_6.out ((ji11) : Int) (((bt a0 x8_1) - 48) % 256)
                                      go_wp2_with (first | ((with_reducible refine gate_store (t := 3) (p := 76) rfl ?_); refine store_event (t := 3) (p := 76) (v := ?vo_w117) (w1 := (wc.setCell ⟨go114, ((ji11) : Int).toNat, none⟩ (.int .i64 (((bt a0 x8_1) - 48) % 256)))) ?hg ?ho ?hn ?hr ?_; (case ho => rfl); (case hg => rfl); (case hn => rfl); (case hr => first | (go_simp; done) | (go_simp; rfl)); intro w117 hw; have hg : wc.grownBy w117 (some go114) := (by rw [hw]; exact HP116.2); have hp_ : Kd.R (Kd.int .i64) 3 w117 w.heap.size (fun _ => True) (.slice (some ⟨go114, 0, none⟩) x6_1.length co115) y302 := (by rw [hw, Ny302.out]; exact HP116.1); clear HP116; have n0_ := Aside0.mk (hp_); have n1_ := Aside0.mk ((by rw [hw]; exact below_set (HB.out) GB114.out : Below w.heap.size w w117)); clear HO_6; clear HB; have HO_6 := n0_; have HB := n1_; clear n0_ n1_; clear hg hw hp_))
                                      go_roundg kj4
                                      case measure => have := HK1.out; have := HJ4.out; omega
                                      case rel => exact ⟨(x5_1), (y302), (x7_1), (wrap64 (x8_1 + 1)), (by first | rfl | (simp; done) | (simp [*]; done)), (by first | rfl | (simp; done) | (simp [*]; done)), (by first | rfl | (simp; done) | (simp [*]; done)), H', ⟨by have := HK1.out; have := HJ4.out; omega⟩, ⟨by (with_reducible repeat (first | apply Kd.R_alloc | apply Kd.R_drewN | apply Kd.R_drew)); exact HO_6.out⟩, ⟨by repeat (first | (with_reducible first | exact HB.out | apply below_alloc | apply pw_below_drewN | apply below_drew1) | exact HB.out)⟩⟩
                                    · rw [if_neg c112] at H
                                      exact absurd H (by simp)
                                  · rw [if_neg c111] at H
                                    exact absurd H (by simp)
                              · rw [if_neg c108] at H
                                have c108b0 : ((bt a0 (ji104)) == 46) = false := beq_eq_false_iff_ne.mpr c108
                                have c108b1 : ((bt a0 (ji104)) != 46) = true := bne_iff_ne.mpr c108
                                by_cases c118 : 0 ≤ x8_1
                                · rw [if_pos c118] at H
                                  have c118b0 : decide (0 ≤ x8_1) = true := decide_eq_true c118
                                  clear c118
                                  by_cases c119 : x8_1 < (a0.size : Int)
                                  · rw [if_pos c119] at H
                                    have c119b0 : decide (x8_1 < (a0.size : Int)) = true := decide_eq_true c119
                                    clear c119
                                    obtain ⟨y303, hy303⟩ : ∃ y_ : List Int, y_ = (x6_1.set ((ji11) : Int).toNat (((bt a0 x8_1) - 48) % 256)) := ⟨_, rfl⟩
                                    replace H : (frisketref09_split.l0 kj4 a0 x5_1 y303 x7_1 (wrap64 (x8_1 + 1))) = some (r1, r2, r3) := by first | (rw [hy303]; with_reducible exact H) | (have H2_ := (Option.bind_some _ _).symm.trans H; rw [hy303]; with_reducible exact H2_) | (have H2_ := (Option.bind_some _ _).symm.trans H; with_reducible exact H2_) | with_reducible exact H | (rw [hy303]; exact H) | exact H
                                    have Ny303 := Aside0.mk hy303
                                    clear hy303
                                    have H' := Aside0.mk H
                                    clear H
                                    obtain ⟨Ao122, co122, eo122⟩ := Kd.R_slice HO_6.out
                                    subst eo122
                                    have p292 : 0 ≤ ((ji11) : Int) := of_decide_eq_true (by first | (with_reducible assumption) | assumption)
                                    have q292 : (ji11) < (x6_1.length : Int) := of_decide_eq_true (by first | (with_reducible assumption) | assumption)
                                    obtain ⟨ad292, e292, hx292_0⟩ := Kd.at_int (Kd.R_reads' HO_6.out).2.2 (ji11) p292 q292
                                    cases e292
                                    replace p292 := eq_true p292
                                    replace q292 := eq_true q292
                                    have p107 : 0 ≤ ((ji104) : Int) := of_decide_eq_true (by first | (with_reducible assumption) | assumption)
                                    have q107 : (ji104) < (a0.size : Int) := of_decide_eq_true (by first | (with_reducible assumption) | assumption)
                                    have hx107 := bt_at a0 (ji104)
                                    replace p107 := eq_true p107
                                    replace q107 := eq_true q107
                                    have p120 : 0 ≤ (x8_1 : Int) := of_decide_eq_true (by first | (with_reducible assumption) | assumption)
                                    have q120 : x8_1 < (a0.size : Int) := of_decide_eq_true (by first | (with_reducible assumption) | assumption)
                                    have hx120 := bt_at a0 x8_1
                                    replace p120 := eq_true p120
                                    replace q120 := eq_true q120
                                    have p121 : 0 ≤ ((ji11) : Int) := of_decide_eq_true (by first | (with_reducible assumption) | assumption)
                                    have q121 : ((ji11) : Int) < ((x6_1.length : Int) : Int) := of_decide_eq_true (by first | (with_reducible assumption) | assumption)
                                    obtain ⟨go121, co121, eo121, gb121, gl121, cl121, HG121⟩ := Kd.R_form HO_6.out (by omega)
                                    (first | cases eo121 | (injection eo121 with ea_ en_ ec_; (first | subst ea_ | (injection ea_ with ea_; subst ea_)); subst ec_; clear en_))
                                    have GB121 := Aside0.mk gb121
                                    have GG121 := Aside0.mk HG121
                                    clear gb121 gl121 HG121
                                    (first | simp only [add_plain] at hx292_0 | skip)
                                    obtain ⟨hx121_0, hf121_0⟩ := Kd.R_celln 0 HO_6.out ((ji11) : Int) p121 q121
                                    replace p121 := eq_true p121
                                    replace q121 := eq_true q121
                                    have HP123 := Kd.R_putg HO_6.out ((ji11) : Int) (((bt a0 x8_1) - 48) % 256)
                                    go_wp2_with (first | ((with_reducible refine gate_store (t := 3) (p := 76) rfl ?_); refine store_event (t := 3) (p := 76) (v := ?vo_w124) (w1 := (wc.setCell ⟨go121, ((ji11) : Int).toNat, none⟩ (.int .i64 (((bt a0 x8_1) - 48) % 256)))) ?hg ?ho ?hn ?hr ?_; (case ho => rfl); (case hg => rfl); (case hn => rfl); (case hr => first | (go_simp; done) | (go_simp; rfl)); intro w124 hw; have hg : wc.grownBy w124 (some go121) := (by rw [hw]; exact HP123.2); have hp_ : Kd.R (Kd.int .i64) 3 w124 w.heap.size (fun _ => True) (.slice (some ⟨go121, 0, none⟩) x6_1.length co122) y303 := (by rw [hw, Ny303.out]; exact HP123.1); clear HP123; have n0_ := Aside0.mk (hp_); have n1_ := Aside0.mk ((by rw [hw]; exact below_set (HB.out) GB121.out : Below w.heap.size w w124)); clear HO_6; clear HB; have HO_6 := n0_; have HB := n1_; clear n0_ n1_; clear hg hw hp_))
                                    go_roundg kj4
                                    case measure => have := HK1.out; have := HJ4.out; omega
                                    case rel => exact ⟨(x5_1), (y303), (x7_1), (wrap64 (x8_1 + 1)), (by first | rfl | (simp; done) | (simp [*]; done)), (by first | rfl | (simp; done) | (simp [*]; done)), (by first | rfl | (simp; done) | (simp [*]; done)), H', ⟨by have := HK1.out; have := HJ4.out; omega⟩, ⟨by (with_reducible repeat (first | apply Kd.R_alloc | apply Kd.R_drewN | apply Kd.R_drew)); exact HO_6.out⟩, ⟨by repeat (first | (with_reducible first | exact HB.out | apply below_alloc | apply pw_below_drewN | apply below_drew1) | exact HB.out)⟩⟩
                                  · rw [if_neg c119] at H
                                    exact absurd H (by simp)
                                · rw [if_neg c118] at H
                                  exact absurd H (by simp)
                            · rw [if_neg c106] at H
                              exact absurd H (by simp)
                          · rw [if_neg c105] at H
                            exact absurd H (by simp)
                        · rw [if_neg c103] at H
                          have c103b0 : decide (0 < x8_1) = false := decide_eq_false c103
                          clear c103
                          by_cases c125 : 0 ≤ x8_1
                          · rw [if_pos c125] at H
                            have c125b0 : decide (0 ≤ x8_1) = true := decide_eq_true c125
                            clear c125
                            by_cases c126 : x8_1 < (a0.size : Int)
                            · rw [if_pos c126] at H
                              have c126b0 : decide (x8_1 < (a0.size : Int)) = true := decide_eq_true c126
                              clear c126
                              obtain ⟨y304, hy304⟩ : ∃ y_ : List Int, y_ = (x6_1.set ((ji11) : Int).toNat (((bt a0 x8_1) - 48) % 256)) := ⟨_, rfl⟩
                              replace H : (frisketref09_split.l0 kj4 a0 x5_1 y304 x7_1 (wrap64 (x8_1 + 1))) = some (r1, r2, r3) := by first | (rw [hy304]; with_reducible exact H) | (have H2_ := (Option.bind_some _ _).symm.trans H; rw [hy304]; with_reducible exact H2_) | (have H2_ := (Option.bind_some _ _).symm.trans H; with_reducible exact H2_) | with_reducible exact H | (rw [hy304]; exact H) | exact H
                              have Ny304 := Aside0.mk hy304
                              clear hy304
                              have H' := Aside0.mk H
                              clear H
                              obtain ⟨Ao129, co129, eo129⟩ := Kd.R_slice HO_6.out
                              subst eo129
                              have p292 : 0 ≤ ((ji11) : Int) := of_decide_eq_true (by first | (with_reducible assumption) | assumption)
                              have q292 : (ji11) < (x6_1.length : Int) := of_decide_eq_true (by first | (with_reducible assumption) | assumption)
                              obtain ⟨ad292, e292, hx292_0⟩ := Kd.at_int (Kd.R_reads' HO_6.out).2.2 (ji11) p292 q292
                              cases e292
                              replace p292 := eq_true p292
                              replace q292 := eq_true q292
                              have p127 : 0 ≤ (x8_1 : Int) := of_decide_eq_true (by first | (with_reducible assumption) | assumption)
                              have q127 : x8_1 < (a0.size : Int) := of_decide_eq_true (by first | (with_reducible assumption) | assumption)
                              have hx127 := bt_at a0 x8_1
                              replace p127 := eq_true p127
                              replace q127 := eq_true q127
                              have p128 : 0 ≤ ((ji11) : Int) := of_decide_eq_true (by first | (with_reducible assumption) | assumption)
                              have q128 : ((ji11) : Int) < ((x6_1.length : Int) : Int) := of_decide_eq_true (by first | (with_reducible assumption) | assumption)
                              obtain ⟨go128, co128, eo128, gb128, gl128, cl128, HG128⟩ := Kd.R_form HO_6.out (by omega)
                              (first | cases eo128 | (injection eo128 with ea_ en_ ec_; (first | subst ea_ | (injection ea_ with ea_; subst ea_)); subst ec_; clear en_))
                              have GB128 := Aside0.mk gb128
                              have GG128 := Aside0.mk HG128
                              clear gb128 gl128 HG128
                              (first | simp only [add_plain] at hx292_0 | skip)
                              obtain ⟨hx128_0, hf128_0⟩ := Kd.R_celln 0 HO_6.out ((ji11) : Int) p128 q128
                              replace p128 := eq_true p128
                              replace q128 := eq_true q128
                              have HP130 := Kd.R_putg HO_6.out ((ji11) : Int) (((bt a0 x8_1) - 48) % 256)
                              go_wp2_with (first | ((with_reducible refine gate_store (t := 3) (p := 76) rfl ?_); refine store_event (t := 3) (p := 76) (v := ?vo_w131) (w1 := (wc.setCell ⟨go128, ((ji11) : Int).toNat, none⟩ (.int .i64 (((bt a0 x8_1) - 48) % 256)))) ?hg ?ho ?hn ?hr ?_; (case ho => rfl); (case hg => rfl); (case hn => rfl); (case hr => first | (go_simp; done) | (go_simp; rfl)); intro w131 hw; have hg : wc.grownBy w131 (some go128) := (by rw [hw]; exact HP130.2); have hp_ : Kd.R (Kd.int .i64) 3 w131 w.heap.size (fun _ => True) (.slice (some ⟨go128, 0, none⟩) x6_1.length co129) y304 := (by rw [hw, Ny304.out]; exact HP130.1); clear HP130; have n0_ := Aside0.mk (hp_); have n1_ := Aside0.mk ((by rw [hw]; exact below_set (HB.out) GB128.out : Below w.heap.size w w131)); clear HO_6; clear HB; have HO_6 := n0_; have HB := n1_; clear n0_ n1_; clear hg hw hp_))
                              go_roundg kj4
                              case measure => have := HK1.out; have := HJ4.out; omega
                              case rel => exact ⟨(x5_1), (y304), (x7_1), (wrap64 (x8_1 + 1)), (by first | rfl | (simp; done) | (simp [*]; done)), (by first | rfl | (simp; done) | (simp [*]; done)), (by first | rfl | (simp; done) | (simp [*]; done)), H', ⟨by have := HK1.out; have := HJ4.out; omega⟩, ⟨by (with_reducible repeat (first | apply Kd.R_alloc | apply Kd.R_drewN | apply Kd.R_drew)); exact HO_6.out⟩, ⟨by repeat (first | (with_reducible first | exact HB.out | apply below_alloc | apply pw_below_drewN | apply below_drew1) | exact HB.out)⟩⟩
                            · rw [if_neg c126] at H
                              exact absurd H (by simp)
                          · rw [if_neg c125] at H
                            exact absurd H (by simp)
                  · rw [if_neg c14] at H
                    have c14b0 : ((rd x6_1 (ji11)) == 0) = false := beq_eq_false_iff_ne.mpr c14
                    have c14b1 : ((rd x6_1 (ji11)) != 0) = true := bne_iff_ne.mpr c14
                    simp only [Option.some.injEq, Prod.mk.injEq] at H
                    obtain ⟨rfl, rfl, rfl⟩ := H
                    obtain ⟨Ao132, co132, eo132⟩ := Kd.R_slice HO_6.out
                    subst eo132
                    have p292 : 0 ≤ ((ji11) : Int) := of_decide_eq_true (by first | (with_reducible assumption) | assumption)
                    have q292 : (ji11) < (x6_1.length : Int) := of_decide_eq_true (by first | (with_reducible assumption) | assumption)
                    obtain ⟨ad292, e292, hx292_0⟩ := Kd.at_int (Kd.R_reads' HO_6.out).2.2 (ji11) p292 q292
                    cases e292
                    replace p292 := eq_true p292
                    replace q292 := eq_true q292
                    go_wp2
                    go_ret3
                    exact ⟨_, by first | rfl | (simp [errW_none, errW_some] <;> rfl) | (simp only [← hji11]; first | rfl | (simp [errW_none, errW_some] <;> rfl)) | (simp [*, errW_none, errW_some] <;> rfl), by first | exact Kd.R_nil _ _ _ _ _ | exact Kd.N_nil _ _ _ _ _ | exact Kd.V_nil _ _ _ _ _ | exact Kd.Q_nil _ _ _ _ _ | exact Kd.S_nil _ _ _ _ _, by repeat (first | (with_reducible first | exact HB.out | apply below_alloc | apply pw_below_drewN | apply below_drew1) | exact HB.out)⟩
                · rw [if_neg c13] at H
                  exact absurd H (by simp)
              · rw [if_neg c12] at H
                exact absurd H (by simp)
            · replace c10 := Bool.eq_false_iff.mpr c10
              subst c10
              have H1 : (if 0 ≤ x8_1 then (if x8_1 < (a0.size : Int) then ((frisketref09_small.f (bt a0 x8_1)).bind fun t305 => (if t305 = true then (if x8_1 ≤ (wrap64 (x8_1 + 1)) then (if (wrap64 (x8_1 + 1)) ≤ (a0.size : Int) then (if x5_1.size + (a0.extract (x8_1 : Int).toNat ((wrap64 (x8_1 + 1)) : Int).toNat).size ≤ 9223372036854775807 then (if x6_1.length < 17592186044416 then (frisketref09_split.l0 kj4 a0 (x5_1 ++ (a0.extract (x8_1 : Int).toNat ((wrap64 (x8_1 + 1)) : Int).toNat)) (x6_1 ++ [0]) (wrap64 (x7_1 + 1)) (wrap64 (x8_1 + 1))) else (none)) else (none)) else (none)) else (none)) else (if (bt a0 x8_1) = 46 then (if x8_1 = 0 then (if x8_1 ≤ (wrap64 (x8_1 + 1)) then (if (wrap64 (x8_1 + 1)) ≤ (a0.size : Int) then (if x5_1.size + (a0.extract (x8_1 : Int).toNat ((wrap64 (x8_1 + 1)) : Int).toNat).size ≤ 9223372036854775807 then (if x6_1.length < 17592186044416 then (frisketref09_split.l0 kj4 a0 (x5_1 ++ (a0.extract (x8_1 : Int).toNat ((wrap64 (x8_1 + 1)) : Int).toNat)) (x6_1 ++ [0]) x7_1 (wrap64 (x8_1 + 1))) else (none)) else (none)) else (none)) else (none)) else (if x8_1 = (wrap64 ((a0.size : Int) - 1)) then (if x8_1 ≤ (wrap64 (x8_1 + 1)) then (if (wrap64 (x8_1 + 1)) ≤ (a0.size : Int) then (if x5_1.size + (a0.extract (x8_1 : Int).toNat ((wrap64 (x8_1 + 1)) : Int).toNat).size ≤ 9223372036854775807 then (if x6_1.length < 17592186044416 then (frisketref09_split.l0 kj4 a0 (x5_1 ++ (a0.extract (x8_1 : Int).toNat ((wrap64 (x8_1 + 1)) : Int).toNat)) (x6_1 ++ [0]) x7_1 (wrap64 (x8_1 + 1))) else (none)) else (none)) else (none)) else (none)) else (some ((⟨#[]⟩ : ByteArray), ([] : List Int), false)))) else (some ((⟨#[]⟩ : ByteArray), ([] : List Int), false))))) else (none)) else (none)) = some (r1, r2, r3) := by rw [if_neg (show ¬ (false = true) by decide)] at H; exact H
              clear H
              have H := H1
              clear H1
              by_cases c133 : 0 ≤ x8_1
              · rw [if_pos c133] at H
                have c133b0 : decide (0 ≤ x8_1) = true := decide_eq_true c133
                clear c133
                by_cases c134 : x8_1 < (a0.size : Int)
                · rw [if_pos c134] at H
                  have c134b0 : decide (x8_1 < (a0.size : Int)) = true := decide_eq_true c134
                  clear c134
                  replace H := Option.bind_eq_some_iff.mp H
                  obtain ⟨t305, A1360, H⟩ := H
                  replace H : (if t305 = true then (if x8_1 ≤ (wrap64 (x8_1 + 1)) then (if (wrap64 (x8_1 + 1)) ≤ (a0.size : Int) then (if x5_1.size + (a0.extract (x8_1 : Int).toNat ((wrap64 (x8_1 + 1)) : Int).toNat).size ≤ 9223372036854775807 then (if x6_1.length < 17592186044416 then (frisketref09_split.l0 kj4 a0 (x5_1 ++ (a0.extract (x8_1 : Int).toNat ((wrap64 (x8_1 + 1)) : Int).toNat)) (x6_1 ++ [0]) (wrap64 (x7_1 + 1)) (wrap64 (x8_1 + 1))) else (none)) else (none)) else (none)) else (none)) else (if (bt a0 x8_1) = 46 then (if x8_1 = 0 then (if x8_1 ≤ (wrap64 (x8_1 + 1)) then (if (wrap64 (x8_1 + 1)) ≤ (a0.size : Int) then (if x5_1.size + (a0.extract (x8_1 : Int).toNat ((wrap64 (x8_1 + 1)) : Int).toNat).size ≤ 9223372036854775807 then (if x6_1.length < 17592186044416 then (frisketref09_split.l0 kj4 a0 (x5_1 ++ (a0.extract (x8_1 : Int).toNat ((wrap64 (x8_1 + 1)) : Int).toNat)) (x6_1 ++ [0]) x7_1 (wrap64 (x8_1 + 1))) else (none)) else (none)) else (none)) else (none)) else (if x8_1 = (wrap64 ((a0.size : Int) - 1)) then (if x8_1 ≤ (wrap64 (x8_1 + 1)) then (if (wrap64 (x8_1 + 1)) ≤ (a0.size : Int) then (if x5_1.size + (a0.extract (x8_1 : Int).toNat ((wrap64 (x8_1 + 1)) : Int).toNat).size ≤ 9223372036854775807 then (if x6_1.length < 17592186044416 then (frisketref09_split.l0 kj4 a0 (x5_1 ++ (a0.extract (x8_1 : Int).toNat ((wrap64 (x8_1 + 1)) : Int).toNat)) (x6_1 ++ [0]) x7_1 (wrap64 (x8_1 + 1))) else (none)) else (none)) else (none)) else (none)) else (some ((⟨#[]⟩ : ByteArray), ([] : List Int), false)))) else (some ((⟨#[]⟩ : ByteArray), ([] : List Int), false)))) = some (r1, r2, r3) := H
                  have A136 := Aside0.mk A1360
                  clear A1360
                  by_cases c137 : t305 = true
                  · subst c137
                    have H1 : (if x8_1 ≤ (wrap64 (x8_1 + 1)) then (if (wrap64 (x8_1 + 1)) ≤ (a0.size : Int) then (if x5_1.size + (a0.extract (x8_1 : Int).toNat ((wrap64 (x8_1 + 1)) : Int).toNat).size ≤ 9223372036854775807 then (if x6_1.length < 17592186044416 then (frisketref09_split.l0 kj4 a0 (x5_1 ++ (a0.extract (x8_1 : Int).toNat ((wrap64 (x8_1 + 1)) : Int).toNat)) (x6_1 ++ [0]) (wrap64 (x7_1 + 1)) (wrap64 (x8_1 + 1))) else (none)) else (none)) else (none)) else (none)) = some (r1, r2, r3) := by rw [if_pos rfl] at H; exact H
                    clear H
                    have H := H1
                    clear H1
                    have c138b0 := eq_true (of_decide_eq_true (by first | (with_reducible assumption) | assumption) : 0 ≤ x8_1)
                    by_cases c139 : x8_1 ≤ (wrap64 (x8_1 + 1))
                    · rw [if_pos c139] at H
                      have c139b0 := eq_true c139
                      have c139b1 : decide (x8_1 ≤ (wrap64 (x8_1 + 1))) = true := decide_eq_true c139
                      by_cases c140 : (wrap64 (x8_1 + 1)) ≤ (a0.size : Int)
                      · rw [if_pos c140] at H
                        have c140b0 := eq_true c140
                        have c140b1 : decide ((wrap64 (x8_1 + 1)) ≤ (a0.size : Int)) = true := decide_eq_true c140
                        by_cases c141 : x5_1.size + (a0.extract (x8_1 : Int).toNat ((wrap64 (x8_1 + 1)) : Int).toNat).size ≤ 9223372036854775807
                        · rw [if_pos c141] at H
                          have c141b0 := eq_true c141
                          have c141b1 : decide (x5_1.size + (a0.extract (x8_1 : Int).toNat ((wrap64 (x8_1 + 1)) : Int).toNat).size ≤ 9223372036854775807) = true := decide_eq_true c141
                          try have c141b2 : (9223372036854775807 < x5_1.size + (a0.extract (x8_1 : Int).toNat ((wrap64 (x8_1 + 1)) : Int).toNat).size) = False := eq_false (Nat.not_lt.2 c141)
                          (try have c141b3 : (9223372036854775807 < x5_1.size + (((wrap64 (x8_1 + 1)) : Int).toNat - (x8_1 : Int).toNat)) = False := by have h_ := c141b2; (try simp only [ByteArray.size_append] at h_); rw [ext_size (b := a0) (S := (x8_1 : Int).toNat) (X := ((wrap64 (x8_1 + 1)) : Int)) (by first | assumption | exact of_decide_eq_true (by assumption) | exact Int.le_of_lt (Int.not_le.1 (of_decide_eq_false (p := ((wrap64 (x8_1 + 1)) ≥ (a0.size : Int))) (by assumption))) | exact Int.le_of_lt (Int.not_le.1 (of_decide_eq_false (p := ((a0.size : Int) ≤ (wrap64 (x8_1 + 1)))) (by assumption))))] at h_; first | exact h_ | (rw [Nat.add_assoc]; exact h_) | (rw [← Nat.add_assoc] at h_; exact h_))
                          by_cases c142 : x6_1.length < 17592186044416
                          · rw [if_pos c142] at H
                            have LMc142 := Aside0.mk c142
                            clear c142
                            obtain ⟨y306, hy306⟩ : ∃ y_ : List Int, y_ = (x6_1 ++ [0]) := ⟨_, rfl⟩
                            replace H : (frisketref09_split.l0 kj4 a0 (x5_1 ++ (a0.extract (x8_1 : Int).toNat ((wrap64 (x8_1 + 1)) : Int).toNat)) y306 (wrap64 (x7_1 + 1)) (wrap64 (x8_1 + 1))) = some (r1, r2, r3) := by first | (rw [hy306]; with_reducible exact H) | (have H2_ := (Option.bind_some _ _).symm.trans H; rw [hy306]; with_reducible exact H2_) | (have H2_ := (Option.bind_some _ _).symm.trans H; with_reducible exact H2_) | with_reducible exact H | (rw [hy306]; exact H) | exact H
                            have Ny306 := Aside0.mk hy306
                            clear hy306
                            have H' := Aside0.mk H
                            clear H
                            have p135 : 0 ≤ (x8_1 : Int) := of_decide_eq_true (by first | (with_reducible assumption) | assumption)
                            have q135 : x8_1 < (a0.size : Int) := of_decide_eq_true (by first | (with_reducible assumption) | assumption)
                            have hx135 := bt_at a0 x8_1
                            replace p135 := eq_true p135
                            replace q135 := eq_true q135
                            go_wp2_with (first | ((with_reducible refine gate_callee (f := 42) rfl ?_); refine goesL_ (some 81) rfl rfl Tryd.func42 (by kernel_rfl) rfl #[.int .u8 (bt a0 x8_1)] rfl (by (try simp only [List.map_toArray, List.map_cons, List.map_nil]); first | done | rfl | (simp only [List.length_drop, List.length_take]; rfl)) ?_; (with_reducible refine (frisketref09_small.calls (bt a0 x8_1) true _ A136.out).mono ?_); rintro e w' ⟨rfl, ⟨nd, rfl⟩⟩; refine ⟨_, rfl, ?_⟩) | ((with_reducible refine gate_builtin (b := .append) (xs := #[.tmp 107, .tmp 108]) rfl ?_); (try (refine gate_guard (by rfl) ?_; dsimp only)); at_builtin; refine Kd.R_append (Kd.int .i64) (w0 := w) w.heap.size rfl (.tmp 107) (.tmp 108) 22 3 (.int .i64 0) 8 rfl Tryd.underlying22 info3 rfl (by decide) (by omega) u6 x6_1 0 [.int .i64 0] (fun _ => True) (fun _ => False) rfl rfl ?aP (fun _ hk => hk.elim) ?aF ?aO ?aB ?aS ?aL ?_; (case aP => exact rfl); (case aB => exact (by repeat (first | (with_reducible first | exact HB.out | apply below_alloc | apply pw_below_drewN | apply below_drew1) | exact HB.out))); (case aF => exact (fun _ _ => trivial)); (case aO => exact (by (with_reducible repeat (first | apply Kd.R_alloc | apply Kd.R_drewN | apply Kd.R_drew)); exact HO_6.out)); (case aS => exact (below_size (by repeat (first | (with_reducible first | exact HB.out | apply below_alloc | apply pw_below_drewN | apply below_drew1) | exact HB.out)))); (case aL => have := LMc142.out; omega); intro v307 w143 ho hb hg hat; rw [← Ny306.out] at ho; have n0_ := Aside0.mk (hb); have n1_ := Aside0.mk (ho); clear HB; clear HO_6; have HB := n0_; have HO308 := n1_; clear n0_ n1_; clear ho hb hg hat))
                            go_roundg kj4
                            case measure => have := HK1.out; have := HJ4.out; omega
                            case rel => exact ⟨(x5_1 ++ (a0.extract (x8_1 : Int).toNat ((wrap64 (x8_1 + 1)) : Int).toNat)), (y306), (wrap64 (x7_1 + 1)), (wrap64 (x8_1 + 1)), (by first | rfl | (simp; done) | (simp [*]; done)), (by first | rfl | (simp; done) | (simp [*]; done)), (by first | rfl | (simp; done) | (simp [*]; done)), H', ⟨by have := HK1.out; have := HJ4.out; omega⟩, ⟨by (with_reducible repeat (first | apply Kd.R_alloc | apply Kd.R_drewN | apply Kd.R_drew)); exact HO308.out⟩, ⟨by repeat (first | (with_reducible first | exact HB.out | apply below_alloc | apply pw_below_drewN | apply below_drew1) | exact HB.out)⟩⟩
                          · rw [if_neg c142] at H
                            exact absurd H (by simp)
                        · rw [if_neg c141] at H
                          exact absurd H (by simp)
                      · rw [if_neg c140] at H
                        exact absurd H (by simp)
                    · rw [if_neg c139] at H
                      exact absurd H (by simp)
                  · replace c137 := Bool.eq_false_iff.mpr c137
                    subst c137
                    have H1 : (if (bt a0 x8_1) = 46 then (if x8_1 = 0 then (if x8_1 ≤ (wrap64 (x8_1 + 1)) then (if (wrap64 (x8_1 + 1)) ≤ (a0.size : Int) then (if x5_1.size + (a0.extract (x8_1 : Int).toNat ((wrap64 (x8_1 + 1)) : Int).toNat).size ≤ 9223372036854775807 then (if x6_1.length < 17592186044416 then (frisketref09_split.l0 kj4 a0 (x5_1 ++ (a0.extract (x8_1 : Int).toNat ((wrap64 (x8_1 + 1)) : Int).toNat)) (x6_1 ++ [0]) x7_1 (wrap64 (x8_1 + 1))) else (none)) else (none)) else (none)) else (none)) else (if x8_1 = (wrap64 ((a0.size : Int) - 1)) then (if x8_1 ≤ (wrap64 (x8_1 + 1)) then (if (wrap64 (x8_1 + 1)) ≤ (a0.size : Int) then (if x5_1.size + (a0.extract (x8_1 : Int).toNat ((wrap64 (x8_1 + 1)) : Int).toNat).size ≤ 9223372036854775807 then (if x6_1.length < 17592186044416 then (frisketref09_split.l0 kj4 a0 (x5_1 ++ (a0.extract (x8_1 : Int).toNat ((wrap64 (x8_1 + 1)) : Int).toNat)) (x6_1 ++ [0]) x7_1 (wrap64 (x8_1 + 1))) else (none)) else (none)) else (none)) else (none)) else (some ((⟨#[]⟩ : ByteArray), ([] : List Int), false)))) else (some ((⟨#[]⟩ : ByteArray), ([] : List Int), false))) = some (r1, r2, r3) := by rw [if_neg (show ¬ (false = true) by decide)] at H; exact H
                    clear H
                    have H := H1
                    clear H1
                    by_cases c145 : (bt a0 x8_1) = 46
                    · rw [if_pos c145] at H
                      have c145b0 : ((bt a0 x8_1) == 46) = true := beq_iff_eq.mpr c145
                      have c145b1 : ((bt a0 x8_1) != 46) = false := bne_eq_false_iff_eq.mpr c145
                      clear c145
                      by_cases c146 : x8_1 = 0
                      · rw [if_pos c146] at H
                        have c146b0 : (x8_1 == 0) = true := beq_iff_eq.mpr c146
                        have c146b1 : (x8_1 != 0) = false := bne_eq_false_iff_eq.mpr c146
                        clear c146
                        have c147b0 := eq_true (of_decide_eq_true (by first | (with_reducible assumption) | assumption) : 0 ≤ x8_1)
                        by_cases c148 : x8_1 ≤ (wrap64 (x8_1 + 1))
                        · rw [if_pos c148] at H
                          have c148b0 := eq_true c148
                          have c148b1 : decide (x8_1 ≤ (wrap64 (x8_1 + 1))) = true := decide_eq_true c148
                          by_cases c149 : (wrap64 (x8_1 + 1)) ≤ (a0.size : Int)
                          · rw [if_pos c149] at H
                            have c149b0 := eq_true c149
                            have c149b1 : decide ((wrap64 (x8_1 + 1)) ≤ (a0.size : Int)) = true := decide_eq_true c149
                            by_cases c150 : x5_1.size + (a0.extract (x8_1 : Int).toNat ((wrap64 (x8_1 + 1)) : Int).toNat).size ≤ 9223372036854775807
                            · rw [if_pos c150] at H
                              have c150b0 := eq_true c150
                              have c150b1 : decide (x5_1.size + (a0.extract (x8_1 : Int).toNat ((wrap64 (x8_1 + 1)) : Int).toNat).size ≤ 9223372036854775807) = true := decide_eq_true c150
                              try have c150b2 : (9223372036854775807 < x5_1.size + (a0.extract (x8_1 : Int).toNat ((wrap64 (x8_1 + 1)) : Int).toNat).size) = False := eq_false (Nat.not_lt.2 c150)
                              (try have c150b3 : (9223372036854775807 < x5_1.size + (((wrap64 (x8_1 + 1)) : Int).toNat - (x8_1 : Int).toNat)) = False := by have h_ := c150b2; (try simp only [ByteArray.size_append] at h_); rw [ext_size (b := a0) (S := (x8_1 : Int).toNat) (X := ((wrap64 (x8_1 + 1)) : Int)) (by first | assumption | exact of_decide_eq_true (by assumption) | exact Int.le_of_lt (Int.not_le.1 (of_decide_eq_false (p := ((wrap64 (x8_1 + 1)) ≥ (a0.size : Int))) (by assumption))) | exact Int.le_of_lt (Int.not_le.1 (of_decide_eq_false (p := ((a0.size : Int) ≤ (wrap64 (x8_1 + 1)))) (by assumption))))] at h_; first | exact h_ | (rw [Nat.add_assoc]; exact h_) | (rw [← Nat.add_assoc] at h_; exact h_))
                              by_cases c151 : x6_1.length < 17592186044416
                              · rw [if_pos c151] at H
                                have LMc151 := Aside0.mk c151
                                clear c151
                                obtain ⟨y309, hy309⟩ : ∃ y_ : List Int, y_ = (x6_1 ++ [0]) := ⟨_, rfl⟩
                                replace H : (frisketref09_split.l0 kj4 a0 (x5_1 ++ (a0.extract (x8_1 : Int).toNat ((wrap64 (x8_1 + 1)) : Int).toNat)) y309 x7_1 (wrap64 (x8_1 + 1))) = some (r1, r2, r3) := by first | (rw [hy309]; with_reducible exact H) | (have H2_ := (Option.bind_some _ _).symm.trans H; rw [hy309]; with_reducible exact H2_) | (have H2_ := (Option.bind_some _ _).symm.trans H; with_reducible exact H2_) | with_reducible exact H | (rw [hy309]; exact H) | exact H
                                have Ny309 := Aside0.mk hy309
                                clear hy309
                                have H' := Aside0.mk H
                                clear H
                                have p135 : 0 ≤ (x8_1 : Int) := of_decide_eq_true (by first | (with_reducible assumption) | assumption)
                                have q135 : x8_1 < (a0.size : Int) := of_decide_eq_true (by first | (with_reducible assumption) | assumption)
                                have hx135 := bt_at a0 x8_1
                                replace p135 := eq_true p135
                                replace q135 := eq_true q135
                                go_wp2_with (first | ((with_reducible refine gate_callee (f := 42) rfl ?_); refine goesL_ (some 81) rfl rfl Tryd.func42 (by kernel_rfl) rfl #[.int .u8 (bt a0 x8_1)] rfl (by (try simp only [List.map_toArray, List.map_cons, List.map_nil]); first | done | rfl | (simp only [List.length_drop, List.length_take]; rfl)) ?_; (with_reducible refine (frisketref09_small.calls (bt a0 x8_1) false _ A136.out).mono ?_); rintro e w' ⟨rfl, ⟨nd, rfl⟩⟩; refine ⟨_, rfl, ?_⟩; have p144 : 0 ≤ (x8_1 : Int) := of_decide_eq_true (by first | (with_reducible assumption) | assumption); have q144 : x8_1 < (a0.size : Int) := of_decide_eq_true (by first | (with_reducible assumption) | assumption); have hx144 := bt_at a0 x8_1; replace p144 := eq_true p144; replace q144 := eq_true q144) | ((with_reducible refine gate_builtin (b := .append) (xs := #[.tmp 107, .tmp 108]) rfl ?_); (try (refine gate_guard (by rfl) ?_; dsimp only)); at_builtin; refine Kd.R_append (Kd.int .i64) (w0 := w) w.heap.size rfl (.tmp 107) (.tmp 108) 22 3 (.int .i64 0) 8 rfl Tryd.underlying22 info3 rfl (by decide) (by omega) u6 x6_1 0 [.int .i64 0] (fun _ => True) (fun _ => False) rfl rfl ?aP (fun _ hk => hk.elim) ?aF ?aO ?aB ?aS ?aL ?_; (case aP => exact rfl); (case aB => exact (by repeat (first | (with_reducible first | exact HB.out | apply below_alloc | apply pw_below_drewN | apply below_drew1) | exact HB.out))); (case aF => exact (fun _ _ => trivial)); (case aO => exact (by (with_reducible repeat (first | apply Kd.R_alloc | apply Kd.R_drewN | apply Kd.R_drew)); exact HO_6.out)); (case aS => exact (below_size (by repeat (first | (with_reducible first | exact HB.out | apply below_alloc | apply pw_below_drewN | apply below_drew1) | exact HB.out)))); (case aL => have := LMc151.out; omega); intro v310 w152 ho hb hg hat; rw [← Ny309.out] at ho; have n0_ := Aside0.mk (hb); have n1_ := Aside0.mk (ho); clear HB; clear HO_6; have HB := n0_; have HO311 := n1_; clear n0_ n1_; clear ho hb hg hat))
                                go_roundg kj4
                                case measure => have := HK1.out; have := HJ4.out; omega
                                case rel => exact ⟨(x5_1 ++ (a0.extract (x8_1 : Int).toNat ((wrap64 (x8_1 + 1)) : Int).toNat)), (y309), (x7_1), (wrap64 (x8_1 + 1)), (by first | rfl | (simp; done) | (simp [*]; done)), (by first | rfl | (simp; done) | (simp [*]; done)), (by first | rfl | (simp; done) | (simp [*]; done)), H', ⟨by have := HK1.out; have := HJ4.out; omega⟩, ⟨by (with_reducible repeat (first | apply Kd.R_alloc | apply Kd.R_drewN | apply Kd.R_drew)); exact HO311.out⟩, ⟨by repeat (first | (with_reducible first | exact HB.out | apply below_alloc | apply pw_below_drewN | apply below_drew1) | exact HB.out)⟩⟩
                              · rw [if_neg c151] at H
                                exact absurd H (by simp)
                            · rw [if_neg c150] at H
                              exact absurd H (by simp)
                          · rw [if_neg c149] at H
                            exact absurd H (by simp)
                        · rw [if_neg c148] at H
                          exact absurd H (by simp)
                      · rw [if_neg c146] at H
                        have c146b0 : (x8_1 == 0) = false := beq_eq_false_iff_ne.mpr c146
                        have c146b1 : (x8_1 != 0) = true := bne_iff_ne.mpr c146
                        by_cases c153 : x8_1 = (wrap64 ((a0.size : Int) - 1))
                        · rw [if_pos c153] at H
                          have c153b0 : (x8_1 == (wrap64 ((a0.size : Int) - 1))) = true := beq_iff_eq.mpr c153
                          have c153b1 : (x8_1 != (wrap64 ((a0.size : Int) - 1))) = false := bne_eq_false_iff_eq.mpr c153
                          clear c153
                          have c154b0 := eq_true (of_decide_eq_true (by first | (with_reducible assumption) | assumption) : 0 ≤ x8_1)
                          by_cases c155 : x8_1 ≤ (wrap64 (x8_1 + 1))
                          · rw [if_pos c155] at H
                            have c155b0 := eq_true c155
                            have c155b1 : decide (x8_1 ≤ (wrap64 (x8_1 + 1))) = true := decide_eq_true c155
                            by_cases c156 : (wrap64 (x8_1 + 1)) ≤ (a0.size : Int)
                            · rw [if_pos c156] at H
                              have c156b0 := eq_true c156
                              have c156b1 : decide ((wrap64 (x8_1 + 1)) ≤ (a0.size : Int)) = true := decide_eq_true c156
                              by_cases c157 : x5_1.size + (a0.extract (x8_1 : Int).toNat ((wrap64 (x8_1 + 1)) : Int).toNat).size ≤ 9223372036854775807
                              · rw [if_pos c157] at H
                                have c157b0 := eq_true c157
                                have c157b1 : decide (x5_1.size + (a0.extract (x8_1 : Int).toNat ((wrap64 (x8_1 + 1)) : Int).toNat).size ≤ 9223372036854775807) = true := decide_eq_true c157
                                try have c157b2 : (9223372036854775807 < x5_1.size + (a0.extract (x8_1 : Int).toNat ((wrap64 (x8_1 + 1)) : Int).toNat).size) = False := eq_false (Nat.not_lt.2 c157)
                                (try have c157b3 : (9223372036854775807 < x5_1.size + (((wrap64 (x8_1 + 1)) : Int).toNat - (x8_1 : Int).toNat)) = False := by have h_ := c157b2; (try simp only [ByteArray.size_append] at h_); rw [ext_size (b := a0) (S := (x8_1 : Int).toNat) (X := ((wrap64 (x8_1 + 1)) : Int)) (by first | assumption | exact of_decide_eq_true (by assumption) | exact Int.le_of_lt (Int.not_le.1 (of_decide_eq_false (p := ((wrap64 (x8_1 + 1)) ≥ (a0.size : Int))) (by assumption))) | exact Int.le_of_lt (Int.not_le.1 (of_decide_eq_false (p := ((a0.size : Int) ≤ (wrap64 (x8_1 + 1)))) (by assumption))))] at h_; first | exact h_ | (rw [Nat.add_assoc]; exact h_) | (rw [← Nat.add_assoc] at h_; exact h_))
                                by_cases c158 : x6_1.length < 17592186044416
                                · rw [if_pos c158] at H
                                  have LMc158 := Aside0.mk c158
                                  clear c158
                                  obtain ⟨y312, hy312⟩ : ∃ y_ : List Int, y_ = (x6_1 ++ [0]) := ⟨_, rfl⟩
                                  replace H : (frisketref09_split.l0 kj4 a0 (x5_1 ++ (a0.extract (x8_1 : Int).toNat ((wrap64 (x8_1 + 1)) : Int).toNat)) y312 x7_1 (wrap64 (x8_1 + 1))) = some (r1, r2, r3) := by first | (rw [hy312]; with_reducible exact H) | (have H2_ := (Option.bind_some _ _).symm.trans H; rw [hy312]; with_reducible exact H2_) | (have H2_ := (Option.bind_some _ _).symm.trans H; with_reducible exact H2_) | with_reducible exact H | (rw [hy312]; exact H) | exact H
                                  have Ny312 := Aside0.mk hy312
                                  clear hy312
                                  have H' := Aside0.mk H
                                  clear H
                                  have p135 : 0 ≤ (x8_1 : Int) := of_decide_eq_true (by first | (with_reducible assumption) | assumption)
                                  have q135 : x8_1 < (a0.size : Int) := of_decide_eq_true (by first | (with_reducible assumption) | assumption)
                                  have hx135 := bt_at a0 x8_1
                                  replace p135 := eq_true p135
                                  replace q135 := eq_true q135
                                  go_wp2_with (first | ((with_reducible refine gate_callee (f := 42) rfl ?_); refine goesL_ (some 81) rfl rfl Tryd.func42 (by kernel_rfl) rfl #[.int .u8 (bt a0 x8_1)] rfl (by (try simp only [List.map_toArray, List.map_cons, List.map_nil]); first | done | rfl | (simp only [List.length_drop, List.length_take]; rfl)) ?_; (with_reducible refine (frisketref09_small.calls (bt a0 x8_1) false _ A136.out).mono ?_); rintro e w' ⟨rfl, ⟨nd, rfl⟩⟩; refine ⟨_, rfl, ?_⟩; have p144 : 0 ≤ (x8_1 : Int) := of_decide_eq_true (by first | (with_reducible assumption) | assumption); have q144 : x8_1 < (a0.size : Int) := of_decide_eq_true (by first | (with_reducible assumption) | assumption); have hx144 := bt_at a0 x8_1; replace p144 := eq_true p144; replace q144 := eq_true q144) | ((with_reducible refine gate_builtin (b := .append) (xs := #[.tmp 107, .tmp 108]) rfl ?_); (try (refine gate_guard (by rfl) ?_; dsimp only)); at_builtin; refine Kd.R_append (Kd.int .i64) (w0 := w) w.heap.size rfl (.tmp 107) (.tmp 108) 22 3 (.int .i64 0) 8 rfl Tryd.underlying22 info3 rfl (by decide) (by omega) u6 x6_1 0 [.int .i64 0] (fun _ => True) (fun _ => False) rfl rfl ?aP (fun _ hk => hk.elim) ?aF ?aO ?aB ?aS ?aL ?_; (case aP => exact rfl); (case aB => exact (by repeat (first | (with_reducible first | exact HB.out | apply below_alloc | apply pw_below_drewN | apply below_drew1) | exact HB.out))); (case aF => exact (fun _ _ => trivial)); (case aO => exact (by (with_reducible repeat (first | apply Kd.R_alloc | apply Kd.R_drewN | apply Kd.R_drew)); exact HO_6.out)); (case aS => exact (below_size (by repeat (first | (with_reducible first | exact HB.out | apply below_alloc | apply pw_below_drewN | apply below_drew1) | exact HB.out)))); (case aL => have := LMc158.out; omega); intro v313 w159 ho hb hg hat; rw [← Ny312.out] at ho; have n0_ := Aside0.mk (hb); have n1_ := Aside0.mk (ho); clear HB; clear HO_6; have HB := n0_; have HO314 := n1_; clear n0_ n1_; clear ho hb hg hat))
                                  go_roundg kj4
                                  case measure => have := HK1.out; have := HJ4.out; omega
                                  case rel => exact ⟨(x5_1 ++ (a0.extract (x8_1 : Int).toNat ((wrap64 (x8_1 + 1)) : Int).toNat)), (y312), (x7_1), (wrap64 (x8_1 + 1)), (by first | rfl | (simp; done) | (simp [*]; done)), (by first | rfl | (simp; done) | (simp [*]; done)), (by first | rfl | (simp; done) | (simp [*]; done)), H', ⟨by have := HK1.out; have := HJ4.out; omega⟩, ⟨by (with_reducible repeat (first | apply Kd.R_alloc | apply Kd.R_drewN | apply Kd.R_drew)); exact HO314.out⟩, ⟨by repeat (first | (with_reducible first | exact HB.out | apply below_alloc | apply pw_below_drewN | apply below_drew1) | exact HB.out)⟩⟩
                                · rw [if_neg c158] at H
                                  exact absurd H (by simp)
                              · rw [if_neg c157] at H
                                exact absurd H (by simp)
                            · rw [if_neg c156] at H
                              exact absurd H (by simp)
                          · rw [if_neg c155] at H
                            exact absurd H (by simp)
                        · rw [if_neg c153] at H
                          have c153b0 : (x8_1 == (wrap64 ((a0.size : Int) - 1))) = false := beq_eq_false_iff_ne.mpr c153
                          have c153b1 : (x8_1 != (wrap64 ((a0.size : Int) - 1))) = true := bne_iff_ne.mpr c153
                          simp only [Option.some.injEq, Prod.mk.injEq] at H
                          obtain ⟨rfl, rfl, rfl⟩ := H
                          have p135 : 0 ≤ (x8_1 : Int) := of_decide_eq_true (by first | (with_reducible assumption) | assumption)
                          have q135 : x8_1 < (a0.size : Int) := of_decide_eq_true (by first | (with_reducible assumption) | assumption)
                          have hx135 := bt_at a0 x8_1
                          replace p135 := eq_true p135
                          replace q135 := eq_true q135
                          go_wp2_with (first | ((with_reducible refine gate_callee (f := 42) rfl ?_); refine goesL_ (some 81) rfl rfl Tryd.func42 (by kernel_rfl) rfl #[.int .u8 (bt a0 x8_1)] rfl (by (try simp only [List.map_toArray, List.map_cons, List.map_nil]); first | done | rfl | (simp only [List.length_drop, List.length_take]; rfl)) ?_; (with_reducible refine (frisketref09_small.calls (bt a0 x8_1) false _ A136.out).mono ?_); rintro e w' ⟨rfl, ⟨nd, rfl⟩⟩; refine ⟨_, rfl, ?_⟩; have p144 : 0 ≤ (x8_1 : Int) := of_decide_eq_true (by first | (with_reducible assumption) | assumption); have q144 : x8_1 < (a0.size : Int) := of_decide_eq_true (by first | (with_reducible assumption) | assumption); have hx144 := bt_at a0 x8_1; replace p144 := eq_true p144; replace q144 := eq_true q144))
                          go_ret3
                          exact ⟨_, by first | rfl | (simp [errW_none, errW_some] <;> rfl) | (simp [*, errW_none, errW_some] <;> rfl), by first | exact Kd.R_nil _ _ _ _ _ | exact Kd.N_nil _ _ _ _ _ | exact Kd.V_nil _ _ _ _ _ | exact Kd.Q_nil _ _ _ _ _ | exact Kd.S_nil _ _ _ _ _, by repeat (first | (with_reducible first | exact HB.out | apply below_alloc | apply pw_below_drewN | apply below_drew1) | exact HB.out)⟩
                    · rw [if_neg c145] at H
                      have c145b0 : ((bt a0 x8_1) == 46) = false := beq_eq_false_iff_ne.mpr c145
                      have c145b1 : ((bt a0 x8_1) != 46) = true := bne_iff_ne.mpr c145
                      simp only [Option.some.injEq, Prod.mk.injEq] at H
                      obtain ⟨rfl, rfl, rfl⟩ := H
                      have p135 : 0 ≤ (x8_1 : Int) := of_decide_eq_true (by first | (with_reducible assumption) | assumption)
                      have q135 : x8_1 < (a0.size : Int) := of_decide_eq_true (by first | (with_reducible assumption) | assumption)
                      have hx135 := bt_at a0 x8_1
                      replace p135 := eq_true p135
                      replace q135 := eq_true q135
                      go_wp2_with (first | ((with_reducible refine gate_callee (f := 42) rfl ?_); refine goesL_ (some 81) rfl rfl Tryd.func42 (by kernel_rfl) rfl #[.int .u8 (bt a0 x8_1)] rfl (by (try simp only [List.map_toArray, List.map_cons, List.map_nil]); first | done | rfl | (simp only [List.length_drop, List.length_take]; rfl)) ?_; (with_reducible refine (frisketref09_small.calls (bt a0 x8_1) false _ A136.out).mono ?_); rintro e w' ⟨rfl, ⟨nd, rfl⟩⟩; refine ⟨_, rfl, ?_⟩; have p144 : 0 ≤ (x8_1 : Int) := of_decide_eq_true (by first | (with_reducible assumption) | assumption); have q144 : x8_1 < (a0.size : Int) := of_decide_eq_true (by first | (with_reducible assumption) | assumption); have hx144 := bt_at a0 x8_1; replace p144 := eq_true p144; replace q144 := eq_true q144))
                      go_ret3
                      exact ⟨_, by first | rfl | (simp [errW_none, errW_some] <;> rfl) | (simp [*, errW_none, errW_some] <;> rfl), by first | exact Kd.R_nil _ _ _ _ _ | exact Kd.N_nil _ _ _ _ _ | exact Kd.V_nil _ _ _ _ _ | exact Kd.Q_nil _ _ _ _ _ | exact Kd.S_nil _ _ _ _ _, by repeat (first | (with_reducible first | exact HB.out | apply below_alloc | apply pw_below_drewN | apply below_drew1) | exact HB.out)⟩
                · rw [if_neg c134] at H
                  exact absurd H (by simp)
              · rw [if_neg c133] at H
                exact absurd H (by simp)
      · rw [if_neg c4] at H
        have c4b0 : decide (x8_1 < (a0.size : Int)) = false := decide_eq_false c4
        clear c4
        by_cases c160 : x7_1 ≥ 1
        · rw [if_pos c160] at H
          have c160b0 : decide (1 ≤ x7_1) = true := decide_eq_true c160
          clear c160
          simp only [Option.some.injEq, Prod.mk.injEq] at H
          obtain ⟨rfl, rfl, rfl⟩ := H
          go_wp2
          go_ret3
          exact ⟨_, by first | rfl | (simp [errW_none, errW_some] <;> rfl) | (simp [*, errW_none, errW_some] <;> rfl), by (with_reducible repeat (first | apply Kd.R_alloc | apply Kd.R_drewN | apply Kd.R_drew)); exact HO_6.out, by repeat (first | (with_reducible first | exact HB.out | apply below_alloc | apply pw_below_drewN | apply below_drew1) | exact HB.out)⟩
        · rw [if_neg c160] at H
          have c160b0 : decide (1 ≤ x7_1) = false := decide_eq_false c160
          clear c160
          simp only [Option.some.injEq, Prod.mk.injEq] at H
          obtain ⟨rfl, rfl, rfl⟩ := H
          go_wp2
          go_ret3
          exact ⟨_, by first | rfl | (simp [errW_none, errW_some] <;> rfl) | (simp [*, errW_none, errW_some] <;> rfl), by (with_reducible repeat (first | apply Kd.R_alloc | apply Kd.R_drewN | apply Kd.R_drew)); exact HO_6.out, by repeat (first | (with_reducible first | exact HB.out | apply below_alloc | apply pw_below_drewN | apply below_drew1) | exact HB.out)⟩

end Go.Proofs.YtegcelmjejhnfaaDoor.QHy
