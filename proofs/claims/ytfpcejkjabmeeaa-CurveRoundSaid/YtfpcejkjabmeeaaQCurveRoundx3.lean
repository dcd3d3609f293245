-- Written by a program of this session (myprint.py) out of the translation; Lean checks it.
import Derived.Test.YtfpcejkjabmeeaaQCurveRoundx0
import Derived.Test.YtfpcejkjabmeeaaQCurveRoundx2
import Derived.Test.YtfpcejkjabmeeaaFEllipseCurveRound
import Derived.Test.YtfpcejkjabmeeaaArrEq
namespace Go.Proofs.Ytfpcejkjabmeeaa.QCurveRound
open Go.RowKit Go.Proofs.YtfpcejkjabmeeaaW.PrintWords Go.Proofs.YtfpcejkjabmeeaaW.PrintLast Go.Proofs.YtfpcejkjabmeeaaW.PrintMore
attribute [local go_sem] max2_int min2_int max_two min_two max_three min_three max_four min_four   -- for this text's walks alone
set_option linter.unusedVariables false
set_option linter.unusedSimpArgs false

/-! ### frisketlaw19_CurveRound: function 3 -/
def frisketlaw19_CurveRound.l0 : Nat → List (S28) → Int → Int → Option (Bool)
  | 0, _, _, _ => none
  | k + 1, x6, x8, x9 => if x9 < (x6.length : Int) then (if 0 ≤ x9 then (if (wrap64 (4 * (wrap64 ((wrap64 ((wrap64 (((rd_T28 x6 x9).f0) - x8)) * (wrap64 (((rd_T28 x6 x9).f0) - x8)))) + (wrap64 ((wrap64 (((rd_T28 x6 x9).f1) - x8)) * (wrap64 (((rd_T28 x6 x9).f1) - x8)))))))) < (wrap64 ((mx (wrap64 ((wrap64 (2 * x8)) - 3)) 0) * (mx (wrap64 ((wrap64 (2 * x8)) - 3)) 0))) then (some false) else (if (wrap64 (4 * (wrap64 ((wrap64 ((wrap64 (((rd_T28 x6 x9).f0) - x8)) * (wrap64 (((rd_T28 x6 x9).f0) - x8)))) + (wrap64 ((wrap64 (((rd_T28 x6 x9).f1) - x8)) * (wrap64 (((rd_T28 x6 x9).f1) - x8)))))))) > (wrap64 ((wrap64 ((wrap64 (2 * x8)) + 3)) * (wrap64 ((wrap64 (2 * x8)) + 3)))) then (some false) else (frisketlaw19_CurveRound.l0 k x6 x8 (wrap64 (x9 + 1))))) else (none)) else ((frisketlaw19_sane.f k).bind fun t140 => (some t140))
def frisketlaw19_CurveRound.f (k : Nat) (a0 : Int) (a1 : Int) : Option (Bool) := (curve_Points.f k 99 (([wrap64 (Int.tmod (IntKind.u64.wrap (a0)) 1000001)] : List Int)) (wrap64 (1 + (wrap64 (Int.tmod (IntKind.u64.wrap (a1)) 64))))).bind fun bt134 => (if bt134.2 = 0 then (frisketlaw19_CurveRound.l0 k bt134.1 (wrap64 (Int.tdiv (wrap64 (Int.tmod (IntKind.u64.wrap (a0)) 1000001)) 2)) 0) else (some false))
theorem frisketlaw19_CurveRound.mono_l : ∀ k, (∀ y0 y1 y2, LeO (frisketlaw19_CurveRound.l0 k y0 y1 y2) (frisketlaw19_CurveRound.l0 (k + 1) y0 y1 y2))
  | 0 => fun _ _ _ r h => by simp [frisketlaw19_CurveRound.l0] at h
  | k + 1 => by
    have ih0 := frisketlaw19_CurveRound.mono_l k
    · intro y0 y1 y2
      unfold frisketlaw19_CurveRound.l0
      repeat' first
      | (with_reducible exact ih0 _ _ _)
      | (with_reducible exact curve_Points.mono _ _ _ _)
      | (with_reducible exact frisketlaw19_sane.mono _)
      | (with_reducible exact LeO.refl _)
      | (with_reducible exact LeO.none _)
      | (with_reducible refine LeO.ite ?_ ?_)
      | (with_reducible refine LeO.bind ?_ (fun _ => ?_))
      | exact ih0 _ _ _
      | exact curve_Points.mono _ _ _ _
      | exact frisketlaw19_sane.mono _
      | exact LeO.none _
      | refine LeO.ite ?_ ?_
      | refine LeO.bind ?_ (fun _ => ?_)
theorem frisketlaw19_CurveRound.mono : ∀ a0 a1 k, LeO (frisketlaw19_CurveRound.f k a0 a1) (frisketlaw19_CurveRound.f (k + 1) a0 a1) := by
  intro a0 a1 k
  have ih0 := frisketlaw19_CurveRound.mono_l k
  unfold frisketlaw19_CurveRound.f
  repeat' first
      | (with_reducible exact ih0 _ _ _)
      | (with_reducible exact curve_Points.mono _ _ _ _)
      | (with_reducible exact frisketlaw19_sane.mono _)
      | (with_reducible exact LeO.refl _)
      | (with_reducible exact LeO.none _)
      | (with_reducible refine LeO.ite ?_ ?_)
      | (with_reducible refine LeO.bind ?_ (fun _ => ?_))
      | exact ih0 _ _ _
      | exact curve_Points.mono _ _ _ _
      | exact frisketlaw19_sane.mono _
      | exact LeO.none _
      | refine LeO.ite ?_ ?_
      | refine LeO.bind ?_ (fun _ => ?_)
set_option maxHeartbeats 8000000 in
set_option maxRecDepth 100000 in
theorem frisketlaw19_CurveRound.calls (k : Nat) (a0 : Int) (a1 : Int) (r : Bool) (w : World) (h : frisketlaw19_CurveRound.f k a0 a1 = some r) :
    Calls Try.prog 3 #[.int .i64 a0, .int .i64 a1] w fun e w' => e = .returned (.bool r) ∧ Below w.heap.size w w' := by
  have HB := Aside0.mk (Below.refl w.heap.size w)
  have H : ((curve_Points.f k 99 (([wrap64 (Int.tmod (IntKind.u64.wrap (a0)) 1000001)] : List Int)) (wrap64 (1 + (wrap64 (Int.tmod (IntKind.u64.wrap (a1)) 64))))).bind fun bt134 => (if bt134.2 = 0 then (frisketlaw19_CurveRound.l0 k bt134.1 (wrap64 (Int.tdiv (wrap64 (Int.tmod (IntKind.u64.wrap (a0)) 1000001)) 2)) 0) else (some false))) = some r := h
  clear h
  obtain ⟨y131, hy131⟩ : ∃ y_ : List Int, y_ = (([wrap64 (Int.tmod (IntKind.u64.wrap (a0)) 1000001)] : List Int)) := ⟨_, rfl⟩
  replace H : ((curve_Points.f k 99 y131 (wrap64 (1 + (wrap64 (Int.tmod (IntKind.u64.wrap (a1)) 64))))).bind fun bt134 => (if bt134.2 = 0 then (frisketlaw19_CurveRound.l0 k bt134.1 (wrap64 (Int.tdiv (wrap64 (Int.tmod (IntKind.u64.wrap (a0)) 1000001)) 2)) 0) else (some false))) = some r := by first | (rw [hy131]; with_reducible exact H) | (have H2_ := (Option.bind_some _ _).symm.trans H; rw [hy131]; with_reducible exact H2_) | (have H2_ := (Option.bind_some _ _).symm.trans H; with_reducible exact H2_) | with_reducible exact H | (rw [hy131]; exact H) | exact H
  have Ny131 := Aside0.mk hy131
  clear hy131
  replace H := Option.bind_eq_some_iff.mp H
  obtain ⟨⟨t134, t135⟩, A30, H⟩ := H
  replace H : (if t135 = 0 then (frisketlaw19_CurveRound.l0 k t134 (wrap64 (Int.tdiv (wrap64 (Int.tmod (IntKind.u64.wrap (a0)) 1000001)) 2)) 0) else (some false)) = some r := H
  have A3 := Aside0.mk A30
  clear A30
  by_cases c4 : t135 = 0
  · rw [if_pos c4] at H
    have c4b0 : (t135 == 0) = true := beq_iff_eq.mpr c4
    have c4b1 : (t135 != 0) = false := bne_eq_false_iff_eq.mpr c4
    clear c4
    have H' := Aside0.mk H
    clear H
    go_enter Try.func3, Try.ntmps3
    go_wp2_with (first | ((with_reducible refine gate_dst (N := 20) rfl ?_); refine Kd.R_lit (Kd.int .i64) _ 3 ?hg (N := 20) ?hd (xs := ([wrap64 (Int.tmod (IntKind.u64.wrap (a0)) 1000001)] : List Int)) (inner := [.int .i64 (wrap64 (Int.tmod (IntKind.u64.wrap (a0)) 1000001))]) (ok := fun _ => True) (okp := fun _ => True) ?hr ?hp (fun _ hk => hk) trivial (Below.refl _ _) (Nat.le_refl _) (by simp) ?_; (case hd => rfl); (case hg => rfl); (case hr => first | (go_simp; done) | (go_simp; rfl)); (case hp => exact (Reps.one (show Kd.M (Kd.int .i64) _ _ _ (wrap64 (Int.tmod (IntKind.u64.wrap (a0)) 1000001)) [.int .i64 (wrap64 (Int.tmod (IntKind.u64.wrap (a0)) 1000001))] from rfl) (Reps.none _ _))); intro v132 w5 ho6 hb hg_ hnew_; clear hg_ hnew_; (first | rw [← Ny131.out] at ho6 | (simp only [Int.reduceToNat] at ho6; rw [← Ny131.out] at ho6)); have n0_ := Aside0.mk (Kd.R_lower ho6 (below_size (by repeat (first | (with_reducible first | exact HB.out | apply below_alloc | apply pw_below_drewN | apply below_drew1) | exact HB.out)))); have n1_ := Aside0.mk (below_step (by repeat (first | (with_reducible first | exact HB.out | apply below_alloc | apply pw_below_drewN | apply below_drew1) | exact HB.out)) hb); clear HB; have HO133 := n0_; have HB := n1_; clear n0_ n1_; clear hb ho6; obtain ⟨Ao7, co7, eo7⟩ := Kd.R_slice HO133.out; subst eo7) | (go_at_call 6; (with_reducible refine (curve_Points.calls k 99 _ _ y131 (wrap64 (1 + (wrap64 (Int.tmod (IntKind.u64.wrap (a1)) 64)))) t134 t135 _ ?side1 ?side2 A3.out).mono ?_); (case side1 => repeat (first | exact (Kd.R_reads' HO133.out).2.2 | (with_reducible refine Kd.C_alloc ?_ _) | (with_reducible refine Kd.C_drewN ?_ _) | (with_reducible refine Kd.C_drew ?_))); (case side2 => exact (Kd.R_reads' HO133.out).2.1); rintro e w8 ⟨v136, rfl, ho0, hb⟩; have n0_ := Aside0.mk (Kd.R_below (by (with_reducible repeat (first | apply Kd.R_alloc | apply Kd.R_drewN | apply Kd.R_drew)); exact HO133.out) hb); have n1_ := Aside0.mk (Kd.R_lower ho0 (below_size (by repeat (first | (with_reducible first | exact HB.out | apply below_alloc | apply pw_below_drewN | apply below_drew1) | exact HB.out)))); have n2_ := Aside0.mk (below_step (by repeat (first | (with_reducible first | exact HB.out | apply below_alloc | apply pw_below_drewN | apply below_drew1) | exact HB.out)) hb); clear HO133; clear HB; have HO133 := n0_; have HO137 := n1_; have HB := n2_; clear n0_ n1_ n2_; (try clear hb); (try clear hb2); (try clear hk); (try clear hi); (try clear ho0)))
    repeat (go_quiet (first | ((with_reducible refine gate_dst (N := 20) rfl ?_); refine Kd.R_lit (Kd.int .i64) _ 3 ?hg (N := 20) ?hd (xs := ([wrap64 (Int.tmod (IntKind.u64.wrap (a0)) 1000001)] : List Int)) (inner := [.int .i64 (wrap64 (Int.tmod (IntKind.u64.wrap (a0)) 1000001))]) (ok := fun _ => True) (okp := fun _ => True) ?hr ?hp (fun _ hk => hk) trivial (Below.refl _ _) (Nat.le_refl _) (by simp) ?_; (case hd => rfl); (case hg => rfl); (case hr => first | (go_simp; done) | (go_simp; rfl)); (case hp => exact (Reps.one (show Kd.M (Kd.int .i64) _ _ _ (wrap64 (Int.tmod (IntKind.u64.wrap (a0)) 1000001)) [.int .i64 (wrap64 (Int.tmod (IntKind.u64.wrap (a0)) 1000001))] from rfl) (Reps.none _ _))); intro v132 w5 ho6 hb hg_ hnew_; clear hg_ hnew_; (first | rw [← Ny131.out] at ho6 | (simp only [Int.reduceToNat] at ho6; rw [← Ny131.out] at ho6)); have n0_ := Aside0.mk (Kd.R_lower ho6 (below_size (by repeat (first | (with_reducible first | exact HB.out | apply below_alloc | apply pw_below_drewN | apply below_drew1) | exact HB.out)))); have n1_ := Aside0.mk (below_step (by repeat (first | (with_reducible first | exact HB.out | apply below_alloc | apply pw_below_drewN | apply below_drew1) | exact HB.out)) hb); clear HB; have HO133 := n0_; have HB := n1_; clear n0_ n1_; clear hb ho6; obtain ⟨Ao7, co7, eo7⟩ := Kd.R_slice HO133.out; subst eo7) | (go_at_call 6; (with_reducible refine (curve_Points.calls k 99 _ _ y131 (wrap64 (1 + (wrap64 (Int.tmod (IntKind.u64.wrap (a1)) 64)))) t134 t135 _ ?side1 ?side2 A3.out).mono ?_); (case side1 => repeat (first | exact (Kd.R_reads' HO133.out).2.2 | (with_reducible refine Kd.C_alloc ?_ _) | (with_reducible refine Kd.C_drewN ?_ _) | (with_reducible refine Kd.C_drew ?_))); (case side2 => exact (Kd.R_reads' HO133.out).2.1); rintro e w8 ⟨v136, rfl, ho0, hb⟩; have n0_ := Aside0.mk (Kd.R_below (by (with_reducible repeat (first | apply Kd.R_alloc | apply Kd.R_drewN | apply Kd.R_drew)); exact HO133.out) hb); have n1_ := Aside0.mk (Kd.R_lower ho0 (below_size (by repeat (first | (with_reducible first | exact HB.out | apply below_alloc | apply pw_below_drewN | apply below_drew1) | exact HB.out)))); have n2_ := Aside0.mk (below_step (by repeat (first | (with_reducible first | exact HB.out | apply below_alloc | apply pw_below_drewN | apply below_drew1) | exact HB.out)) hb); clear HO133; clear HB; have HO133 := n0_; have HO137 := n1_; have HB := n2_; clear n0_ n1_ n2_; (try clear hb); (try clear hb2); (try clear hk); (try clear hi); (try clear ho0))); try go_wp2_with (first | ((with_reducible refine gate_dst (N := 20) rfl ?_); refine Kd.R_lit (Kd.int .i64) _ 3 ?hg (N := 20) ?hd (xs := ([wrap64 (Int.tmod (IntKind.u64.wrap (a0)) 1000001)] : List Int)) (inner := [.int .i64 (wrap64 (Int.tmod (IntKind.u64.wrap (a0)) 1000001))]) (ok := fun _ => True) (okp := fun _ => True) ?hr ?hp (fun _ hk => hk) trivial (Below.refl _ _) (Nat.le_refl _) (by simp) ?_; (case hd => rfl); (case hg => rfl); (case hr => first | (go_simp; done) | (go_simp; rfl)); (case hp => exact (Reps.one (show Kd.M (Kd.int .i64) _ _ _ (wrap64 (Int.tmod (IntKind.u64.wrap (a0)) 1000001)) [.int .i64 (wrap64 (Int.tmod (IntKind.u64.wrap (a0)) 1000001))] from rfl) (Reps.none _ _))); intro v132 w5 ho6 hb hg_ hnew_; clear hg_ hnew_; (first | rw [← Ny131.out] at ho6 | (simp only [Int.reduceToNat] at ho6; rw [← Ny131.out] at ho6)); have n0_ := Aside0.mk (Kd.R_lower ho6 (below_size (by repeat (first | (with_reducible first | exact HB.out | apply below_alloc | apply pw_below_drewN | apply below_drew1) | exact HB.out)))); have n1_ := Aside0.mk (below_step (by repeat (first | (with_reducible first | exact HB.out | apply below_alloc | apply pw_below_drewN | apply below_drew1) | exact HB.out)) hb); clear HB; have HO133 := n0_; have HB := n1_; clear n0_ n1_; clear hb ho6; obtain ⟨Ao7, co7, eo7⟩ := Kd.R_slice HO133.out; subst eo7) | (go_at_call 6; (with_reducible refine (curve_Points.calls k 99 _ _ y131 (wrap64 (1 + (wrap64 (Int.tmod (IntKind.u64.wrap (a1)) 64)))) t134 t135 _ ?side1 ?side2 A3.out).mono ?_); (case side1 => repeat (first | exact (Kd.R_reads' HO133.out).2.2 | (with_reducible refine Kd.C_alloc ?_ _) | (with_reducible refine Kd.C_drewN ?_ _) | (with_reducible refine Kd.C_drew ?_))); (case side2 => exact (Kd.R_reads' HO133.out).2.1); rintro e w8 ⟨v136, rfl, ho0, hb⟩; have n0_ := Aside0.mk (Kd.R_below (by (with_reducible repeat (first | apply Kd.R_alloc | apply Kd.R_drewN | apply Kd.R_drew)); exact HO133.out) hb); have n1_ := Aside0.mk (Kd.R_lower ho0 (below_size (by repeat (first | (with_reducible first | exact HB.out | apply below_alloc | apply pw_below_drewN | apply below_drew1) | exact HB.out)))); have n2_ := Aside0.mk (below_step (by repeat (first | (with_reducible first | exact HB.out | apply below_alloc | apply pw_below_drewN | apply below_drew1) | exact HB.out)) hb); clear HO133; clear HB; have HO133 := n0_; have HO137 := n1_; have HB := n2_; clear n0_ n1_ n2_; (try clear hb); (try clear hb2); (try clear hk); (try clear hi); (try clear ho0))))
    go_loopg [9] k (fun kq v9 w' => ∃ (x9_1 : Int), v9 = .int .i64 x9_1 ∧ Aside0 (frisketlaw19_CurveRound.l0 kq t134 (wrap64 (Int.tdiv (wrap64 (Int.tmod (IntKind.u64.wrap (a0)) 1000001)) 2)) x9_1 = some r) ∧ Aside0 (kq ≤ k) ∧ Aside0 (Kd.R k28 28 w' w.heap.size (fun _ => True) v136 t134) ∧ Aside0 (Below w.heap.size w w'))
    case atStart => exact ⟨(0), (by first | rfl | (simp; done) | (simp [*]; done)), H', ⟨Nat.le_refl _⟩, ⟨by (with_reducible repeat (first | apply Kd.R_alloc | apply Kd.R_drewN | apply Kd.R_drew)); exact HO137.out⟩, ⟨by repeat (first | (with_reducible first | exact HB.out | apply below_alloc | apply pw_below_drewN | apply below_drew1) | exact HB.out)⟩⟩
    case round =>
      clear H'
      try clear p2
      try clear c3
      try clear c4
      try clear c4b0
      try clear c4b1
      try clear p6
      obtain ⟨x9_1, rfl, HA, HK1, HO_6, HB⟩ := hrel
      cases gk with
      | zero => exact absurd HA.out (by simp [frisketlaw19_CurveRound.l0])
      | succ k1 =>
        have H := HA.out
        clear HA
        simp only [frisketlaw19_CurveRound.l0] at H
        by_cases c9 : x9_1 < (t134.length : Int)
        · rw [if_pos c9] at H
          have c9b0 : decide (x9_1 < (t134.length : Int)) = true := decide_eq_true c9
          clear c9
          by_cases c10 : 0 ≤ x9_1
          · rw [if_pos c10] at H
            have c10b0 : decide (0 ≤ x9_1) = true := decide_eq_true c10
            clear c10
            obtain ⟨ji11, hji11⟩ : ∃ j_ : Int, (mx (wrap64 ((wrap64 (2 * (wrap64 (Int.tdiv (wrap64 (Int.tmod (IntKind.u64.wrap (a0)) 1000001)) 2)))) - 3)) 0) = j_ := ⟨_, rfl⟩
            replace H : (if (wrap64 (4 * (wrap64 ((wrap64 ((wrap64 (((rd_T28 t134 x9_1).f0) - (wrap64 (Int.tdiv (wrap64 (Int.tmod (IntKind.u64.wrap (a0)) 1000001)) 2)))) * (wrap64 (((rd_T28 t134 x9_1).f0) - (wrap64 (Int.tdiv (wrap64 (Int.tmod (IntKind.u64.wrap (a0)) 1000001)) 2)))))) + (wrap64 ((wrap64 (((rd_T28 t134 x9_1).f1) - (wrap64 (Int.tdiv (wrap64 (Int.tmod (IntKind.u64.wrap (a0)) 1000001)) 2)))) * (wrap64 (((rd_T28 t134 x9_1).f1) - (wrap64 (Int.tdiv (wrap64 (Int.tmod (IntKind.u64.wrap (a0)) 1000001)) 2)))))))))) < (wrap64 ((ji11) * (ji11))) then (some false) else (if (wrap64 (4 * (wrap64 ((wrap64 ((wrap64 (((rd_T28 t134 x9_1).f0) - (wrap64 (Int.tdiv (wrap64 (Int.tmod (IntKind.u64.wrap (a0)) 1000001)) 2)))) * (wrap64 (((rd_T28 t134 x9_1).f0) - (wrap64 (Int.tdiv (wrap64 (Int.tmod (IntKind.u64.wrap (a0)) 1000001)) 2)))))) + (wrap64 ((wrap64 (((rd_T28 t134 x9_1).f1) - (wrap64 (Int.tdiv (wrap64 (Int.tmod (IntKind.u64.wrap (a0)) 1000001)) 2)))) * (wrap64 (((rd_T28 t134 x9_1).f1) - (wrap64 (Int.tdiv (wrap64 (Int.tmod (IntKind.u64.wrap (a0)) 1000001)) 2)))))))))) > (wrap64 ((wrap64 ((wrap64 (2 * (wrap64 (Int.tdiv (wrap64 (Int.tmod (IntKind.u64.wrap (a0)) 1000001)) 2)))) + 3)) * (wrap64 ((wrap64 (2 * (wrap64 (Int.tdiv (wrap64 (Int.tmod (IntKind.u64.wrap (a0)) 1000001)) 2)))) + 3)))) then (some false) else (frisketlaw19_CurveRound.l0 k1 t134 (wrap64 (Int.tdiv (wrap64 (Int.tmod (IntKind.u64.wrap (a0)) 1000001)) 2)) (wrap64 (x9_1 + 1))))) = some r := by first | (rw [hji11] at H; exact H) | (simp only [hji11] at H ⊢; exact H)
            have hji11_ : (if (wrap64 ((wrap64 (2 * (wrap64 (Int.tdiv (wrap64 (Int.tmod (IntKind.u64.wrap (a0)) 1000001)) 2)))) - 3)) < 0 then 0 else (wrap64 ((wrap64 (2 * (wrap64 (Int.tdiv (wrap64 (Int.tmod (IntKind.u64.wrap (a0)) 1000001)) 2)))) - 3))) = ji11 := hji11
            by_cases c12 : (wrap64 (4 * (wrap64 ((wrap64 ((wrap64 (((rd_T28 t134 x9_1).f0) - (wrap64 (Int.tdiv (wrap64 (Int.tmod (IntKind.u64.wrap (a0)) 1000001)) 2)))) * (wrap64 (((rd_T28 t134 x9_1).f0) - (wrap64 (Int.tdiv (wrap64 (Int.tmod (IntKind.u64.wrap (a0)) 1000001)) 2)))))) + (wrap64 ((wrap64 (((rd_T28 t134 x9_1).f1) - (wrap64 (Int.tdiv (wrap64 (Int.tmod (IntKind.u64.wrap (a0)) 1000001)) 2)))) * (wrap64 (((rd_T28 t134 x9_1).f1) - (wrap64 (Int.tdiv (wrap64 (Int.tmod (IntKind.u64.wrap (a0)) 1000001)) 2)))))))))) < (wrap64 ((ji11) * (ji11)))
            · rw [if_pos c12] at H
              have c12b0 : decide ((wrap64 (4 * (wrap64 ((wrap64 ((wrap64 (((rd_T28 t134 x9_1).f0) - (wrap64 (Int.tdiv (wrap64 (Int.tmod (IntKind.u64.wrap (a0)) 1000001)) 2)))) * (wrap64 (((rd_T28 t134 x9_1).f0) - (wrap64 (Int.tdiv (wrap64 (Int.tmod (IntKind.u64.wrap (a0)) 1000001)) 2)))))) + (wrap64 ((wrap64 (((rd_T28 t134 x9_1).f1) - (wrap64 (Int.tdiv (wrap64 (Int.tmod (IntKind.u64.wrap (a0)) 1000001)) 2)))) * (wrap64 (((rd_T28 t134 x9_1).f1) - (wrap64 (Int.tdiv (wrap64 (Int.tmod (IntKind.u64.wrap (a0)) 1000001)) 2)))))))))) < (wrap64 ((ji11) * (ji11)))) = true := decide_eq_true c12
              clear c12
              obtain rfl := Option.some.inj H
              obtain ⟨Ao13, co13, eo13⟩ := Kd.R_slice HO_6.out
              subst eo13
              have p138 : 0 ≤ (x9_1 : Int) := of_decide_eq_true (by first | (with_reducible assumption) | assumption)
              have q138 : x9_1 < (t134.length : Int) := of_decide_eq_true (by first | (with_reducible assumption) | assumption)
              obtain ⟨ad138, e138, hx138_0, hx138_1⟩ := at_T28 (Kd.R_reads' HO_6.out).2.2 x9_1 p138 q138
              cases e138
              replace p138 := eq_true p138
              replace q138 := eq_true q138
              have p139 : 0 ≤ (x9_1 : Int) := of_decide_eq_true (by first | (with_reducible assumption) | assumption)
              have q139 : x9_1 < (t134.length : Int) := of_decide_eq_true (by first | (with_reducible assumption) | assumption)
              obtain ⟨ad139, e139, hx139_0, hx139_1⟩ := at_T28 (Kd.R_reads' HO_6.out).2.2 x9_1 p139 q139
              obtain rfl : ad138 = ad139 := (by injection e139)
              replace p139 := eq_true p139
              replace q139 := eq_true q139
              go_wp2
              repeat (go_quiet (fail); try go_wp2)
              go_ret
              exact ⟨by first | rfl | (simp [errW_none, errW_some] <;> rfl) | (simp only [← hji11]; first | rfl | (simp [errW_none, errW_some] <;> rfl)) | (simp [*, errW_none, errW_some] <;> rfl), by repeat (first | (with_reducible first | exact HB.out | apply below_alloc | apply pw_below_drewN | apply below_drew1) | exact HB.out)⟩
            · rw [if_neg c12] at H
              have c12b0 : decide ((wrap64 (4 * (wrap64 ((wrap64 ((wrap64 (((rd_T28 t134 x9_1).f0) - (wrap64 (Int.tdiv (wrap64 (Int.tmod (IntKind.u64.wrap (a0)) 1000001)) 2)))) * (wrap64 (((rd_T28 t134 x9_1).f0) - (wrap64 (Int.tdiv (wrap64 (Int.tmod (IntKind.u64.wrap (a0)) 1000001)) 2)))))) + (wrap64 ((wrap64 (((rd_T28 t134 x9_1).f1) - (wrap64 (Int.tdiv (wrap64 (Int.tmod (IntKind.u64.wrap (a0)) 1000001)) 2)))) * (wrap64 (((rd_T28 t134 x9_1).f1) - (wrap64 (Int.tdiv (wrap64 (Int.tmod (IntKind.u64.wrap (a0)) 1000001)) 2)))))))))) < (wrap64 ((ji11) * (ji11)))) = false := decide_eq_false c12
              clear c12
              by_cases c14 : (wrap64 (4 * (wrap64 ((wrap64 ((wrap64 (((rd_T28 t134 x9_1).f0) - (wrap64 (Int.tdiv (wrap64 (Int.tmod (IntKind.u64.wrap (a0)) 1000001)) 2)))) * (wrap64 (((rd_T28 t134 x9_1).f0) - (wrap64 (Int.tdiv (wrap64 (Int.tmod (IntKind.u64.wrap (a0)) 1000001)) 2)))))) + (wrap64 ((wrap64 (((rd_T28 t134 x9_1).f1) - (wrap64 (Int.tdiv (wrap64 (Int.tmod (IntKind.u64.wrap (a0)) 1000001)) 2)))) * (wrap64 (((rd_T28 t134 x9_1).f1) - (wrap64 (Int.tdiv (wrap64 (Int.tmod (IntKind.u64.wrap (a0)) 1000001)) 2)))))))))) > (wrap64 ((wrap64 ((wrap64 (2 * (wrap64 (Int.tdiv (wrap64 (Int.tmod (IntKind.u64.wrap (a0)) 1000001)) 2)))) + 3)) * (wrap64 ((wrap64 (2 * (wrap64 (Int.tdiv (wrap64 (Int.tmod (IntKind.u64.wrap (a0)) 1000001)) 2)))) + 3))))
              · rw [if_pos c14] at H
                have c14b0 : decide ((wrap64 ((wrap64 ((wrap64 (2 * (wrap64 (Int.tdiv (wrap64 (Int.tmod (IntKind.u64.wrap (a0)) 1000001)) 2)))) + 3)) * (wrap64 ((wrap64 (2 * (wrap64 (Int.tdiv (wrap64 (Int.tmod (IntKind.u64.wrap (a0)) 1000001)) 2)))) + 3)))) < (wrap64 (4 * (wrap64 ((wrap64 ((wrap64 (((rd_T28 t134 x9_1).f0) - (wrap64 (Int.tdiv (wrap64 (Int.tmod (IntKind.u64.wrap (a0)) 1000001)) 2)))) * (wrap64 (((rd_T28 t134 x9_1).f0) - (wrap64 (Int.tdiv (wrap64 (Int.tmod (IntKind.u64.wrap (a0)) 1000001)) 2)))))) + (wrap64 ((wrap64 (((rd_T28 t134 x9_1).f1) - (wrap64 (Int.tdiv (wrap64 (Int.tmod (IntKind.u64.wrap (a0)) 1000001)) 2)))) * (wrap64 (((rd_T28 t134 x9_1).f1) - (wrap64 (Int.tdiv (wrap64 (Int.tmod (IntKind.u64.wrap (a0)) 1000001)) 2))))))))))) = true := decide_eq_true c14
                clear c14
                obtain rfl := Option.some.inj H
                obtain ⟨Ao15, co15, eo15⟩ := Kd.R_slice HO_6.out
                subst eo15
                have p138 : 0 ≤ (x9_1 : Int) := of_decide_eq_true (by first | (with_reducible assumption) | assumption)
                have q138 : x9_1 < (t134.length : Int) := of_decide_eq_true (by first | (with_reducible assumption) | assumption)
                obtain ⟨ad138, e138, hx138_0, hx138_1⟩ := at_T28 (Kd.R_reads' HO_6.out).2.2 x9_1 p138 q138
                cases e138
                replace p138 := eq_true p138
                replace q138 := eq_true q138
                have p139 : 0 ≤ (x9_1 : Int) := of_decide_eq_true (by first | (with_reducible assumption) | assumption)
                have q139 : x9_1 < (t134.length : Int) := of_decide_eq_true (by first | (with_reducible assumption) | assumption)
                obtain ⟨ad139, e139, hx139_0, hx139_1⟩ := at_T28 (Kd.R_reads' HO_6.out).2.2 x9_1 p139 q139
                obtain rfl : ad138 = ad139 := (by injection e139)
                replace p139 := eq_true p139
                replace q139 := eq_true q139
                go_wp2
                repeat (go_quiet (fail); try go_wp2)
                go_ret
                exact ⟨by first | rfl | (simp [errW_none, errW_some] <;> rfl) | (simp only [← hji11]; first | rfl | (simp [errW_none, errW_some] <;> rfl)) | (simp [*, errW_none, errW_some] <;> rfl), by repeat (first | (with_reducible first | exact HB.out | apply below_alloc | apply pw_below_drewN | apply below_drew1) | exact HB.out)⟩
              · rw [if_neg c14] at H
                have c14b0 : decide ((wrap64 ((wrap64 ((wrap64 (2 * (wrap64 (Int.tdiv (wrap64 (Int.tmod (IntKind.u64.wrap (a0)) 1000001)) 2)))) + 3)) * (wrap64 ((wrap64 (2 * (wrap64 (Int.tdiv (wrap64 (Int.tmod (IntKind.u64.wrap (a0)) 1000001)) 2)))) + 3)))) < (wrap64 (4 * (wrap64 ((wrap64 ((wrap64 (((rd_T28 t134 x9_1).f0) - (wrap64 (Int.tdiv (wrap64 (Int.tmod (IntKind.u64.wrap (a0)) 1000001)) 2)))) * (wrap64 (((rd_T28 t134 x9_1).f0) - (wrap64 (Int.tdiv (wrap64 (Int.tmod (IntKind.u64.wrap (a0)) 1000001)) 2)))))) + (wrap64 ((wrap64 (((rd_T28 t134 x9_1).f1) - (wrap64 (Int.tdiv (wrap64 (Int.tmod (IntKind.u64.wrap (a0)) 1000001)) 2)))) * (wrap64 (((rd_T28 t134 x9_1).f1) - (wrap64 (Int.tdiv (wrap64 (Int.tmod (IntKind.u64.wrap (a0)) 1000001)) 2))))))))))) = false := decide_eq_false c14
                clear c14
                have H' := Aside0.mk H
                clear H
                obtain ⟨Ao16, co16, eo16⟩ := Kd.R_slice HO_6.out
                subst eo16
                have p138 : 0 ≤ (x9_1 : Int) := of_decide_eq_true (by first | (with_reducible assumption) | assumption)
                have q138 : x9_1 < (t134.length : Int) := of_decide_eq_true (by first | (with_reducible assumption) | assumption)
                obtain ⟨ad138, e138, hx138_0, hx138_1⟩ := at_T28 (Kd.R_reads' HO_6.out).2.2 x9_1 p138 q138
                cases e138
                replace p138 := eq_true p138
                replace q138 := eq_true q138
                have p139 : 0 ≤ (x9_1 : Int) := of_decide_eq_true (by first | (with_reducible assumption) | assumption)
                have q139 : x9_1 < (t134.length : Int) := of_decide_eq_true (by first | (with_reducible assumption) | assumption)
                obtain ⟨ad139, e139, hx139_0, hx139_1⟩ := at_T28 (Kd.R_reads' HO_6.out).2.2 x9_1 p139 q139
                obtain rfl : ad138 = ad139 := (by injection e139)
                replace p139 := eq_true p139
                replace q139 := eq_true q139
                go_wp2
                repeat (go_quiet (fail); try go_wp2)
                go_roundg k1
                case measure => have := HK1.out; omega
                case rel => exact ⟨(wrap64 (x9_1 + 1)), (by first | rfl | (simp; done) | (simp [*]; done)), H', ⟨by have := HK1.out; omega⟩, ⟨by (with_reducible repeat (first | apply Kd.R_alloc | apply Kd.R_drewN | apply Kd.R_drew)); exact HO_6.out⟩, ⟨by repeat (first | (with_reducible first | exact HB.out | apply below_alloc | apply pw_below_drewN | apply below_drew1) | exact HB.out)⟩⟩
          · rw [if_neg c10] at H
            exact absurd H (by simp)
        · rw [if_neg c9] at H
          have c9b0 : decide (x9_1 < (t134.length : Int)) = false := decide_eq_false c9
          clear c9
          replace H := Option.bind_eq_some_iff.mp H
          obtain ⟨t140, A170, H⟩ := H
          replace H : (some t140) = some r := H
          have A17 := Aside0.mk A170
          clear A170
          obtain rfl := Option.some.inj H
          obtain ⟨Ao18, co18, eo18⟩ := Kd.R_slice HO_6.out
          subst eo18
          go_wp2_with (first | (go_at_call 7; (with_reducible refine (frisketlaw19_sane.calls k1  t140 _ A17.out).mono ?_); rintro e w19 ⟨rfl, hb⟩; have n0_ := Aside0.mk (Kd.R_below (by (with_reducible repeat (first | apply Kd.R_alloc | apply Kd.R_drewN | apply Kd.R_drew)); exact HO_6.out) hb); have n1_ := Aside0.mk (below_step (by repeat (first | (with_reducible first | exact HB.out | apply below_alloc | apply pw_below_drewN | apply below_drew1) | exact HB.out)) hb); clear HO_6; clear HB; have HO_6 := n0_; have HB := n1_; clear n0_ n1_; (try clear hb); (try clear hb2); (try clear hk); (try clear hi)))
          repeat (go_quiet (first | (go_at_call 7; (with_reducible refine (frisketlaw19_sane.calls k1  t140 _ A17.out).mono ?_); rintro e w19 ⟨rfl, hb⟩; have n0_ := Aside0.mk (Kd.R_below (by (with_reducible repeat (first | apply Kd.R_alloc | apply Kd.R_drewN | apply Kd.R_drew)); exact HO_6.out) hb); have n1_ := Aside0.mk (below_step (by repeat (first | (with_reducible first | exact HB.out | apply below_alloc | apply pw_below_drewN | apply below_drew1) | exact HB.out)) hb); clear HO_6; clear HB; have HO_6 := n0_; have HB := n1_; clear n0_ n1_; (try clear hb); (try clear hb2); (try clear hk); (try clear hi))); try go_wp2_with (first | (go_at_call 7; (with_reducible refine (frisketlaw19_sane.calls k1  t140 _ A17.out).mono ?_); rintro e w19 ⟨rfl, hb⟩; have n0_ := Aside0.mk (Kd.R_below (by (with_reducible repeat (first | apply Kd.R_alloc | apply Kd.R_drewN | apply Kd.R_drew)); exact HO_6.out) hb); have n1_ := Aside0.mk (below_step (by repeat (first | (with_reducible first | exact HB.out | apply below_alloc | apply pw_below_drewN | apply below_drew1) | exact HB.out)) hb); clear HO_6; clear HB; have HO_6 := n0_; have HB := n1_; clear n0_ n1_; (try clear hb); (try clear hb2); (try clear hk); (try clear hi))))
          go_ret
          exact ⟨by first | rfl | (simp [errW_none, errW_some] <;> rfl) | (simp [*, errW_none, errW_some] <;> rfl), by repeat (first | (with_reducible first | exact HB.out | apply below_alloc | apply pw_below_drewN | apply below_drew1) | exact HB.out)⟩
  · rw [if_neg c4] at H
    have c4b0 : (t135 == 0) = false := beq_eq_false_iff_ne.mpr c4
    have c4b1 : (t135 != 0) = true := bne_iff_ne.mpr c4
    obtain rfl := Option.some.inj H
    go_enter Try.func3, Try.ntmps3
    go_wp2_with (first | ((with_reducible refine gate_dst (N := 20) rfl ?_); refine Kd.R_lit (Kd.int .i64) _ 3 ?hg (N := 20) ?hd (xs := ([wrap64 (Int.tmod (IntKind.u64.wrap (a0)) 1000001)] : List Int)) (inner := [.int .i64 (wrap64 (Int.tmod (IntKind.u64.wrap (a0)) 1000001))]) (ok := fun _ => True) (okp := fun _ => True) ?hr ?hp (fun _ hk => hk) trivial (Below.refl _ _) (Nat.le_refl _) (by simp) ?_; (case hd => rfl); (case hg => rfl); (case hr => first | (go_simp; done) | (go_simp; rfl)); (case hp => exact (Reps.one (show Kd.M (Kd.int .i64) _ _ _ (wrap64 (Int.tmod (IntKind.u64.wrap (a0)) 1000001)) [.int .i64 (wrap64 (Int.tmod (IntKind.u64.wrap (a0)) 1000001))] from rfl) (Reps.none _ _))); intro v132 w20 ho21 hb hg_ hnew_; clear hg_ hnew_; (first | rw [← Ny131.out] at ho21 | (simp only [Int.reduceToNat] at ho21; rw [← Ny131.out] at ho21)); have n0_ := Aside0.mk (Kd.R_lower ho21 (below_size (by repeat (first | (with_reducible first | exact HB.out | apply below_alloc | apply pw_below_drewN | apply below_drew1) | exact HB.out)))); have n1_ := Aside0.mk (below_step (by repeat (first | (with_reducible first | exact HB.out | apply below_alloc | apply pw_below_drewN | apply below_drew1) | exact HB.out)) hb); clear HB; have HO133 := n0_; have HB := n1_; clear n0_ n1_; clear hb ho21; obtain ⟨Ao22, co22, eo22⟩ := Kd.R_slice HO133.out; subst eo22) | (go_at_call 6; (with_reducible refine (curve_Points.calls k 99 _ _ y131 (wrap64 (1 + (wrap64 (Int.tmod (IntKind.u64.wrap (a1)) 64)))) t134 t135 _ ?side1 ?side2 A3.out).mono ?_); (case side1 => repeat (first | exact (Kd.R_reads' HO133.out).2.2 | (with_reducible refine Kd.C_alloc ?_ _) | (with_reducible refine Kd.C_drewN ?_ _) | (with_reducible refine Kd.C_drew ?_))); (case side2 => exact (Kd.R_reads' HO133.out).2.1); rintro e w23 ⟨v136, rfl, ho0, hb⟩; have n0_ := Aside0.mk (Kd.R_below (by (with_reducible repeat (first | apply Kd.R_alloc | apply Kd.R_drewN | apply Kd.R_drew)); exact HO133.out) hb); have n1_ := Aside0.mk (Kd.R_lower ho0 (below_size (by repeat (first | (with_reducible first | exact HB.out | apply below_alloc | apply pw_below_drewN | apply below_drew1) | exact HB.out)))); have n2_ := Aside0.mk (below_step (by repeat (first | (with_reducible first | exact HB.out | apply below_alloc | apply pw_below_drewN | apply below_drew1) | exact HB.out)) hb); clear HO133; clear HB; have HO133 := n0_; have HO137 := n1_; have HB := n2_; clear n0_ n1_ n2_; (try clear hb); (try clear hb2); (try clear hk); (try clear hi); (try clear ho0)))
    repeat (go_quiet (first | ((with_reducible refine gate_dst (N := 20) rfl ?_); refine Kd.R_lit (Kd.int .i64) _ 3 ?hg (N := 20) ?hd (xs := ([wrap64 (Int.tmod (IntKind.u64.wrap (a0)) 1000001)] : List Int)) (inner := [.int .i64 (wrap64 (Int.tmod (IntKind.u64.wrap (a0)) 1000001))]) (ok := fun _ => True) (okp := fun _ => True) ?hr ?hp (fun _ hk => hk) trivial (Below.refl _ _) (Nat.le_refl _) (by simp) ?_; (case hd => rfl); (case hg => rfl); (case hr => first | (go_simp; done) | (go_simp; rfl)); (case hp => exact (Reps.one (show Kd.M (Kd.int .i64) _ _ _ (wrap64 (Int.tmod (IntKind.u64.wrap (a0)) 1000001)) [.int .i64 (wrap64 (Int.tmod (IntKind.u64.wrap (a0)) 1000001))] from rfl) (Reps.none _ _))); intro v132 w20 ho21 hb hg_ hnew_; clear hg_ hnew_; (first | rw [← Ny131.out] at ho21 | (simp only [Int.reduceToNat] at ho21; rw [← Ny131.out] at ho21)); have n0_ := Aside0.mk (Kd.R_lower ho21 (below_size (by repeat (first | (with_reducible first | exact HB.out | apply below_alloc | apply pw_below_drewN | apply below_drew1) | exact HB.out)))); have n1_ := Aside0.mk (below_step (by repeat (first | (with_reducible first | exact HB.out | apply below_alloc | apply pw_below_drewN | apply below_drew1) | exact HB.out)) hb); clear HB; have HO133 := n0_; have HB := n1_; clear n0_ n1_; clear hb ho21; obtain ⟨Ao22, co22, eo22⟩ := Kd.R_slice HO133.out; subst eo22) | (go_at_call 6; (with_reducible refine (curve_Points.calls k 99 _ _ y131 (wrap64 (1 + (wrap64 (Int.tmod (IntKind.u64.wrap (a1)) 64)))) t134 t135 _ ?side1 ?side2 A3.out).mono ?_); (case side1 => repeat (first | exact (Kd.R_reads' HO133.out).2.2 | (with_reducible refine Kd.C_alloc ?_ _) | (with_reducible refine Kd.C_drewN ?_ _) | (with_reducible refine Kd.C_drew ?_))); (case side2 => exact (Kd.R_reads' HO133.out).2.1); rintro e w23 ⟨v136, rfl, ho0, hb⟩; have n0_ := Aside0.mk (Kd.R_below (by (with_reducible repeat (first | apply Kd.R_alloc | apply Kd.R_drewN | apply Kd.R_drew)); exact HO133.out) hb); have n1_ := Aside0.mk (Kd.R_lower ho0 (below_size (by repeat (first | (with_reducible first | exact HB.out | apply below_alloc | apply pw_below_drewN | apply below_drew1) | exact HB.out)))); have n2_ := Aside0.mk (below_step (by repeat (first | (with_reducible first | exact HB.out | apply below_alloc | apply pw_below_drewN | apply below_drew1) | exact HB.out)) hb); clear HO133; clear HB; have HO133 := n0_; have HO137 := n1_; have HB := n2_; clear n0_ n1_ n2_; (try clear hb); (try clear hb2); (try clear hk); (try clear hi); (try clear ho0))); try go_wp2_with (first | ((with_reducible refine gate_dst (N := 20) rfl ?_); refine Kd.R_lit (Kd.int .i64) _ 3 ?hg (N := 20) ?hd (xs := ([wrap64 (Int.tmod (IntKind.u64.wrap (a0)) 1000001)] : List Int)) (inner := [.int .i64 (wrap64 (Int.tmod (IntKind.u64.wrap (a0)) 1000001))]) (ok := fun _ => True) (okp := fun _ => True) ?hr ?hp (fun _ hk => hk) trivial (Below.refl _ _) (Nat.le_refl _) (by simp) ?_; (case hd => rfl); (case hg => rfl); (case hr => first | (go_simp; done) | (go_simp; rfl)); (case hp => exact (Reps.one (show Kd.M (Kd.int .i64) _ _ _ (wrap64 (Int.tmod (IntKind.u64.wrap (a0)) 1000001)) [.int .i64 (wrap64 (Int.tmod (IntKind.u64.wrap (a0)) 1000001))] from rfl) (Reps.none _ _))); intro v132 w20 ho21 hb hg_ hnew_; clear hg_ hnew_; (first | rw [← Ny131.out] at ho21 | (simp only [Int.reduceToNat] at ho21; rw [← Ny131.out] at ho21)); have n0_ := Aside0.mk (Kd.R_lower ho21 (below_size (by repeat (first | (with_reducible first | exact HB.out | apply below_alloc | apply pw_below_drewN | apply below_drew1) | exact HB.out)))); have n1_ := Aside0.mk (below_step (by repeat (first | (with_reducible first | exact HB.out | apply below_alloc | apply pw_below_drewN | apply below_drew1) | exact HB.out)) hb); clear HB; have HO133 := n0_; have HB := n1_; clear n0_ n1_; clear hb ho21; obtain ⟨Ao22, co22, eo22⟩ := Kd.R_slice HO133.out; subst eo22) | (go_at_call 6; (with_reducible refine (curve_Points.calls k 99 _ _ y131 (wrap64 (1 + (wrap64 (Int.tmod (IntKind.u64.wrap (a1)) 64)))) t134 t135 _ ?side1 ?side2 A3.out).mono ?_); (case side1 => repeat (first | exact (Kd.R_reads' HO133.out).2.2 | (with_reducible refine Kd.C_alloc ?_ _) | (with_reducible refine Kd.C_drewN ?_ _) | (with_reducible refine Kd.C_drew ?_))); (case side2 => exact (Kd.R_reads' HO133.out).2.1); rintro e w23 ⟨v136, rfl, ho0, hb⟩; have n0_ := Aside0.mk (Kd.R_below (by (with_reducible repeat (first | apply Kd.R_alloc | apply Kd.R_drewN | apply Kd.R_drew)); exact HO133.out) hb); have n1_ := Aside0.mk (Kd.R_lower ho0 (below_size (by repeat (first | (with_reducible first | exact HB.out | apply below_alloc | apply pw_below_drewN | apply below_drew1) | exact HB.out)))); have n2_ := Aside0.mk (below_step (by repeat (first | (with_reducible first | exact HB.out | apply below_alloc | apply pw_below_drewN | apply below_drew1) | exact HB.out)) hb); clear HO133; clear HB; have HO133 := n0_; have HO137 := n1_; have HB := n2_; clear n0_ n1_ n2_; (try clear hb); (try clear hb2); (try clear hk); (try clear hi); (try clear ho0))))
    go_ret
    exact ⟨by first | rfl | (simp [errW_none, errW_some] <;> rfl) | (simp [*, errW_none, errW_some] <;> rfl), by repeat (first | (with_reducible first | exact HB.out | apply below_alloc | apply pw_below_drewN | apply below_drew1) | exact HB.out)⟩

/-- THE ONE PURE STATEMENT of frisketlaw19_CurveRound: yours. -/
def frisketlaw19_CurveRound.Pure : Prop := ∀ (a0 : Int) (a1 : Int), (Lit.int .i64 a0).wf = true → (Lit.int .i64 a1).wf = true → ∃ k, frisketlaw19_CurveRound.f k a0 a1 = some true
theorem frisketlaw19_CurveRound.walk (P : frisketlaw19_CurveRound.Pure) (a0 : Int) (a1 : Int) (w : World) (w0 : (Lit.int .i64 a0).wf = true) (w1 : (Lit.int .i64 a1).wf = true) :
    Calls Try.prog 3 #[.int .i64 a0, .int .i64 a1] w fun e w' => e = .returned (.bool true) ∧ Below w.heap.size w w' := by
  obtain ⟨k, h⟩ := P a0 a1 w0 w1
  refine (frisketlaw19_CurveRound.calls k a0 a1 true w h).mono ?_
  rintro e w' ⟨rfl, hd⟩
  exact ⟨rfl, hd⟩

end Go.Proofs.Ytfpcejkjabmeeaa.QCurveRound
