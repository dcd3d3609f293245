-- Written by a program of this session (myprint.py) out of the translation; Lean checks it.
import Derived.Test.YtcnebeoodkeaoaaQRasterLinesx0
import Derived.Test.YtcnebeoodkeaoaaQRasterLinesx2
import Derived.Test.YtcnebeoodkeaoaaFRasterLines
import Derived.Test.YtcnebeoodkeaoaaArrEq
namespace Go.Proofs.Ytcnebeoodkeaoaa.QRasterLines
open Go.RowKit Go.Proofs.YtcnebeoodkeaoaaW.PrintWords Go.Proofs.YtcnebeoodkeaoaaW.PrintLast Go.Proofs.YtcnebeoodkeaoaaW.PrintMore
attribute [local go_sem] max2_int min2_int max_two min_two max_three min_three max_four min_four   -- for this text's walks alone
set_option linter.unusedVariables false
set_option linter.unusedSimpArgs false

/-! ### frisketref30_line: function 27 -/
def frisketref30_line.l0 : Nat → Int → Int → Int → Int → Int → List (S40) → Int → Option ((List (S40)))
  | 0, _, _, _, _, _, _, _ => none
  | k + 1, x0, x1, x2, x3, x9, x10, x11 => if x11 ≤ x9 then ((frisketref30_floor.f (wrap64 ((wrap64 ((wrap64 (2 * x11)) * (wrap64 (x2 - x0)))) + x9)) (wrap64 (2 * x9))).bind fun t121 => ((frisketref30_floor.f (wrap64 ((wrap64 ((wrap64 (2 * x11)) * (wrap64 (x3 - x1)))) + x9)) (wrap64 (2 * x9))).bind fun t122 => (if x10.length < 8796093022208 then (frisketref30_line.l0 k x0 x1 x2 x3 x9 (x10 ++ [(⟨wrap64 (x0 + t121), wrap64 (x1 + t122)⟩ : S40)]) (wrap64 (x11 + 1))) else (none)))) else (some x10)
def frisketref30_line.f (k : Nat) (a0 : Int) (a1 : Int) (a2 : Int) (a3 : Int) : Option ((List (S40))) := if (mx (mx (wrap64 (a2 - a0)) (wrap64 (a0 - a2))) (mx (wrap64 (a3 - a1)) (wrap64 (a1 - a3)))) = 0 then (some (([(⟨a0, a1⟩ : S40)] : List (S40)))) else (frisketref30_line.l0 k a0 a1 a2 a3 (mx (mx (wrap64 (a2 - a0)) (wrap64 (a0 - a2))) (mx (wrap64 (a3 - a1)) (wrap64 (a1 - a3)))) ([] : List (S40)) 0)
theorem frisketref30_line.mono_l : ∀ k, (∀ y0 y1 y2 y3 y4 y5 y6, LeO (frisketref30_line.l0 k y0 y1 y2 y3 y4 y5 y6) (frisketref30_line.l0 (k + 1) y0 y1 y2 y3 y4 y5 y6))
  | 0 => fun _ _ _ _ _ _ _ r h => by simp [frisketref30_line.l0] at h
  | k + 1 => by
    have ih0 := frisketref30_line.mono_l k
    · intro y0 y1 y2 y3 y4 y5 y6
      unfold frisketref30_line.l0
      repeat' first
      | (with_reducible exact ih0 _ _ _ _ _ _ _)
      | (with_reducible exact LeO.refl _)
      | (with_reducible exact LeO.none _)
      | (with_reducible refine LeO.ite ?_ ?_)
      | (with_reducible refine LeO.bind ?_ (fun _ => ?_))
      | exact ih0 _ _ _ _ _ _ _
      | exact LeO.none _
      | refine LeO.ite ?_ ?_
      | refine LeO.bind ?_ (fun _ => ?_)
theorem frisketref30_line.mono : ∀ a0 a1 a2 a3 k, LeO (frisketref30_line.f k a0 a1 a2 a3) (frisketref30_line.f (k + 1) a0 a1 a2 a3) := by
  intro a0 a1 a2 a3 k
  have ih0 := frisketref30_line.mono_l k
  unfold frisketref30_line.f
  repeat' first
      | (with_reducible exact ih0 _ _ _ _ _ _ _)
      | (with_reducible exact LeO.refl _)
      | (with_reducible exact LeO.none _)
      | (with_reducible refine LeO.ite ?_ ?_)
      | (with_reducible refine LeO.bind ?_ (fun _ => ?_))
      | exact ih0 _ _ _ _ _ _ _
      | exact LeO.none _
      | refine LeO.ite ?_ ?_
      | refine LeO.bind ?_ (fun _ => ?_)
set_option maxHeartbeats 8000000 in
set_option maxRecDepth 100000 in
theorem frisketref30_line.calls (k : Nat) (a0 : Int) (a1 : Int) (a2 : Int) (a3 : Int) (r : List (S40)) (w : World) (h : frisketref30_line.f k a0 a1 a2 a3 = some r) :
    Calls Try.prog 27 #[.int .i64 a0, .int .i64 a1, .int .i64 a2, .int .i64 a3] w fun e w' => ∃ v0_ : Value, e = .returned (v0_) ∧ Kd.R k40 40 w' w.heap.size (fun _ => True) v0_ r ∧ Below w.heap.size w w' := by
  have hu40 := Try.underlying40
  have HB := Aside0.mk (Below.refl w.heap.size w)
  have H : (if (mx (mx (wrap64 (a2 - a0)) (wrap64 (a0 - a2))) (mx (wrap64 (a3 - a1)) (wrap64 (a1 - a3)))) = 0 then (some (([(⟨a0, a1⟩ : S40)] : List (S40)))) else (frisketref30_line.l0 k a0 a1 a2 a3 (mx (mx (wrap64 (a2 - a0)) (wrap64 (a0 - a2))) (mx (wrap64 (a3 - a1)) (wrap64 (a1 - a3)))) ([] : List (S40)) 0)) = some r := h
  clear h
  obtain ⟨ji5, hji5⟩ : ∃ j_ : Int, (mx (wrap64 (a2 - a0)) (wrap64 (a0 - a2))) = j_ := ⟨_, rfl⟩
  replace H : (if (mx (ji5) (mx (wrap64 (a3 - a1)) (wrap64 (a1 - a3)))) = 0 then (some (([(⟨a0, a1⟩ : S40)] : List (S40)))) else (frisketref30_line.l0 k a0 a1 a2 a3 (mx (ji5) (mx (wrap64 (a3 - a1)) (wrap64 (a1 - a3)))) ([] : List (S40)) 0)) = some r := by first | (rw [hji5] at H; exact H) | (simp only [hji5] at H ⊢; exact H)
  have hji5_ : (if (wrap64 (a2 - a0)) < (wrap64 (a0 - a2)) then (wrap64 (a0 - a2)) else (wrap64 (a2 - a0))) = ji5 := hji5
  obtain ⟨ji6, hji6⟩ : ∃ j_ : Int, (mx (wrap64 (a3 - a1)) (wrap64 (a1 - a3))) = j_ := ⟨_, rfl⟩
  replace H : (if (mx (ji5) (ji6)) = 0 then (some (([(⟨a0, a1⟩ : S40)] : List (S40)))) else (frisketref30_line.l0 k a0 a1 a2 a3 (mx (ji5) (ji6)) ([] : List (S40)) 0)) = some r := by first | (rw [hji6] at H; exact H) | (simp only [hji6] at H ⊢; exact H)
  have hji6_ : (if (wrap64 (a3 - a1)) < (wrap64 (a1 - a3)) then (wrap64 (a1 - a3)) else (wrap64 (a3 - a1))) = ji6 := hji6
  obtain ⟨ji7, hji7⟩ : ∃ j_ : Int, (mx (ji5) (ji6)) = j_ := ⟨_, rfl⟩
  replace H : (if (ji7) = 0 then (some (([(⟨a0, a1⟩ : S40)] : List (S40)))) else (frisketref30_line.l0 k a0 a1 a2 a3 ji7 ([] : List (S40)) 0)) = some r := by first | (rw [hji7] at H; exact H) | (simp only [hji7] at H ⊢; exact H)
  have hji7_ : (if (ji5) < (ji6) then (ji6) else (ji5)) = ji7 := hji7
  by_cases c8 : (ji7) = 0
  · rw [if_pos c8] at H
    have c8b0 : ((ji7) == 0) = true := beq_iff_eq.mpr c8
    have c8b1 : ((ji7) != 0) = false := bne_eq_false_iff_eq.mpr c8
    clear c8
    obtain ⟨y118, hy118⟩ : ∃ y_ : List (S40), y_ = (([(⟨a0, a1⟩ : S40)] : List (S40))) := ⟨_, rfl⟩
    replace H : (some y118) = some r := by first | (rw [hy118]; with_reducible exact H) | (have H2_ := (Option.bind_some _ _).symm.trans H; rw [hy118]; with_reducible exact H2_) | (have H2_ := (Option.bind_some _ _).symm.trans H; with_reducible exact H2_) | with_reducible exact H | (rw [hy118]; exact H) | exact H
    have Ny118 := Aside0.mk hy118
    clear hy118
    as_aux_lemma =>
      obtain rfl := Option.some.inj H
      go_enter Try.func27, Try.ntmps27
      go_wp2_with (first | ((with_reducible refine gate_dst (N := 32) rfl ?_); refine Kd.R_lit k40 _ 40 ?hg (N := 32) ?hd (xs := ([(⟨a0, a1⟩ : S40)] : List (S40))) (inner := [.int .i64 a0, .int .i64 a1]) (ok := fun _ => True) (okp := fun _ => True) ?hr ?hp (fun _ hk => hk) trivial (Below.refl _ _) (Nat.le_refl _) (by simp) ?_; (case hd => rfl); (case hg => rfl); (case hr => first | (go_simp; done) | (go_simp; rfl)); (case hp => exact (Reps.c2 (show Kd.M k40 _ _ _ (⟨a0, a1⟩ : S40) [.int .i64 a0, .int .i64 a1] from (k40_mkM _ _ _ (⟨a0, a1⟩ : S40) )) (Reps.none _ _))); intro v119 w9 ho10 hb hg_ hnew_; clear hg_ hnew_; (first | rw [← Ny118.out] at ho10 | (simp only [Int.reduceToNat] at ho10; rw [← Ny118.out] at ho10)); have n0_ := Aside0.mk (Kd.R_lower ho10 (below_size (by repeat (first | (with_reducible first | exact HB.out | apply below_alloc | apply pw_below_drewN | apply below_drew1) | exact HB.out)))); have n1_ := Aside0.mk (below_step (by repeat (first | (with_reducible first | exact HB.out | apply below_alloc | apply pw_below_drewN | apply below_drew1) | exact HB.out)) hb); clear HB; have HO120 := n0_; have HB := n1_; clear n0_ n1_; clear hb ho10))
      go_ret
      exact ⟨_, by first | rfl | (simp [errW_none, errW_some] <;> rfl) | (simp only [← hji5, ← hji6, ← hji7]; first | rfl | (simp [errW_none, errW_some] <;> rfl)) | (simp [*, errW_none, errW_some] <;> rfl), by (with_reducible repeat (first | apply Kd.R_alloc | apply Kd.R_drewN | apply Kd.R_drew)); exact HO120.out, by repeat (first | (with_reducible first | exact HB.out | apply below_alloc | apply pw_below_drewN | apply below_drew1) | exact HB.out)⟩
  · rw [if_neg c8] at H
    have c8b0 : ((ji7) == 0) = false := beq_eq_false_iff_ne.mpr c8
    have c8b1 : ((ji7) != 0) = true := bne_iff_ne.mpr c8
    have H' := Aside0.mk H
    clear H
    go_enter Try.func27, Try.ntmps27
    go_wp2
    go_loopg [10, 11] k (fun kq v10 v11 w' => ∃ (x10_1 : List (S40)) (x11_1 : Int), v11 = .int .i64 x11_1 ∧ Aside0 (frisketref30_line.l0 kq a0 a1 a2 a3 ji7 x10_1 x11_1 = some r) ∧ Aside0 (kq ≤ k) ∧ Aside0 (Kd.R k40 40 w' w.heap.size (fun _ => True) v10 x10_1) ∧ Aside0 (Below w.heap.size w w'))
    case atStart => exact ⟨(([] : List (S40))), (0), (by first | rfl | (simp; done) | (simp [*]; done)), H', ⟨Nat.le_refl _⟩, ⟨by first | exact Kd.R_nil _ _ _ _ _ | exact Kd.N_nil _ _ _ _ _ | exact Kd.V_nil _ _ _ _ _ | exact Kd.Q_nil _ _ _ _ _ | exact Kd.S_nil _ _ _ _ _⟩, ⟨by repeat (first | (with_reducible first | exact HB.out | apply below_alloc | apply pw_below_drewN | apply below_drew1) | exact HB.out)⟩⟩
    case round =>
      clear H'
      try clear c2
      try clear p2
      try clear p6
      try clear c8
      try clear c8b0
      try clear c8b1
      obtain ⟨x10_1, x11_1, rfl, HA, HK1, HO_10, HB⟩ := hrel
      cases gk with
      | zero => exact absurd HA.out (by simp [frisketref30_line.l0])
      | succ k1 =>
        have H := HA.out
        clear HA
        simp only [frisketref30_line.l0] at H
        by_cases c11 : x11_1 ≤ ji7
        · rw [if_pos c11] at H
          have c11b0 : decide (x11_1 ≤ ji7) = true := decide_eq_true c11
          clear c11
          replace H := Option.bind_eq_some_iff.mp H
          obtain ⟨t121, A120, H⟩ := H
          replace H : ((frisketref30_floor.f (wrap64 ((wrap64 ((wrap64 (2 * x11_1)) * (wrap64 (a3 - a1)))) + ji7)) (wrap64 (2 * ji7))).bind fun t122 => (if x10_1.length < 8796093022208 then (frisketref30_line.l0 k1 a0 a1 a2 a3 ji7 (x10_1 ++ [(⟨wrap64 (a0 + t121), wrap64 (a1 + t122)⟩ : S40)]) (wrap64 (x11_1 + 1))) else (none))) = some r := H
          have A12 := Aside0.mk A120
          clear A120
          replace H := Option.bind_eq_some_iff.mp H
          obtain ⟨t122, A130, H⟩ := H
          replace H : (if x10_1.length < 8796093022208 then (frisketref30_line.l0 k1 a0 a1 a2 a3 ji7 (x10_1 ++ [(⟨wrap64 (a0 + t121), wrap64 (a1 + t122)⟩ : S40)]) (wrap64 (x11_1 + 1))) else (none)) = some r := H
          have A13 := Aside0.mk A130
          clear A130
          by_cases c14 : x10_1.length < 8796093022208
          · rw [if_pos c14] at H
            have LMc14 := Aside0.mk c14
            clear c14
            obtain ⟨y123, hy123⟩ : ∃ y_ : List (S40), y_ = (x10_1 ++ [(⟨wrap64 (a0 + t121), wrap64 (a1 + t122)⟩ : S40)]) := ⟨_, rfl⟩
            replace H : (frisketref30_line.l0 k1 a0 a1 a2 a3 ji7 y123 (wrap64 (x11_1 + 1))) = some r := by first | (rw [hy123]; with_reducible exact H) | (have H2_ := (Option.bind_some _ _).symm.trans H; rw [hy123]; with_reducible exact H2_) | (have H2_ := (Option.bind_some _ _).symm.trans H; with_reducible exact H2_) | with_reducible exact H | (rw [hy123]; exact H) | exact H
            have Ny123 := Aside0.mk hy123
            clear hy123
            as_aux_lemma =>
              have H' := Aside0.mk H
              clear H
              go_wp2_with (first | ((with_reducible refine gate_callee (f := 33) rfl ?_); refine goesL_ (some 50) rfl rfl Try.func33 (by kernel_rfl) rfl #[.int .i64 (wrap64 ((wrap64 ((wrap64 (2 * x11_1)) * (wrap64 (a2 - a0)))) + ji7)), .int .i64 (wrap64 (2 * ji7))] rfl (by (try simp only [List.map_toArray, List.map_cons, List.map_nil]); first | done | (simp only [hji7]; rfl) | rfl | (simp only [List.length_drop, List.length_take]; rfl)) ?_; (with_reducible refine (frisketref30_floor.calls (wrap64 ((wrap64 ((wrap64 (2 * x11_1)) * (wrap64 (a2 - a0)))) + ji7)) (wrap64 (2 * ji7)) t121 _ A12.out).mono ?_); rintro e w' ⟨rfl, ⟨nd, rfl⟩⟩; refine ⟨_, rfl, ?_⟩) | ((with_reducible refine gate_callee (f := 33) rfl ?_); refine goesL_ (some 63) rfl rfl Try.func33 (by kernel_rfl) rfl #[.int .i64 (wrap64 ((wrap64 ((wrap64 (2 * x11_1)) * (wrap64 (a3 - a1)))) + ji7)), .int .i64 (wrap64 (2 * ji7))] rfl (by (try simp only [List.map_toArray, List.map_cons, List.map_nil]); first | done | (simp only [hji7]; rfl) | rfl | (simp only [List.length_drop, List.length_take]; rfl)) ?_; (with_reducible refine (frisketref30_floor.calls (wrap64 ((wrap64 ((wrap64 (2 * x11_1)) * (wrap64 (a3 - a1)))) + ji7)) (wrap64 (2 * ji7)) t122 _ A13.out).mono ?_); rintro e w' ⟨rfl, ⟨nd, rfl⟩⟩; refine ⟨_, rfl, ?_⟩) | ((with_reducible refine gate_builtin (b := .append) (xs := #[.tmp 38, .tmp 66]) rfl ?_); at_builtin; refine Kd.R_append k40 (w0 := w) w.heap.size rfl (.tmp 38) (.tmp 66) 37 40 (.agg #[(.int .i64 0), (.int .i64 0)]) 16 rfl Try.underlying37 info40 rfl (by decide) (by omega) u10 x10_1 (⟨wrap64 (a0 + t121), wrap64 (a1 + t122)⟩ : S40) [.int .i64 (wrap64 (a0 + t121)), .int .i64 (wrap64 (a1 + t122))] (fun _ => True) (fun _ => False) rfl rfl ?aP (fun _ hk => hk.elim) ?aF ?aO ?aB ?aS ?aL ?_; (case aP => exact k40_mkM _ _ _ (⟨wrap64 (a0 + t121), wrap64 (a1 + t122)⟩ : S40)); (case aB => exact (by repeat (first | (with_reducible first | exact HB.out | apply below_alloc | apply pw_below_drewN | apply below_drew1) | exact HB.out))); (case aF => exact (fun _ _ => trivial)); (case aO => exact (by (with_reducible repeat (first | apply Kd.R_alloc | apply Kd.R_drewN | apply Kd.R_drew)); exact HO_10.out)); (case aS => exact (below_size (by repeat (first | (with_reducible first | exact HB.out | apply below_alloc | apply pw_below_drewN | apply below_drew1) | exact HB.out)))); (case aL => have := LMc14.out; omega); intro v124 w15 ho hb hg hat; rw [← Ny123.out] at ho; have n0_ := Aside0.mk (hb); have n1_ := Aside0.mk (ho); clear HB; clear HO_10; have HB := n0_; have HO125 := n1_; clear n0_ n1_; clear ho hb hg hat))
              go_roundg k1
              case measure => have := HK1.out; omega
              case rel => exact ⟨(y123), (wrap64 (x11_1 + 1)), (by first | rfl | (simp; done) | (simp [*]; done)), H', ⟨by have := HK1.out; omega⟩, ⟨by (with_reducible repeat (first | apply Kd.R_alloc | apply Kd.R_drewN | apply Kd.R_drew)); exact HO125.out⟩, ⟨by repeat (first | (with_reducible first | exact HB.out | apply below_alloc | apply pw_below_drewN | apply below_drew1) | exact HB.out)⟩⟩
          · rw [if_neg c14] at H
            exact absurd H (by simp)
        · rw [if_neg c11] at H
          have c11b0 : decide (x11_1 ≤ ji7) = false := decide_eq_false c11
          clear c11
          as_aux_lemma =>
            obtain rfl := Option.some.inj H
            go_wp2
            go_ret
            exact ⟨_, by first | rfl | (simp [errW_none, errW_some] <;> rfl) | (simp only [← hji5, ← hji6, ← hji7]; first | rfl | (simp [errW_none, errW_some] <;> rfl)) | (simp [*, errW_none, errW_some] <;> rfl), by (with_reducible repeat (first | apply Kd.R_alloc | apply Kd.R_drewN | apply Kd.R_drew)); exact HO_10.out, by repeat (first | (with_reducible first | exact HB.out | apply below_alloc | apply pw_below_drewN | apply below_drew1) | exact HB.out)⟩

/-! ### frisketref30_Line: function 13 -/
def frisketref30_Line.f (k : Nat) (a0 : Int) (a1 : Int) (a2 : Int) (a3 : Int) : Option ((List (S40)) × Int) := (frisketref30_near.f a0 1000000).bind fun t126 => (if t126 = true then ((frisketref30_near.f a1 1000000).bind fun t127 => (if t127 = true then ((frisketref30_near.f a2 1000000).bind fun t128 => (if t128 = true then ((frisketref30_near.f a3 1000000).bind fun t129 => (if t129 = true then ((frisketref30_line.f k a0 a1 a2 a3).bind fun t130 => (some (t130, 0))) else (some (([] : List (S40)), 1)))) else (some (([] : List (S40)), 1)))) else (some (([] : List (S40)), 1)))) else (some (([] : List (S40)), 1)))
theorem frisketref30_Line.mono : ∀ a0 a1 a2 a3 k, LeO (frisketref30_Line.f k a0 a1 a2 a3) (frisketref30_Line.f (k + 1) a0 a1 a2 a3) := by
  intro a0 a1 a2 a3 k
  unfold frisketref30_Line.f
  repeat' first
      | (with_reducible exact frisketref30_line.mono _ _ _ _ _)
      | (with_reducible exact LeO.refl _)
      | (with_reducible exact LeO.none _)
      | (with_reducible refine LeO.ite ?_ ?_)
      | (with_reducible refine LeO.bind ?_ (fun _ => ?_))
      | exact frisketref30_line.mono _ _ _ _ _
      | exact LeO.none _
      | refine LeO.ite ?_ ?_
      | refine LeO.bind ?_ (fun _ => ?_)
set_option maxHeartbeats 8000000 in
set_option maxRecDepth 100000 in
theorem frisketref30_Line.calls (k : Nat) (a0 : Int) (a1 : Int) (a2 : Int) (a3 : Int) (r1 : List (S40)) (r2 : Int) (w : World) (h : frisketref30_Line.f k a0 a1 a2 a3 = some (r1, r2)) :
    Calls Try.prog 13 #[.int .i64 a0, .int .i64 a1, .int .i64 a2, .int .i64 a3] w fun e w' => ∃ v0_ : Value, e = .returned (.tuple #[v0_, .int .i64 r2]) ∧ Kd.R k40 40 w' w.heap.size (fun _ => True) v0_ r1 ∧ Below w.heap.size w w' := by
  have HB := Aside0.mk (Below.refl w.heap.size w)
  have H : ((frisketref30_near.f a0 1000000).bind fun t126 => (if t126 = true then ((frisketref30_near.f a1 1000000).bind fun t127 => (if t127 = true then ((frisketref30_near.f a2 1000000).bind fun t128 => (if t128 = true then ((frisketref30_near.f a3 1000000).bind fun t129 => (if t129 = true then ((frisketref30_line.f k a0 a1 a2 a3).bind fun t130 => (some (t130, 0))) else (some (([] : List (S40)), 1)))) else (some (([] : List (S40)), 1)))) else (some (([] : List (S40)), 1)))) else (some (([] : List (S40)), 1)))) = some (r1, r2) := h
  clear h
  replace H := Option.bind_eq_some_iff.mp H
  obtain ⟨t126, A50, H⟩ := H
  replace H : (if t126 = true then ((frisketref30_near.f a1 1000000).bind fun t127 => (if t127 = true then ((frisketref30_near.f a2 1000000).bind fun t128 => (if t128 = true then ((frisketref30_near.f a3 1000000).bind fun t129 => (if t129 = true then ((frisketref30_line.f k a0 a1 a2 a3).bind fun t130 => (some (t130, 0))) else (some (([] : List (S40)), 1)))) else (some (([] : List (S40)), 1)))) else (some (([] : List (S40)), 1)))) else (some (([] : List (S40)), 1))) = some (r1, r2) := H
  have A5 := Aside0.mk A50
  clear A50
  by_cases c6 : t126 = true
  · subst c6
    have H1 : ((frisketref30_near.f a1 1000000).bind fun t127 => (if t127 = true then ((frisketref30_near.f a2 1000000).bind fun t128 => (if t128 = true then ((frisketref30_near.f a3 1000000).bind fun t129 => (if t129 = true then ((frisketref30_line.f k a0 a1 a2 a3).bind fun t130 => (some (t130, 0))) else (some (([] : List (S40)), 1)))) else (some (([] : List (S40)), 1)))) else (some (([] : List (S40)), 1)))) = some (r1, r2) := by rw [if_pos rfl] at H; exact H
    clear H
    have H := H1
    clear H1
    replace H := Option.bind_eq_some_iff.mp H
    obtain ⟨t127, A70, H⟩ := H
    replace H : (if t127 = true then ((frisketref30_near.f a2 1000000).bind fun t128 => (if t128 = true then ((frisketref30_near.f a3 1000000).bind fun t129 => (if t129 = true then ((frisketref30_line.f k a0 a1 a2 a3).bind fun t130 => (some (t130, 0))) else (some (([] : List (S40)), 1)))) else (some (([] : List (S40)), 1)))) else (some (([] : List (S40)), 1))) = some (r1, r2) := H
    have A7 := Aside0.mk A70
    clear A70
    by_cases c8 : t127 = true
    · subst c8
      have H1 : ((frisketref30_near.f a2 1000000).bind fun t128 => (if t128 = true then ((frisketref30_near.f a3 1000000).bind fun t129 => (if t129 = true then ((frisketref30_line.f k a0 a1 a2 a3).bind fun t130 => (some (t130, 0))) else (some (([] : List (S40)), 1)))) else (some (([] : List (S40)), 1)))) = some (r1, r2) := by rw [if_pos rfl] at H; exact H
      clear H
      have H := H1
      clear H1
      replace H := Option.bind_eq_some_iff.mp H
      obtain ⟨t128, A90, H⟩ := H
      replace H : (if t128 = true then ((frisketref30_near.f a3 1000000).bind fun t129 => (if t129 = true then ((frisketref30_line.f k a0 a1 a2 a3).bind fun t130 => (some (t130, 0))) else (some (([] : List (S40)), 1)))) else (some (([] : List (S40)), 1))) = some (r1, r2) := H
      have A9 := Aside0.mk A90
      clear A90
      by_cases c10 : t128 = true
      · subst c10
        have H1 : ((frisketref30_near.f a3 1000000).bind fun t129 => (if t129 = true then ((frisketref30_line.f k a0 a1 a2 a3).bind fun t130 => (some (t130, 0))) else (some (([] : List (S40)), 1)))) = some (r1, r2) := by rw [if_pos rfl] at H; exact H
        clear H
        have H := H1
        clear H1
        replace H := Option.bind_eq_some_iff.mp H
        obtain ⟨t129, A110, H⟩ := H
        replace H : (if t129 = true then ((frisketref30_line.f k a0 a1 a2 a3).bind fun t130 => (some (t130, 0))) else (some (([] : List (S40)), 1))) = some (r1, r2) := H
        have A11 := Aside0.mk A110
        clear A110
        by_cases c12 : t129 = true
        · subst c12
          have H1 : ((frisketref30_line.f k a0 a1 a2 a3).bind fun t130 => (some (t130, 0))) = some (r1, r2) := by rw [if_pos rfl] at H; exact H
          clear H
          have H := H1
          clear H1
          replace H := Option.bind_eq_some_iff.mp H
          obtain ⟨t130, A130, H⟩ := H
          replace H : (some (t130, 0)) = some (r1, r2) := H
          have A13 := Aside0.mk A130
          clear A130
          as_aux_lemma =>
            simp only [Option.some.injEq, Prod.mk.injEq] at H
            obtain ⟨rfl, rfl⟩ := H
            go_enter Try.func13, Try.ntmps13
            go_wp2_with (first | ((with_reducible refine gate_callee (f := 22) rfl ?_); refine goesL_ (some 11) rfl rfl Try.func22 (by kernel_rfl) rfl #[.int .i64 a0, .int .i64 1000000] rfl (by (try simp only [List.map_toArray, List.map_cons, List.map_nil]); first | done | rfl | (simp only [List.length_drop, List.length_take]; rfl)) ?_; (with_reducible refine (frisketref30_near.calls a0 1000000 true _ A5.out).mono ?_); rintro e w' ⟨rfl, ⟨nd, rfl⟩⟩; refine ⟨_, rfl, ?_⟩) | (go_at_call 22; (with_reducible refine (frisketref30_near.calls a1 1000000 true _ A7.out).mono ?_); rintro e w' ⟨rfl, ⟨nd, rfl⟩⟩) | (go_at_call 22; (with_reducible refine (frisketref30_near.calls a2 1000000 true _ A9.out).mono ?_); rintro e w' ⟨rfl, ⟨nd, rfl⟩⟩) | (go_at_call 22; (with_reducible refine (frisketref30_near.calls a3 1000000 true _ A11.out).mono ?_); rintro e w' ⟨rfl, ⟨nd, rfl⟩⟩) | ((with_reducible refine gate_callee (f := 27) rfl ?_); refine goesL_ (some 32) rfl rfl Try.func27 (by kernel_rfl) rfl #[.int .i64 a0, .int .i64 a1, .int .i64 a2, .int .i64 a3] rfl (by (try simp only [List.map_toArray, List.map_cons, List.map_nil]); first | done | rfl | (simp only [List.length_drop, List.length_take]; rfl)) ?_; (with_reducible refine (frisketref30_line.calls k a0 a1 a2 a3 t130 _ A13.out).mono ?_); rintro e w14 ⟨v131, rfl, ho0, hb⟩; refine ⟨_, rfl, ?_⟩; have n0_ := Aside0.mk (Kd.R_lower ho0 (below_size (by repeat (first | (with_reducible first | exact HB.out | apply below_alloc | apply pw_below_drewN | apply below_drew1) | exact HB.out)))); have n1_ := Aside0.mk (below_step (by repeat (first | (with_reducible first | exact HB.out | apply below_alloc | apply pw_below_drewN | apply below_drew1) | exact HB.out)) hb); clear HB; have HO132 := n0_; have HB := n1_; clear n0_ n1_; (try clear hb); (try clear hb2); (try clear hk); (try clear hi); (try clear ho0)))
            go_ret2
            exact ⟨_, by first | rfl | (simp [errW_none, errW_some] <;> rfl) | (simp [*, errW_none, errW_some] <;> rfl), by (with_reducible repeat (first | apply Kd.R_alloc | apply Kd.R_drewN | apply Kd.R_drew)); exact HO132.out, by repeat (first | (with_reducible first | exact HB.out | apply below_alloc | apply pw_below_drewN | apply below_drew1) | exact HB.out)⟩
        · replace c12 := Bool.eq_false_iff.mpr c12
          subst c12
          have H1 : (some (([] : List (S40)), 1)) = some (r1, r2) := by rw [if_neg (show ¬ (false = true) by decide)] at H; exact H
          clear H
          have H := H1
          clear H1
          as_aux_lemma =>
            simp only [Option.some.injEq, Prod.mk.injEq] at H
            obtain ⟨rfl, rfl⟩ := H
            go_enter Try.func13, Try.ntmps13
            go_wp2_with (first | ((with_reducible refine gate_callee (f := 22) rfl ?_); refine goesL_ (some 11) rfl rfl Try.func22 (by kernel_rfl) rfl #[.int .i64 a0, .int .i64 1000000] rfl (by (try simp only [List.map_toArray, List.map_cons, List.map_nil]); first | done | rfl | (simp only [List.length_drop, List.length_take]; rfl)) ?_; (with_reducible refine (frisketref30_near.calls a0 1000000 true _ A5.out).mono ?_); rintro e w' ⟨rfl, ⟨nd, rfl⟩⟩; refine ⟨_, rfl, ?_⟩) | (go_at_call 22; (with_reducible refine (frisketref30_near.calls a1 1000000 true _ A7.out).mono ?_); rintro e w' ⟨rfl, ⟨nd, rfl⟩⟩) | (go_at_call 22; (with_reducible refine (frisketref30_near.calls a2 1000000 true _ A9.out).mono ?_); rintro e w' ⟨rfl, ⟨nd, rfl⟩⟩) | (go_at_call 22; (with_reducible refine (frisketref30_near.calls a3 1000000 false _ A11.out).mono ?_); rintro e w' ⟨rfl, ⟨nd, rfl⟩⟩))
            go_ret2
            exact ⟨_, by first | rfl | (simp [errW_none, errW_some] <;> rfl) | (simp [*, errW_none, errW_some] <;> rfl), by first | exact Kd.R_nil _ _ _ _ _ | exact Kd.N_nil _ _ _ _ _ | exact Kd.V_nil _ _ _ _ _ | exact Kd.Q_nil _ _ _ _ _ | exact Kd.S_nil _ _ _ _ _, by repeat (first | (with_reducible first | exact HB.out | apply below_alloc | apply pw_below_drewN | apply below_drew1) | exact HB.out)⟩
      · replace c10 := Bool.eq_false_iff.mpr c10
        subst c10
        have H1 : (some (([] : List (S40)), 1)) = some (r1, r2) := by rw [if_neg (show ¬ (false = true) by decide)] at H; exact H
        clear H
        have H := H1
        clear H1
        as_aux_lemma =>
          simp only [Option.some.injEq, Prod.mk.injEq] at H
          obtain ⟨rfl, rfl⟩ := H
          go_enter Try.func13, Try.ntmps13
          go_wp2_with (first | ((with_reducible refine gate_callee (f := 22) rfl ?_); refine goesL_ (some 11) rfl rfl Try.func22 (by kernel_rfl) rfl #[.int .i64 a0, .int .i64 1000000] rfl (by (try simp only [List.map_toArray, List.map_cons, List.map_nil]); first | done | rfl | (simp only [List.length_drop, List.length_take]; rfl)) ?_; (with_reducible refine (frisketref30_near.calls a0 1000000 true _ A5.out).mono ?_); rintro e w' ⟨rfl, ⟨nd, rfl⟩⟩; refine ⟨_, rfl, ?_⟩) | (go_at_call 22; (with_reducible refine (frisketref30_near.calls a1 1000000 true _ A7.out).mono ?_); rintro e w' ⟨rfl, ⟨nd, rfl⟩⟩) | (go_at_call 22; (with_reducible refine (frisketref30_near.calls a2 1000000 false _ A9.out).mono ?_); rintro e w' ⟨rfl, ⟨nd, rfl⟩⟩))
          go_ret2
          exact ⟨_, by first | rfl | (simp [errW_none, errW_some] <;> rfl) | (simp [*, errW_none, errW_some] <;> rfl), by first | exact Kd.R_nil _ _ _ _ _ | exact Kd.N_nil _ _ _ _ _ | exact Kd.V_nil _ _ _ _ _ | exact Kd.Q_nil _ _ _ _ _ | exact Kd.S_nil _ _ _ _ _, by repeat (first | (with_reducible first | exact HB.out | apply below_alloc | apply pw_below_drewN | apply below_drew1) | exact HB.out)⟩
    · replace c8 := Bool.eq_false_iff.mpr c8
      subst c8
      have H1 : (some (([] : List (S40)), 1)) = some (r1, r2) := by rw [if_neg (show ¬ (false = true) by decide)] at H; exact H
      clear H
      have H := H1
      clear H1
      as_aux_lemma =>
        simp only [Option.some.injEq, Prod.mk.injEq] at H
        obtain ⟨rfl, rfl⟩ := H
        go_enter Try.func13, Try.ntmps13
        go_wp2_with (first | ((with_reducible refine gate_callee (f := 22) rfl ?_); refine goesL_ (some 11) rfl rfl Try.func22 (by kernel_rfl) rfl #[.int .i64 a0, .int .i64 1000000] rfl (by (try simp only [List.map_toArray, List.map_cons, List.map_nil]); first | done | rfl | (simp only [List.length_drop, List.length_take]; rfl)) ?_; (with_reducible refine (frisketref30_near.calls a0 1000000 true _ A5.out).mono ?_); rintro e w' ⟨rfl, ⟨nd, rfl⟩⟩; refine ⟨_, rfl, ?_⟩) | (go_at_call 22; (with_reducible refine (frisketref30_near.calls a1 1000000 false _ A7.out).mono ?_); rintro e w' ⟨rfl, ⟨nd, rfl⟩⟩))
        go_ret2
        exact ⟨_, by first | rfl | (simp [errW_none, errW_some] <;> rfl) | (simp [*, errW_none, errW_some] <;> rfl), by first | exact Kd.R_nil _ _ _ _ _ | exact Kd.N_nil _ _ _ _ _ | exact Kd.V_nil _ _ _ _ _ | exact Kd.Q_nil _ _ _ _ _ | exact Kd.S_nil _ _ _ _ _, by repeat (first | (with_reducible first | exact HB.out | apply below_alloc | apply pw_below_drewN | apply below_drew1) | exact HB.out)⟩
  · replace c6 := Bool.eq_false_iff.mpr c6
    subst c6
    have H1 : (some (([] : List (S40)), 1)) = some (r1, r2) := by rw [if_neg (show ¬ (false = true) by decide)] at H; exact H
    clear H
    have H := H1
    clear H1
    as_aux_lemma =>
      simp only [Option.some.injEq, Prod.mk.injEq] at H
      obtain ⟨rfl, rfl⟩ := H
      go_enter Try.func13, Try.ntmps13
      go_wp2_with (first | ((with_reducible refine gate_callee (f := 22) rfl ?_); refine goesL_ (some 11) rfl rfl Try.func22 (by kernel_rfl) rfl #[.int .i64 a0, .int .i64 1000000] rfl (by (try simp only [List.map_toArray, List.map_cons, List.map_nil]); first | done | rfl | (simp only [List.length_drop, List.length_take]; rfl)) ?_; (with_reducible refine (frisketref30_near.calls a0 1000000 false _ A5.out).mono ?_); rintro e w' ⟨rfl, ⟨nd, rfl⟩⟩; refine ⟨_, rfl, ?_⟩))
      go_ret2
      exact ⟨_, by first | rfl | (simp [errW_none, errW_some] <;> rfl) | (simp [*, errW_none, errW_some] <;> rfl), by first | exact Kd.R_nil _ _ _ _ _ | exact Kd.N_nil _ _ _ _ _ | exact Kd.V_nil _ _ _ _ _ | exact Kd.Q_nil _ _ _ _ _ | exact Kd.S_nil _ _ _ _ _, by repeat (first | (with_reducible first | exact HB.out | apply below_alloc | apply pw_below_drewN | apply below_drew1) | exact HB.out)⟩

end Go.Proofs.Ytcnebeoodkeaoaa.QRasterLines
