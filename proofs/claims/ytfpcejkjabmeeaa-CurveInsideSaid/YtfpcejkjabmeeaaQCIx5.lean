-- Written by a program of this session (myprint.py) out of the translation; Lean checks it.
import Derived.Test.YtfpcejkjabmeeaaQCIx0
import Derived.Test.YtfpcejkjabmeeaaQCIx4
import Derived.Test.YtfpcejkjabmeeaaFMixCI
import Derived.Test.YtfpcejkjabmeeaaArrEq
namespace Go.Proofs.Ytfpcejkjabmeeaa.QCI
open Go.RowKit Go.Proofs.YtfpcejkjabmeeaaW.PrintWords Go.Proofs.YtfpcejkjabmeeaaW.PrintLast Go.Proofs.YtfpcejkjabmeeaaW.PrintMore
attribute [local go_sem] max2_int min2_int max_two min_two max_three min_three max_four min_four   -- for this text's walks alone
set_option linter.unusedVariables false
set_option linter.unusedSimpArgs false

/-! ### frisketlaw19_Stroke: function 8 -/
mutual
def frisketlaw19_Stroke.j0 : Nat → List Int → Int → Option (Int × List Int)
 | 0, _, _ => none
 | k + 1, x0, x4 => (frisketlaw19_nth.f x0 0 10).bind fun t175 => (if (Int.tmod (IntKind.u64.wrap (wrap64 (t175 + 10))) 5) = 0 then ((frisketlaw19_nth.f x0 1 x4).bind fun t176 => ((frisketlaw19_nth.f x0 2 x4).bind fun t177 => (some (108, (([t176, t177] : List Int)))))) else (if (Int.tmod (IntKind.u64.wrap (wrap64 (t175 + 10))) 5) = 1 then ((frisketlaw19_nth.f x0 1 x4).bind fun t181 => ((frisketlaw19_nth.f x0 1 x4).bind fun t182 => (some (99, (([mx t181 (wrap64 (-t182))] : List Int)))))) else (if (Int.tmod (IntKind.u64.wrap (wrap64 (t175 + 10))) 5) = 2 then ((frisketlaw19_nth.f x0 1 x4).bind fun t186 => ((frisketlaw19_nth.f x0 1 x4).bind fun t187 => ((frisketlaw19_nth.f x0 2 x4).bind fun t188 => ((frisketlaw19_nth.f x0 2 x4).bind fun t189 => (some (101, (([mx t186 (wrap64 (-t187)), mx t188 (wrap64 (-t189))] : List Int)))))))) else (if (Int.tmod (IntKind.u64.wrap (wrap64 (t175 + 10))) 5) = 3 then ((frisketlaw19_nth.f x0 1 x4).bind fun t193 => ((frisketlaw19_nth.f x0 2 x4).bind fun t194 => ((frisketlaw19_nth.f x0 3 x4).bind fun t195 => ((frisketlaw19_nth.f x0 4 x4).bind fun t196 => (some (97, (([t193, t194, t195, t196] : List Int)))))))) else ((frisketlaw19_nth.f x0 1 x4).bind fun t200 => ((frisketlaw19_nth.f x0 2 x4).bind fun t201 => (frisketlaw19_Stroke.l0 k x0 x4 (([t200, t201] : List Int)) 3)))))))
def frisketlaw19_Stroke.l0 : Nat → List Int → Int → List Int → Int → Option (Int × List Int)
 | 0, _, _, _, _ => none
 | k + 1, x0, x4, x5, x6 => if (wrap64 (x6 + 1)) < (x0.length : Int) then (frisketlaw19_Stroke.j2 k x0 x4 x5 x6 (decide (x6 < 40))) else (frisketlaw19_Stroke.j2 k x0 x4 x5 x6 false)
def frisketlaw19_Stroke.j2 : Nat → List Int → Int → List Int → Int → Bool → Option (Int × List Int)
 | 0, _, _, _, _, _ => none
 | k + 1, x0, x4, x5, x6, x84 => if x84 = true then ((frisketlaw19_nth.f x0 x6 x4).bind fun t205 => ((frisketlaw19_nth.f x0 (wrap64 (x6 + 1)) x4).bind fun t206 => ((some (([t205, t206] : List Int) : List Int)).bind fun y207 => (if x5.length + y207.length < 17592186044416 then (frisketlaw19_Stroke.l0 k x0 x4 (x5 ++ y207) (wrap64 (x6 + 2))) else (none))))) else (some (126, x5))
end
def frisketlaw19_Stroke.f (k : Nat) (l0 : List Int) : Option (Int × List Int) := (frisketlaw19_nth.f l0 0 10).bind fun t174 => (if t174 = 10 then (frisketlaw19_Stroke.j0 k l0 1000000) else (frisketlaw19_Stroke.j0 k l0 300))
theorem frisketlaw19_Stroke.mono_l : ∀ k, (∀ y0 y1, LeO (frisketlaw19_Stroke.j0 k y0 y1) (frisketlaw19_Stroke.j0 (k + 1) y0 y1)) ∧ (∀ y0 y1 y2 y3, LeO (frisketlaw19_Stroke.l0 k y0 y1 y2 y3) (frisketlaw19_Stroke.l0 (k + 1) y0 y1 y2 y3)) ∧ (∀ y0 y1 y2 y3 y4, LeO (frisketlaw19_Stroke.j2 k y0 y1 y2 y3 y4) (frisketlaw19_Stroke.j2 (k + 1) y0 y1 y2 y3 y4))
 | 0 => ⟨fun _ _ r h => by simp [frisketlaw19_Stroke.j0] at h, fun _ _ _ _ r h => by simp [frisketlaw19_Stroke.l0] at h, fun _ _ _ _ _ r h => by simp [frisketlaw19_Stroke.j2] at h⟩
 | k + 1 => by
  obtain ⟨ih0, ih1, ih2⟩ := frisketlaw19_Stroke.mono_l k
  refine ⟨?_, ?_, ?_⟩
  ·intro y0 y1
   unfold frisketlaw19_Stroke.j0
   repeat' first
   | (with_reducible exact ih0 _ _)
   | (with_reducible exact ih1 _ _ _ _)
   | (with_reducible exact ih2 _ _ _ _ _)
   | (with_reducible exact LeO.refl _)
   | (with_reducible exact LeO.none _)
   | (with_reducible refine LeO.ite ?_ ?_)
   | (with_reducible refine LeO.bind ?_ (fun _ => ?_))
   | exact ih0 _ _
   | exact ih1 _ _ _ _
   | exact ih2 _ _ _ _ _
   | exact LeO.none _
   | refine LeO.ite ?_ ?_
   | refine LeO.bind ?_ (fun _ => ?_)
  ·intro y0 y1 y2 y3
   unfold frisketlaw19_Stroke.l0
   repeat' first
   | (with_reducible exact ih0 _ _)
   | (with_reducible exact ih1 _ _ _ _)
   | (with_reducible exact ih2 _ _ _ _ _)
   | (with_reducible exact LeO.refl _)
   | (with_reducible exact LeO.none _)
   | (with_reducible refine LeO.ite ?_ ?_)
   | (with_reducible refine LeO.bind ?_ (fun _ => ?_))
   | exact ih0 _ _
   | exact ih1 _ _ _ _
   | exact ih2 _ _ _ _ _
   | exact LeO.none _
   | refine LeO.ite ?_ ?_
   | refine LeO.bind ?_ (fun _ => ?_)
  ·intro y0 y1 y2 y3 y4
   unfold frisketlaw19_Stroke.j2
   repeat' first
   | (with_reducible exact ih0 _ _)
   | (with_reducible exact ih1 _ _ _ _)
   | (with_reducible exact ih2 _ _ _ _ _)
   | (with_reducible exact LeO.refl _)
   | (with_reducible exact LeO.none _)
   | (with_reducible refine LeO.ite ?_ ?_)
   | (with_reducible refine LeO.bind ?_ (fun _ => ?_))
   | exact ih0 _ _
   | exact ih1 _ _ _ _
   | exact ih2 _ _ _ _ _
   | exact LeO.none _
   | refine LeO.ite ?_ ?_
   | refine LeO.bind ?_ (fun _ => ?_)
theorem frisketlaw19_Stroke.mono : ∀ a0 k, LeO (frisketlaw19_Stroke.f k a0) (frisketlaw19_Stroke.f (k + 1) a0) := by
 intro a0 k
 obtain ⟨ih0, ih1, ih2⟩ := frisketlaw19_Stroke.mono_l k
 unfold frisketlaw19_Stroke.f
 repeat' first
   | (with_reducible exact ih0 _ _)
   | (with_reducible exact ih1 _ _ _ _)
   | (with_reducible exact ih2 _ _ _ _ _)
   | (with_reducible exact LeO.refl _)
   | (with_reducible exact LeO.none _)
   | (with_reducible refine LeO.ite ?_ ?_)
   | (with_reducible refine LeO.bind ?_ (fun _ => ?_))
   | exact ih0 _ _
   | exact ih1 _ _ _ _
   | exact ih2 _ _ _ _ _
   | exact LeO.none _
   | refine LeO.ite ?_ ?_
   | refine LeO.bind ?_ (fun _ => ?_)
set_option maxHeartbeats 8000000 in
set_option maxRecDepth 100000 in
theorem frisketlaw19_Stroke.calls (k : Nat) (A0 : Option Addr) (c0 : Nat) (l0 : List Int) (r1 : Int) (r2 : List Int) (w : World) (hr0 : Kd.C (Kd.int .i64) w A0 l0.length l0) (hc0 : l0.length ≤ c0) (h : frisketlaw19_Stroke.f k l0 = some (r1, r2)) :
  Calls Try.prog 8 #[.slice A0 l0.length c0] w fun e w' => ∃ v1_ : Value, e = .returned (.tuple #[.int .u8 r1, v1_]) ∧ Kd.R (Kd.int .i64) 3 w' w.heap.size (fun _ => True) v1_ r2 ∧ Below w.heap.size w w' := by
 have HR0 := Aside0.mk hr0
 have HC0 := Aside0.mk hc0
 clear hr0 hc0
 have HB := Aside0.mk (Below.refl w.heap.size w)
 have H : ((frisketlaw19_nth.f l0 0 10).bind fun t174 => (if t174 = 10 then (frisketlaw19_Stroke.j0 k l0 1000000) else (frisketlaw19_Stroke.j0 k l0 300))) = some (r1, r2) := h
 clear h
 replace H := Option.bind_eq_some_iff.mp H
 obtain ⟨t174, A20, H⟩ := H
 replace H : (if t174 = 10 then (frisketlaw19_Stroke.j0 k l0 1000000) else (frisketlaw19_Stroke.j0 k l0 300)) = some (r1, r2) := H
 have A2 := Aside0.mk A20
 clear A20
 have HC3 := Aside0.mk H
 clear H
 go_enter Try.func8, Try.ntmps8
 go_upto_if 9 with (first | ((with_reducible refine gate_callee (f := 19) rfl ?_); refine goesL_ (some 8) rfl rfl Try.func19 (by kernel_rfl) rfl #[.slice A0 l0.length c0, .int .i64 0, .int .i64 10] rfl (by (try simp only [List.map_toArray, List.map_cons, List.map_nil]); first | done | rfl | (simp only [List.length_drop, List.length_take]; rfl)) ?_; (with_reducible refine (frisketlaw19_nth.calls _ _ l0 0 10 t174 _ ?side1 ?side2 A2.out).mono ?_); (case side1 => repeat (first | exact HR0.out | (with_reducible refine Kd.C_alloc ?_ _) | (with_reducible refine Kd.C_drewN ?_ _) | (with_reducible refine Kd.C_drew ?_))); (case side2 => exact HC0.out); rintro e w' ⟨rfl, ⟨nd, rfl⟩⟩; refine ⟨_, rfl, ?_⟩))
 (try simp only [Act.put, List.setIfInBounds_toArray, List.set_cons_zero, List.set_cons_succ])
 go_cut [4] (fun v4 wc => ∃ (kq : Nat) (x4_2 : Int), v4 = .int .i64 x4_2 ∧ Aside0 (frisketlaw19_Stroke.j0 kq l0 x4_2 = some (r1, r2)) ∧ Aside0 (kq ≤ k) ∧ Aside0 (Below w.heap.size w wc))
 case first =>
  have H := HC3.out
  clear HC3
  by_cases c4 : t174 = 10
  ·rw [if_pos c4] at H
   have c4b0 : (t174 == 10) = true := beq_iff_eq.mpr c4
   have c4b1 : (t174 != 10) = false := bne_eq_false_iff_eq.mpr c4
   clear c4
   (first | rw [c4b0] | (simp only [i64_w, i32_w]; rw [c4b0]) | skip)
   have H' := Aside0.mk H
   clear H
   go_wp2
   go_meet
   case rel => exact ⟨_, (1000000), (by first | rfl | (simp; done) | (simp [*]; done)), H', ⟨by first | omega | exact Nat.le_refl _⟩, ⟨by repeat (first | (with_reducible first | exact HB.out | apply below_alloc | apply pw_below_drewN | apply below_drew1) | exact HB.out)⟩⟩
  ·rw [if_neg c4] at H
   have c4b0 : (t174 == 10) = false := beq_eq_false_iff_ne.mpr c4
   have c4b1 : (t174 != 10) = true := bne_iff_ne.mpr c4
   (first | rw [c4b0] | (simp only [i64_w, i32_w]; rw [c4b0]) | skip)
   have H' := Aside0.mk H
   clear H
   go_wp2
   go_meet
   case rel => exact ⟨_, (300), (by first | rfl | (simp; done) | (simp [*]; done)), H', ⟨by first | omega | exact Nat.le_refl _⟩, ⟨by repeat (first | (with_reducible first | exact HB.out | apply below_alloc | apply pw_below_drewN | apply below_drew1) | exact HB.out)⟩⟩
 case rest =>
  clear HC3
  try clear c1
  try clear p2
  try clear c4
  try clear c4b0
  try clear c4b1
  obtain ⟨kq, x4_2, rfl, HA, HJ2, HB⟩ := hcut
  cases kq with
  | zero => exact absurd HA.out (by simp [frisketlaw19_Stroke.j0])
  | succ kj2 =>
   have H := HA.out
   clear HA
   simp only [frisketlaw19_Stroke.j0] at H
   replace H := Option.bind_eq_some_iff.mp H
   obtain ⟨t175, A50, H⟩ := H
   replace H : (if (Int.tmod (IntKind.u64.wrap (wrap64 (t175 + 10))) 5) = 0 then ((frisketlaw19_nth.f l0 1 x4_2).bind fun t176 => ((frisketlaw19_nth.f l0 2 x4_2).bind fun t177 => (some (108, (([t176, t177] : List Int)))))) else (if (Int.tmod (IntKind.u64.wrap (wrap64 (t175 + 10))) 5) = 1 then ((frisketlaw19_nth.f l0 1 x4_2).bind fun t181 => ((frisketlaw19_nth.f l0 1 x4_2).bind fun t182 => (some (99, (([mx t181 (wrap64 (-t182))] : List Int)))))) else (if (Int.tmod (IntKind.u64.wrap (wrap64 (t175 + 10))) 5) = 2 then ((frisketlaw19_nth.f l0 1 x4_2).bind fun t186 => ((frisketlaw19_nth.f l0 1 x4_2).bind fun t187 => ((frisketlaw19_nth.f l0 2 x4_2).bind fun t188 => ((frisketlaw19_nth.f l0 2 x4_2).bind fun t189 => (some (101, (([mx t186 (wrap64 (-t187)), mx t188 (wrap64 (-t189))] : List Int)))))))) else (if (Int.tmod (IntKind.u64.wrap (wrap64 (t175 + 10))) 5) = 3 then ((frisketlaw19_nth.f l0 1 x4_2).bind fun t193 => ((frisketlaw19_nth.f l0 2 x4_2).bind fun t194 => ((frisketlaw19_nth.f l0 3 x4_2).bind fun t195 => ((frisketlaw19_nth.f l0 4 x4_2).bind fun t196 => (some (97, (([t193, t194, t195, t196] : List Int)))))))) else ((frisketlaw19_nth.f l0 1 x4_2).bind fun t200 => ((frisketlaw19_nth.f l0 2 x4_2).bind fun t201 => (frisketlaw19_Stroke.l0 kj2 l0 x4_2 (([t200, t201] : List Int)) 3))))))) = some (r1, r2) := H
   have A5 := Aside0.mk A50
   clear A50
   by_cases c6 : (Int.tmod (IntKind.u64.wrap (wrap64 (t175 + 10))) 5) = 0
   ·rw [if_pos c6] at H
    have c6b0 : ((Int.tmod (IntKind.u64.wrap (wrap64 (t175 + 10))) 5) == 0) = true := beq_iff_eq.mpr c6
    have c6b1 : ((Int.tmod (IntKind.u64.wrap (wrap64 (t175 + 10))) 5) != 0) = false := bne_eq_false_iff_eq.mpr c6
    clear c6
    replace H := Option.bind_eq_some_iff.mp H
    obtain ⟨t176, A70, H⟩ := H
    replace H : ((frisketlaw19_nth.f l0 2 x4_2).bind fun t177 => (some (108, (([t176, t177] : List Int))))) = some (r1, r2) := H
    have A7 := Aside0.mk A70
    clear A70
    replace H := Option.bind_eq_some_iff.mp H
    obtain ⟨t177, A80, H⟩ := H
    replace H : (some (108, (([t176, t177] : List Int)))) = some (r1, r2) := H
    have A8 := Aside0.mk A80
    clear A80
    obtain ⟨y178, hy178⟩ : ∃ y_ : List Int, y_ = (([t176, t177] : List Int)) := ⟨_, rfl⟩
    replace H : (some (108, y178)) = some (r1, r2) := by first | (rw [hy178]; with_reducible exact H) | (have H2_ := (Option.bind_some _ _).symm.trans H; rw [hy178]; with_reducible exact H2_) | (have H2_ := (Option.bind_some _ _).symm.trans H; with_reducible exact H2_) | with_reducible exact H | (rw [hy178]; exact H) | exact H
    have Ny178 := Aside0.mk hy178
    clear hy178
    simp only [Option.some.injEq, Prod.mk.injEq] at H
    obtain ⟨rfl, rfl⟩ := H
    go_wp2_with (first | ((with_reducible refine gate_callee (f := 19) rfl ?_); refine goesL_ (some 11) rfl rfl Try.func19 (by kernel_rfl) rfl #[.slice A0 l0.length c0, .int .i64 0, .int .i64 10] rfl (by (try simp only [List.map_toArray, List.map_cons, List.map_nil]); first | done | rfl | (simp only [List.length_drop, List.length_take]; rfl)) ?_; (with_reducible refine (frisketlaw19_nth.calls _ _ l0 0 10 t175 _ ?side1 ?side2 A5.out).mono ?_); (case side1 => repeat (first | exact (Kd.C_below HR0.out HB.out) | (with_reducible refine Kd.C_alloc ?_ _) | (with_reducible refine Kd.C_drewN ?_ _) | (with_reducible refine Kd.C_drew ?_))); (case side2 => exact HC0.out); rintro e w' ⟨rfl, ⟨nd, rfl⟩⟩; refine ⟨_, rfl, ?_⟩) | ((with_reducible refine gate_callee (f := 19) rfl ?_); refine goesL_ (some 19) rfl rfl Try.func19 (by kernel_rfl) rfl #[.slice A0 l0.length c0, .int .i64 1, .int .i64 x4_2] rfl (by (try simp only [List.map_toArray, List.map_cons, List.map_nil]); first | done | rfl | (simp only [List.length_drop, List.length_take]; rfl)) ?_; (with_reducible refine (frisketlaw19_nth.calls _ _ l0 1 x4_2 t176 _ ?side1 ?side2 A7.out).mono ?_); (case side1 => repeat (first | exact (Kd.C_below HR0.out (by repeat (first | (with_reducible first | exact HB.out | apply below_alloc | apply pw_below_drewN | apply below_drew1) | exact HB.out))) | (with_reducible refine Kd.C_alloc ?_ _) | (with_reducible refine Kd.C_drewN ?_ _) | (with_reducible refine Kd.C_drew ?_))); (case side2 => exact HC0.out); rintro e w' ⟨rfl, ⟨nd, rfl⟩⟩; refine ⟨_, rfl, ?_⟩) | ((with_reducible refine gate_callee (f := 19) rfl ?_); refine goesL_ (some 22) rfl rfl Try.func19 (by kernel_rfl) rfl #[.slice A0 l0.length c0, .int .i64 2, .int .i64 x4_2] rfl (by (try simp only [List.map_toArray, List.map_cons, List.map_nil]); first | done | rfl | (simp only [List.length_drop, List.length_take]; rfl)) ?_; (with_reducible refine (frisketlaw19_nth.calls _ _ l0 2 x4_2 t177 _ ?side1 ?side2 A8.out).mono ?_); (case side1 => repeat (first | exact (Kd.C_below HR0.out (by repeat (first | (with_reducible first | exact HB.out | apply below_alloc | apply pw_below_drewN | apply below_drew1) | exact HB.out))) | (with_reducible refine Kd.C_alloc ?_ _) | (with_reducible refine Kd.C_drewN ?_ _) | (with_reducible refine Kd.C_drew ?_))); (case side2 => exact HC0.out); rintro e w' ⟨rfl, ⟨nd, rfl⟩⟩; refine ⟨_, rfl, ?_⟩) | ((with_reducible refine gate_dst (N := 23) rfl ?_); refine Kd.R_lit (Kd.int .i64) _ 3 ?hg (N := 23) ?hd (xs := ([t176, t177] : List Int)) (inner := [.int .i64 t176, .int .i64 t177]) (ok := fun _ => True) (okp := fun _ => True) ?hr ?hp (fun _ hk => hk) trivial (Below.refl _ _) (Nat.le_refl _) (by simp) ?_; (case hd => rfl); (case hg => rfl); (case hr => first | (go_simp; done) | (go_simp; rfl)); (case hp => exact (Reps.one (show Kd.M (Kd.int .i64) _ _ _ t176 [.int .i64 t176] from rfl) (Reps.one (show Kd.M (Kd.int .i64) _ _ _ t177 [.int .i64 t177] from rfl) (Reps.none _ _)))); intro v179 w9 ho10 hb hg_ hnew_; clear hg_ hnew_; (first | rw [← Ny178.out] at ho10 | (simp only [Int.reduceToNat] at ho10; rw [← Ny178.out] at ho10)); have n0_ := Aside0.mk (Kd.R_lower ho10 (below_size (by repeat (first | (with_reducible first | exact HB.out | apply below_alloc | apply pw_below_drewN | apply below_drew1) | exact HB.out)))); have n1_ := Aside0.mk (below_step (by repeat (first | (with_reducible first | exact HB.out | apply below_alloc | apply pw_below_drewN | apply below_drew1) | exact HB.out)) hb); clear HB; have HO180 := n0_; have HB := n1_; clear n0_ n1_; clear hb ho10))
    go_ret2
    exact ⟨_, by first | rfl | (simp [errW_none, errW_some] <;> rfl) | (simp [*, errW_none, errW_some] <;> rfl), by (with_reducible repeat (first | apply Kd.R_alloc | apply Kd.R_drewN | apply Kd.R_drew)); exact HO180.out, by repeat (first | (with_reducible first | exact HB.out | apply below_alloc | apply pw_below_drewN | apply below_drew1) | exact HB.out)⟩
   ·rw [if_neg c6] at H
    have c6b0 : ((Int.tmod (IntKind.u64.wrap (wrap64 (t175 + 10))) 5) == 0) = false := beq_eq_false_iff_ne.mpr c6
    have c6b1 : ((Int.tmod (IntKind.u64.wrap (wrap64 (t175 + 10))) 5) != 0) = true := bne_iff_ne.mpr c6
    by_cases c11 : (Int.tmod (IntKind.u64.wrap (wrap64 (t175 + 10))) 5) = 1
    ·rw [if_pos c11] at H
     have c11b0 : ((Int.tmod (IntKind.u64.wrap (wrap64 (t175 + 10))) 5) == 1) = true := beq_iff_eq.mpr c11
     have c11b1 : ((Int.tmod (IntKind.u64.wrap (wrap64 (t175 + 10))) 5) != 1) = false := bne_eq_false_iff_eq.mpr c11
     clear c11
     replace H := Option.bind_eq_some_iff.mp H
     obtain ⟨t181, A120, H⟩ := H
     replace H : ((frisketlaw19_nth.f l0 1 x4_2).bind fun t182 => (some (99, (([mx t181 (wrap64 (-t182))] : List Int))))) = some (r1, r2) := H
     have A12 := Aside0.mk A120
     clear A120
     replace H := Option.bind_eq_some_iff.mp H
     obtain ⟨t182, A130, H⟩ := H
     replace H : (some (99, (([mx t181 (wrap64 (-t182))] : List Int)))) = some (r1, r2) := H
     have A13 := Aside0.mk A130
     clear A130
     obtain ⟨ji14, hji14⟩ : ∃ j_ : Int, (mx t181 (wrap64 (-t182))) = j_ := ⟨_, rfl⟩
     replace H : (some (99, (([ji14] : List Int)))) = some (r1, r2) := by first | (rw [hji14] at H; exact H) | (simp only [hji14] at H ⊢; exact H)
     (try rw [hji14] at A5)
     (try rw [hji14] at A12)
     (try rw [hji14] at A13)
     have hji14_ : (if t181 < (wrap64 (-t182)) then (wrap64 (-t182)) else t181) = ji14 := hji14
     obtain ⟨y183, hy183⟩ : ∃ y_ : List Int, y_ = (([ji14] : List Int)) := ⟨_, rfl⟩
     replace H : (some (99, y183)) = some (r1, r2) := by first | (rw [hy183]; with_reducible exact H) | (have H2_ := (Option.bind_some _ _).symm.trans H; rw [hy183]; with_reducible exact H2_) | (have H2_ := (Option.bind_some _ _).symm.trans H; with_reducible exact H2_) | with_reducible exact H | (rw [hy183]; exact H) | exact H
     have Ny183 := Aside0.mk hy183
     clear hy183
     simp only [Option.some.injEq, Prod.mk.injEq] at H
     obtain ⟨rfl, rfl⟩ := H
     go_wp2_with (first | ((with_reducible refine gate_callee (f := 19) rfl ?_); refine goesL_ (some 11) rfl rfl Try.func19 (by kernel_rfl) rfl #[.slice A0 l0.length c0, .int .i64 0, .int .i64 10] rfl (by (try simp only [List.map_toArray, List.map_cons, List.map_nil]); first | done | rfl | (simp only [List.length_drop, List.length_take]; rfl)) ?_; (with_reducible refine (frisketlaw19_nth.calls _ _ l0 0 10 t175 _ ?side1 ?side2 A5.out).mono ?_); (case side1 => repeat (first | exact (Kd.C_below HR0.out HB.out) | (with_reducible refine Kd.C_alloc ?_ _) | (with_reducible refine Kd.C_drewN ?_ _) | (with_reducible refine Kd.C_drew ?_))); (case side2 => exact HC0.out); rintro e w' ⟨rfl, ⟨nd, rfl⟩⟩; refine ⟨_, rfl, ?_⟩) | ((with_reducible refine gate_callee (f := 19) rfl ?_); refine goesL_ (some 28) rfl rfl Try.func19 (by kernel_rfl) rfl #[.slice A0 l0.length c0, .int .i64 1, .int .i64 x4_2] rfl (by (try simp only [List.map_toArray, List.map_cons, List.map_nil]); first | done | rfl | (simp only [List.length_drop, List.length_take]; rfl)) ?_; (with_reducible refine (frisketlaw19_nth.calls _ _ l0 1 x4_2 t181 _ ?side1 ?side2 A12.out).mono ?_); (case side1 => repeat (first | exact (Kd.C_below HR0.out (by repeat (first | (with_reducible first | exact HB.out | apply below_alloc | apply pw_below_drewN | apply below_drew1) | exact HB.out))) | (with_reducible refine Kd.C_alloc ?_ _) | (with_reducible refine Kd.C_drewN ?_ _) | (with_reducible refine Kd.C_drew ?_))); (case side2 => exact HC0.out); rintro e w' ⟨rfl, ⟨nd, rfl⟩⟩; refine ⟨_, rfl, ?_⟩) | ((with_reducible refine gate_callee (f := 19) rfl ?_); refine goesL_ (some 31) rfl rfl Try.func19 (by kernel_rfl) rfl #[.slice A0 l0.length c0, .int .i64 1, .int .i64 x4_2] rfl (by (try simp only [List.map_toArray, List.map_cons, List.map_nil]); first | done | rfl | (simp only [List.length_drop, List.length_take]; rfl)) ?_; (with_reducible refine (frisketlaw19_nth.calls _ _ l0 1 x4_2 t182 _ ?side1 ?side2 A13.out).mono ?_); (case side1 => repeat (first | exact (Kd.C_below HR0.out (by repeat (first | (with_reducible first | exact HB.out | apply below_alloc | apply pw_below_drewN | apply below_drew1) | exact HB.out))) | (with_reducible refine Kd.C_alloc ?_ _) | (with_reducible refine Kd.C_drewN ?_ _) | (with_reducible refine Kd.C_drew ?_))); (case side2 => exact HC0.out); rintro e w' ⟨rfl, ⟨nd, rfl⟩⟩; refine ⟨_, rfl, ?_⟩) | ((with_reducible refine gate_dst (N := 34) rfl ?_); refine Kd.R_lit (Kd.int .i64) _ 3 ?hg (N := 34) ?hd (xs := ([ji14] : List Int)) (inner := [.int .i64 ji14]) (ok := fun _ => True) (okp := fun _ => True) ?hr ?hp (fun _ hk => hk) trivial (Below.refl _ _) (Nat.le_refl _) (by simp) ?_; (case hd => rfl); (case hg => rfl); (case hr => first | (go_simp; done) | (go_simp; rfl)); (case hp => exact (Reps.one (show Kd.M (Kd.int .i64) _ _ _ ji14 [.int .i64 ji14] from rfl) (Reps.none _ _))); intro v184 w15 ho16 hb hg_ hnew_; clear hg_ hnew_; (first | rw [← Ny183.out] at ho16 | (simp only [Int.reduceToNat] at ho16; rw [← Ny183.out] at ho16)); have n0_ := Aside0.mk (Kd.R_lower ho16 (below_size (by repeat (first | (with_reducible first | exact HB.out | apply below_alloc | apply pw_below_drewN | apply below_drew1) | exact HB.out)))); have n1_ := Aside0.mk (below_step (by repeat (first | (with_reducible first | exact HB.out | apply below_alloc | apply pw_below_drewN | apply below_drew1) | exact HB.out)) hb); clear HB; have HO185 := n0_; have HB := n1_; clear n0_ n1_; clear hb ho16))
     go_ret2
     exact ⟨_, by first | rfl | (simp [errW_none, errW_some] <;> rfl) | (simp only [← hji14]; first | rfl | (simp [errW_none, errW_some] <;> rfl)) | (simp [*, errW_none, errW_some] <;> rfl), by (with_reducible repeat (first | apply Kd.R_alloc | apply Kd.R_drewN | apply Kd.R_drew)); exact HO185.out, by repeat (first | (with_reducible first | exact HB.out | apply below_alloc | apply pw_below_drewN | apply below_drew1) | exact HB.out)⟩
    ·rw [if_neg c11] at H
     have c11b0 : ((Int.tmod (IntKind.u64.wrap (wrap64 (t175 + 10))) 5) == 1) = false := beq_eq_false_iff_ne.mpr c11
     have c11b1 : ((Int.tmod (IntKind.u64.wrap (wrap64 (t175 + 10))) 5) != 1) = true := bne_iff_ne.mpr c11
     by_cases c17 : (Int.tmod (IntKind.u64.wrap (wrap64 (t175 + 10))) 5) = 2
     ·rw [if_pos c17] at H
      have c17b0 : ((Int.tmod (IntKind.u64.wrap (wrap64 (t175 + 10))) 5) == 2) = true := beq_iff_eq.mpr c17
      have c17b1 : ((Int.tmod (IntKind.u64.wrap (wrap64 (t175 + 10))) 5) != 2) = false := bne_eq_false_iff_eq.mpr c17
      clear c17
      replace H := Option.bind_eq_some_iff.mp H
      obtain ⟨t186, A180, H⟩ := H
      replace H : ((frisketlaw19_nth.f l0 1 x4_2).bind fun t187 => ((frisketlaw19_nth.f l0 2 x4_2).bind fun t188 => ((frisketlaw19_nth.f l0 2 x4_2).bind fun t189 => (some (101, (([mx t186 (wrap64 (-t187)), mx t188 (wrap64 (-t189))] : List Int))))))) = some (r1, r2) := H
      have A18 := Aside0.mk A180
      clear A180
      replace H := Option.bind_eq_some_iff.mp H
      obtain ⟨t187, A190, H⟩ := H
      replace H : ((frisketlaw19_nth.f l0 2 x4_2).bind fun t188 => ((frisketlaw19_nth.f l0 2 x4_2).bind fun t189 => (some (101, (([mx t186 (wrap64 (-t187)), mx t188 (wrap64 (-t189))] : List Int)))))) = some (r1, r2) := H
      have A19 := Aside0.mk A190
      clear A190
      obtain ⟨ji20, hji20⟩ : ∃ j_ : Int, (mx t186 (wrap64 (-t187))) = j_ := ⟨_, rfl⟩
      replace H : ((frisketlaw19_nth.f l0 2 x4_2).bind fun t188 => ((frisketlaw19_nth.f l0 2 x4_2).bind fun t189 => (some (101, (([ji20, mx t188 (wrap64 (-t189))] : List Int)))))) = some (r1, r2) := by first | (rw [hji20] at H; exact H) | (simp only [hji20] at H ⊢; exact H)
      (try rw [hji20] at A5)
      (try rw [hji20] at A18)
      (try rw [hji20] at A19)
      have hji20_ : (if t186 < (wrap64 (-t187)) then (wrap64 (-t187)) else t186) = ji20 := hji20
      replace H := Option.bind_eq_some_iff.mp H
      obtain ⟨t188, A210, H⟩ := H
      replace H : ((frisketlaw19_nth.f l0 2 x4_2).bind fun t189 => (some (101, (([ji20, mx t188 (wrap64 (-t189))] : List Int))))) = some (r1, r2) := H
      have A21 := Aside0.mk A210
      clear A210
      replace H := Option.bind_eq_some_iff.mp H
      obtain ⟨t189, A220, H⟩ := H
      replace H : (some (101, (([ji20, mx t188 (wrap64 (-t189))] : List Int)))) = some (r1, r2) := H
      have A22 := Aside0.mk A220
      clear A220
      obtain ⟨ji23, hji23⟩ : ∃ j_ : Int, (mx t188 (wrap64 (-t189))) = j_ := ⟨_, rfl⟩
      replace H : (some (101, (([ji20, ji23] : List Int)))) = some (r1, r2) := by first | (rw [hji23] at H; exact H) | (simp only [hji23] at H ⊢; exact H)
      (try rw [hji23] at A5)
      (try rw [hji23] at A18)
      (try rw [hji23] at A19)
      (try rw [hji23] at A21)
      (try rw [hji23] at A22)
      have hji23_ : (if t188 < (wrap64 (-t189)) then (wrap64 (-t189)) else t188) = ji23 := hji23
      obtain ⟨y190, hy190⟩ : ∃ y_ : List Int, y_ = (([ji20, ji23] : List Int)) := ⟨_, rfl⟩
      replace H : (some (101, y190)) = some (r1, r2) := by first | (rw [hy190]; with_reducible exact H) | (have H2_ := (Option.bind_some _ _).symm.trans H; rw [hy190]; with_reducible exact H2_) | (have H2_ := (Option.bind_some _ _).symm.trans H; with_reducible exact H2_) | with_reducible exact H | (rw [hy190]; exact H) | exact H
      have Ny190 := Aside0.mk hy190
      clear hy190
      simp only [Option.some.injEq, Prod.mk.injEq] at H
      obtain ⟨rfl, rfl⟩ := H
      go_wp2_with (first | ((with_reducible refine gate_callee (f := 19) rfl ?_); refine goesL_ (some 11) rfl rfl Try.func19 (by kernel_rfl) rfl #[.slice A0 l0.length c0, .int .i64 0, .int .i64 10] rfl (by (try simp only [List.map_toArray, List.map_cons, List.map_nil]); first | done | rfl | (simp only [List.length_drop, List.length_take]; rfl)) ?_; (with_reducible refine (frisketlaw19_nth.calls _ _ l0 0 10 t175 _ ?side1 ?side2 A5.out).mono ?_); (case side1 => repeat (first | exact (Kd.C_below HR0.out HB.out) | (with_reducible refine Kd.C_alloc ?_ _) | (with_reducible refine Kd.C_drewN ?_ _) | (with_reducible refine Kd.C_drew ?_))); (case side2 => exact HC0.out); rintro e w' ⟨rfl, ⟨nd, rfl⟩⟩; refine ⟨_, rfl, ?_⟩) | ((with_reducible refine gate_callee (f := 19) rfl ?_); refine goesL_ (some 39) rfl rfl Try.func19 (by kernel_rfl) rfl #[.slice A0 l0.length c0, .int .i64 1, .int .i64 x4_2] rfl (by (try simp only [List.map_toArray, List.map_cons, List.map_nil]); first | done | rfl | (simp only [List.length_drop, List.length_take]; rfl)) ?_; (with_reducible refine (frisketlaw19_nth.calls _ _ l0 1 x4_2 t186 _ ?side1 ?side2 A18.out).mono ?_); (case side1 => repeat (first | exact (Kd.C_below HR0.out (by repeat (first | (with_reducible first | exact HB.out | apply below_alloc | apply pw_below_drewN | apply below_drew1) | exact HB.out))) | (with_reducible refine Kd.C_alloc ?_ _) | (with_reducible refine Kd.C_drewN ?_ _) | (with_reducible refine Kd.C_drew ?_))); (case side2 => exact HC0.out); rintro e w' ⟨rfl, ⟨nd, rfl⟩⟩; refine ⟨_, rfl, ?_⟩) | ((with_reducible refine gate_callee (f := 19) rfl ?_); refine goesL_ (some 42) rfl rfl Try.func19 (by kernel_rfl) rfl #[.slice A0 l0.length c0, .int .i64 1, .int .i64 x4_2] rfl (by (try simp only [List.map_toArray, List.map_cons, List.map_nil]); first | done | rfl | (simp only [List.length_drop, List.length_take]; rfl)) ?_; (with_reducible refine (frisketlaw19_nth.calls _ _ l0 1 x4_2 t187 _ ?side1 ?side2 A19.out).mono ?_); (case side1 => repeat (first | exact (Kd.C_below HR0.out (by repeat (first | (with_reducible first | exact HB.out | apply below_alloc | apply pw_below_drewN | apply below_drew1) | exact HB.out))) | (with_reducible refine Kd.C_alloc ?_ _) | (with_reducible refine Kd.C_drewN ?_ _) | (with_reducible refine Kd.C_drew ?_))); (case side2 => exact HC0.out); rintro e w' ⟨rfl, ⟨nd, rfl⟩⟩; refine ⟨_, rfl, ?_⟩) | ((with_reducible refine gate_callee (f := 19) rfl ?_); refine goesL_ (some 47) rfl rfl Try.func19 (by kernel_rfl) rfl #[.slice A0 l0.length c0, .int .i64 2, .int .i64 x4_2] rfl (by (try simp only [List.map_toArray, List.map_cons, List.map_nil]); first | done | rfl | (simp only [List.length_drop, List.length_take]; rfl)) ?_; (with_reducible refine (frisketlaw19_nth.calls _ _ l0 2 x4_2 t188 _ ?side1 ?side2 A21.out).mono ?_); (case side1 => repeat (first | exact (Kd.C_below HR0.out (by repeat (first | (with_reducible first | exact HB.out | apply below_alloc | apply pw_below_drewN | apply below_drew1) | exact HB.out))) | (with_reducible refine Kd.C_alloc ?_ _) | (with_reducible refine Kd.C_drewN ?_ _) | (with_reducible refine Kd.C_drew ?_))); (case side2 => exact HC0.out); rintro e w' ⟨rfl, ⟨nd, rfl⟩⟩; refine ⟨_, rfl, ?_⟩) | ((with_reducible refine gate_callee (f := 19) rfl ?_); refine goesL_ (some 50) rfl rfl Try.func19 (by kernel_rfl) rfl #[.slice A0 l0.length c0, .int .i64 2, .int .i64 x4_2] rfl (by (try simp only [List.map_toArray, List.map_cons, List.map_nil]); first | done | rfl | (simp only [List.length_drop, List.length_take]; rfl)) ?_; (with_reducible refine (frisketlaw19_nth.calls _ _ l0 2 x4_2 t189 _ ?side1 ?side2 A22.out).mono ?_); (case side1 => repeat (first | exact (Kd.C_below HR0.out (by repeat (first | (with_reducible first | exact HB.out | apply below_alloc | apply pw_below_drewN | apply below_drew1) | exact HB.out))) | (with_reducible refine Kd.C_alloc ?_ _) | (with_reducible refine Kd.C_drewN ?_ _) | (with_reducible refine Kd.C_drew ?_))); (case side2 => exact HC0.out); rintro e w' ⟨rfl, ⟨nd, rfl⟩⟩; refine ⟨_, rfl, ?_⟩) | ((with_reducible refine gate_dst (N := 53) rfl ?_); refine Kd.R_lit (Kd.int .i64) _ 3 ?hg (N := 53) ?hd (xs := ([ji20, ji23] : List Int)) (inner := [.int .i64 ji20, .int .i64 ji23]) (ok := fun _ => True) (okp := fun _ => True) ?hr ?hp (fun _ hk => hk) trivial (Below.refl _ _) (Nat.le_refl _) (by simp) ?_; (case hd => rfl); (case hg => rfl); (case hr => first | (go_simp; done) | (go_simp; rfl)); (case hp => exact (Reps.one (show Kd.M (Kd.int .i64) _ _ _ ji20 [.int .i64 ji20] from rfl) (Reps.one (show Kd.M (Kd.int .i64) _ _ _ ji23 [.int .i64 ji23] from rfl) (Reps.none _ _)))); intro v191 w24 ho25 hb hg_ hnew_; clear hg_ hnew_; (first | rw [← Ny190.out] at ho25 | (simp only [Int.reduceToNat] at ho25; rw [← Ny190.out] at ho25)); have n0_ := Aside0.mk (Kd.R_lower ho25 (below_size (by repeat (first | (with_reducible first | exact HB.out | apply below_alloc | apply pw_below_drewN | apply below_drew1) | exact HB.out)))); have n1_ := Aside0.mk (below_step (by repeat (first | (with_reducible first | exact HB.out | apply below_alloc | apply pw_below_drewN | apply below_drew1) | exact HB.out)) hb); clear HB; have HO192 := n0_; have HB := n1_; clear n0_ n1_; clear hb ho25))
      go_ret2
      exact ⟨_, by first | rfl | (simp [errW_none, errW_some] <;> rfl) | (simp only [← hji20, ← hji23]; first | rfl | (simp [errW_none, errW_some] <;> rfl)) | (simp [*, errW_none, errW_some] <;> rfl), by (with_reducible repeat (first | apply Kd.R_alloc | apply Kd.R_drewN | apply Kd.R_drew)); exact HO192.out, by repeat (first | (with_reducible first | exact HB.out | apply below_alloc | apply pw_below_drewN | apply below_drew1) | exact HB.out)⟩
     ·rw [if_neg c17] at H
      have c17b0 : ((Int.tmod (IntKind.u64.wrap (wrap64 (t175 + 10))) 5) == 2) = false := beq_eq_false_iff_ne.mpr c17
      have c17b1 : ((Int.tmod (IntKind.u64.wrap (wrap64 (t175 + 10))) 5) != 2) = true := bne_iff_ne.mpr c17
      by_cases c26 : (Int.tmod (IntKind.u64.wrap (wrap64 (t175 + 10))) 5) = 3
      ·rw [if_pos c26] at H
       have c26b0 : ((Int.tmod (IntKind.u64.wrap (wrap64 (t175 + 10))) 5) == 3) = true := beq_iff_eq.mpr c26
       have c26b1 : ((Int.tmod (IntKind.u64.wrap (wrap64 (t175 + 10))) 5) != 3) = false := bne_eq_false_iff_eq.mpr c26
       clear c26
       replace H := Option.bind_eq_some_iff.mp H
       obtain ⟨t193, A270, H⟩ := H
       replace H : ((frisketlaw19_nth.f l0 2 x4_2).bind fun t194 => ((frisketlaw19_nth.f l0 3 x4_2).bind fun t195 => ((frisketlaw19_nth.f l0 4 x4_2).bind fun t196 => (some (97, (([t193, t194, t195, t196] : List Int))))))) = some (r1, r2) := H
       have A27 := Aside0.mk A270
       clear A270
       replace H := Option.bind_eq_some_iff.mp H
       obtain ⟨t194, A280, H⟩ := H
       replace H : ((frisketlaw19_nth.f l0 3 x4_2).bind fun t195 => ((frisketlaw19_nth.f l0 4 x4_2).bind fun t196 => (some (97, (([t193, t194, t195, t196] : List Int)))))) = some (r1, r2) := H
       have A28 := Aside0.mk A280
       clear A280
       replace H := Option.bind_eq_some_iff.mp H
       obtain ⟨t195, A290, H⟩ := H
       replace H : ((frisketlaw19_nth.f l0 4 x4_2).bind fun t196 => (some (97, (([t193, t194, t195, t196] : List Int))))) = some (r1, r2) := H
       have A29 := Aside0.mk A290
       clear A290
       replace H := Option.bind_eq_some_iff.mp H
       obtain ⟨t196, A300, H⟩ := H
       replace H : (some (97, (([t193, t194, t195, t196] : List Int)))) = some (r1, r2) := H
       have A30 := Aside0.mk A300
       clear A300
       obtain ⟨y197, hy197⟩ : ∃ y_ : List Int, y_ = (([t193, t194, t195, t196] : List Int)) := ⟨_, rfl⟩
       replace H : (some (97, y197)) = some (r1, r2) := by first | (rw [hy197]; with_reducible exact H) | (have H2_ := (Option.bind_some _ _).symm.trans H; rw [hy197]; with_reducible exact H2_) | (have H2_ := (Option.bind_some _ _).symm.trans H; with_reducible exact H2_) | with_reducible exact H | (rw [hy197]; exact H) | exact H
       have Ny197 := Aside0.mk hy197
       clear hy197
       simp only [Option.some.injEq, Prod.mk.injEq] at H
       obtain ⟨rfl, rfl⟩ := H
       go_wp2_with (first | ((with_reducible refine gate_callee (f := 19) rfl ?_); refine goesL_ (some 11) rfl rfl Try.func19 (by kernel_rfl) rfl #[.slice A0 l0.length c0, .int .i64 0, .int .i64 10] rfl (by (try simp only [List.map_toArray, List.map_cons, List.map_nil]); first | done | rfl | (simp only [List.length_drop, List.length_take]; rfl)) ?_; (with_reducible refine (frisketlaw19_nth.calls _ _ l0 0 10 t175 _ ?side1 ?side2 A5.out).mono ?_); (case side1 => repeat (first | exact (Kd.C_below HR0.out HB.out) | (with_reducible refine Kd.C_alloc ?_ _) | (with_reducible refine Kd.C_drewN ?_ _) | (with_reducible refine Kd.C_drew ?_))); (case side2 => exact HC0.out); rintro e w' ⟨rfl, ⟨nd, rfl⟩⟩; refine ⟨_, rfl, ?_⟩) | ((with_reducible refine gate_callee (f := 19) rfl ?_); refine goesL_ (some 58) rfl rfl Try.func19 (by kernel_rfl) rfl #[.slice A0 l0.length c0, .int .i64 1, .int .i64 x4_2] rfl (by (try simp only [List.map_toArray, List.map_cons, List.map_nil]); first | done | rfl | (simp only [List.length_drop, List.length_take]; rfl)) ?_; (with_reducible refine (frisketlaw19_nth.calls _ _ l0 1 x4_2 t193 _ ?side1 ?side2 A27.out).mono ?_); (case side1 => repeat (first | exact (Kd.C_below HR0.out (by repeat (first | (with_reducible first | exact HB.out | apply below_alloc | apply pw_below_drewN | apply below_drew1) | exact HB.out))) | (with_reducible refine Kd.C_alloc ?_ _) | (with_reducible refine Kd.C_drewN ?_ _) | (with_reducible refine Kd.C_drew ?_))); (case side2 => exact HC0.out); rintro e w' ⟨rfl, ⟨nd, rfl⟩⟩; refine ⟨_, rfl, ?_⟩) | ((with_reducible refine gate_callee (f := 19) rfl ?_); refine goesL_ (some 61) rfl rfl Try.func19 (by kernel_rfl) rfl #[.slice A0 l0.length c0, .int .i64 2, .int .i64 x4_2] rfl (by (try simp only [List.map_toArray, List.map_cons, List.map_nil]); first | done | rfl | (simp only [List.length_drop, List.length_take]; rfl)) ?_; (with_reducible refine (frisketlaw19_nth.calls _ _ l0 2 x4_2 t194 _ ?side1 ?side2 A28.out).mono ?_); (case side1 => repeat (first | exact (Kd.C_below HR0.out (by repeat (first | (with_reducible first | exact HB.out | apply below_alloc | apply pw_below_drewN | apply below_drew1) | exact HB.out))) | (with_reducible refine Kd.C_alloc ?_ _) | (with_reducible refine Kd.C_drewN ?_ _) | (with_reducible refine Kd.C_drew ?_))); (case side2 => exact HC0.out); rintro e w' ⟨rfl, ⟨nd, rfl⟩⟩; refine ⟨_, rfl, ?_⟩) | ((with_reducible refine gate_callee (f := 19) rfl ?_); refine goesL_ (some 64) rfl rfl Try.func19 (by kernel_rfl) rfl #[.slice A0 l0.length c0, .int .i64 3, .int .i64 x4_2] rfl (by (try simp only [List.map_toArray, List.map_cons, List.map_nil]); first | done | rfl | (simp only [List.length_drop, List.length_take]; rfl)) ?_; (with_reducible refine (frisketlaw19_nth.calls _ _ l0 3 x4_2 t195 _ ?side1 ?side2 A29.out).mono ?_); (case side1 => repeat (first | exact (Kd.C_below HR0.out (by repeat (first | (with_reducible first | exact HB.out | apply below_alloc | apply pw_below_drewN | apply below_drew1) | exact HB.out))) | (with_reducible refine Kd.C_alloc ?_ _) | (with_reducible refine Kd.C_drewN ?_ _) | (with_reducible refine Kd.C_drew ?_))); (case side2 => exact HC0.out); rintro e w' ⟨rfl, ⟨nd, rfl⟩⟩; refine ⟨_, rfl, ?_⟩) | ((with_reducible refine gate_callee (f := 19) rfl ?_); refine goesL_ (some 67) rfl rfl Try.func19 (by kernel_rfl) rfl #[.slice A0 l0.length c0, .int .i64 4, .int .i64 x4_2] rfl (by (try simp only [List.map_toArray, List.map_cons, List.map_nil]); first | done | rfl | (simp only [List.length_drop, List.length_take]; rfl)) ?_; (with_reducible refine (frisketlaw19_nth.calls _ _ l0 4 x4_2 t196 _ ?side1 ?side2 A30.out).mono ?_); (case side1 => repeat (first | exact (Kd.C_below HR0.out (by repeat (first | (with_reducible first | exact HB.out | apply below_alloc | apply pw_below_drewN | apply below_drew1) | exact HB.out))) | (with_reducible refine Kd.C_alloc ?_ _) | (with_reducible refine Kd.C_drewN ?_ _) | (with_reducible refine Kd.C_drew ?_))); (case side2 => exact HC0.out); rintro e w' ⟨rfl, ⟨nd, rfl⟩⟩; refine ⟨_, rfl, ?_⟩) | ((with_reducible refine gate_dst (N := 68) rfl ?_); refine Kd.R_lit (Kd.int .i64) _ 3 ?hg (N := 68) ?hd (xs := ([t193, t194, t195, t196] : List Int)) (inner := [.int .i64 t193, .int .i64 t194, .int .i64 t195, .int .i64 t196]) (ok := fun _ => True) (okp := fun _ => True) ?hr ?hp (fun _ hk => hk) trivial (Below.refl _ _) (Nat.le_refl _) (by simp) ?_; (case hd => rfl); (case hg => rfl); (case hr => first | (go_simp; done) | (go_simp; rfl)); (case hp => exact (Reps.one (show Kd.M (Kd.int .i64) _ _ _ t193 [.int .i64 t193] from rfl) (Reps.one (show Kd.M (Kd.int .i64) _ _ _ t194 [.int .i64 t194] from rfl) (Reps.one (show Kd.M (Kd.int .i64) _ _ _ t195 [.int .i64 t195] from rfl) (Reps.one (show Kd.M (Kd.int .i64) _ _ _ t196 [.int .i64 t196] from rfl) (Reps.none _ _)))))); intro v198 w31 ho32 hb hg_ hnew_; clear hg_ hnew_; (first | rw [← Ny197.out] at ho32 | (simp only [Int.reduceToNat] at ho32; rw [← Ny197.out] at ho32)); have n0_ := Aside0.mk (Kd.R_lower ho32 (below_size (by repeat (first | (with_reducible first | exact HB.out | apply below_alloc | apply pw_below_drewN | apply below_drew1) | exact HB.out)))); have n1_ := Aside0.mk (below_step (by repeat (first | (with_reducible first | exact HB.out | apply below_alloc | apply pw_below_drewN | apply below_drew1) | exact HB.out)) hb); clear HB; have HO199 := n0_; have HB := n1_; clear n0_ n1_; clear hb ho32))
       go_ret2
       exact ⟨_, by first | rfl | (simp [errW_none, errW_some] <;> rfl) | (simp [*, errW_none, errW_some] <;> rfl), by (with_reducible repeat (first | apply Kd.R_alloc | apply Kd.R_drewN | apply Kd.R_drew)); exact HO199.out, by repeat (first | (with_reducible first | exact HB.out | apply below_alloc | apply pw_below_drewN | apply below_drew1) | exact HB.out)⟩
      ·rw [if_neg c26] at H
       have c26b0 : ((Int.tmod (IntKind.u64.wrap (wrap64 (t175 + 10))) 5) == 3) = false := beq_eq_false_iff_ne.mpr c26
       have c26b1 : ((Int.tmod (IntKind.u64.wrap (wrap64 (t175 + 10))) 5) != 3) = true := bne_iff_ne.mpr c26
       replace H := Option.bind_eq_some_iff.mp H
       obtain ⟨t200, A330, H⟩ := H
       replace H : ((frisketlaw19_nth.f l0 2 x4_2).bind fun t201 => (frisketlaw19_Stroke.l0 kj2 l0 x4_2 (([t200, t201] : List Int)) 3)) = some (r1, r2) := H
       have A33 := Aside0.mk A330
       clear A330
       replace H := Option.bind_eq_some_iff.mp H
       obtain ⟨t201, A340, H⟩ := H
       replace H : (frisketlaw19_Stroke.l0 kj2 l0 x4_2 (([t200, t201] : List Int)) 3) = some (r1, r2) := H
       have A34 := Aside0.mk A340
       clear A340
       obtain ⟨y202, hy202⟩ : ∃ y_ : List Int, y_ = (([t200, t201] : List Int)) := ⟨_, rfl⟩
       replace H : (frisketlaw19_Stroke.l0 kj2 l0 x4_2 y202 3) = some (r1, r2) := by first | (rw [hy202]; with_reducible exact H) | (have H2_ := (Option.bind_some _ _).symm.trans H; rw [hy202]; with_reducible exact H2_) | (have H2_ := (Option.bind_some _ _).symm.trans H; with_reducible exact H2_) | with_reducible exact H | (rw [hy202]; exact H) | exact H
       have Ny202 := Aside0.mk hy202
       clear hy202
       have H' := Aside0.mk H
       clear H
       go_wp2_with (first | ((with_reducible refine gate_callee (f := 19) rfl ?_); refine goesL_ (some 11) rfl rfl Try.func19 (by kernel_rfl) rfl #[.slice A0 l0.length c0, .int .i64 0, .int .i64 10] rfl (by (try simp only [List.map_toArray, List.map_cons, List.map_nil]); first | done | rfl | (simp only [List.length_drop, List.length_take]; rfl)) ?_; (with_reducible refine (frisketlaw19_nth.calls _ _ l0 0 10 t175 _ ?side1 ?side2 A5.out).mono ?_); (case side1 => repeat (first | exact (Kd.C_below HR0.out HB.out) | (with_reducible refine Kd.C_alloc ?_ _) | (with_reducible refine Kd.C_drewN ?_ _) | (with_reducible refine Kd.C_drew ?_))); (case side2 => exact HC0.out); rintro e w' ⟨rfl, ⟨nd, rfl⟩⟩; refine ⟨_, rfl, ?_⟩) | ((with_reducible refine gate_callee (f := 19) rfl ?_); refine goesL_ (some 71) rfl rfl Try.func19 (by kernel_rfl) rfl #[.slice A0 l0.length c0, .int .i64 1, .int .i64 x4_2] rfl (by (try simp only [List.map_toArray, List.map_cons, List.map_nil]); first | done | rfl | (simp only [List.length_drop, List.length_take]; rfl)) ?_; (with_reducible refine (frisketlaw19_nth.calls _ _ l0 1 x4_2 t200 _ ?side1 ?side2 A33.out).mono ?_); (case side1 => repeat (first | exact (Kd.C_below HR0.out (by repeat (first | (with_reducible first | exact HB.out | apply below_alloc | apply pw_below_drewN | apply below_drew1) | exact HB.out))) | (with_reducible refine Kd.C_alloc ?_ _) | (with_reducible refine Kd.C_drewN ?_ _) | (with_reducible refine Kd.C_drew ?_))); (case side2 => exact HC0.out); rintro e w' ⟨rfl, ⟨nd, rfl⟩⟩; refine ⟨_, rfl, ?_⟩) | ((with_reducible refine gate_callee (f := 19) rfl ?_); refine goesL_ (some 74) rfl rfl Try.func19 (by kernel_rfl) rfl #[.slice A0 l0.length c0, .int .i64 2, .int .i64 x4_2] rfl (by (try simp only [List.map_toArray, List.map_cons, List.map_nil]); first | done | rfl | (simp only [List.length_drop, List.length_take]; rfl)) ?_; (with_reducible refine (frisketlaw19_nth.calls _ _ l0 2 x4_2 t201 _ ?side1 ?side2 A34.out).mono ?_); (case side1 => repeat (first | exact (Kd.C_below HR0.out (by repeat (first | (with_reducible first | exact HB.out | apply below_alloc | apply pw_below_drewN | apply below_drew1) | exact HB.out))) | (with_reducible refine Kd.C_alloc ?_ _) | (with_reducible refine Kd.C_drewN ?_ _) | (with_reducible refine Kd.C_drew ?_))); (case side2 => exact HC0.out); rintro e w' ⟨rfl, ⟨nd, rfl⟩⟩; refine ⟨_, rfl, ?_⟩) | ((with_reducible refine gate_dst (N := 75) rfl ?_); refine Kd.R_lit (Kd.int .i64) _ 3 ?hg (N := 75) ?hd (xs := ([t200, t201] : List Int)) (inner := [.int .i64 t200, .int .i64 t201]) (ok := fun _ => True) (okp := fun _ => True) ?hr ?hp (fun _ hk => hk) trivial (Below.refl _ _) (Nat.le_refl _) (by simp) ?_; (case hd => rfl); (case hg => rfl); (case hr => first | (go_simp; done) | (go_simp; rfl)); (case hp => exact (Reps.one (show Kd.M (Kd.int .i64) _ _ _ t200 [.int .i64 t200] from rfl) (Reps.one (show Kd.M (Kd.int .i64) _ _ _ t201 [.int .i64 t201] from rfl) (Reps.none _ _)))); intro v203 w35 ho36 hb hg_ hnew_; clear hg_ hnew_; (first | rw [← Ny202.out] at ho36 | (simp only [Int.reduceToNat] at ho36; rw [← Ny202.out] at ho36)); have n0_ := Aside0.mk (Kd.R_lower ho36 (below_size (by repeat (first | (with_reducible first | exact HB.out | apply below_alloc | apply pw_below_drewN | apply below_drew1) | exact HB.out)))); have n1_ := Aside0.mk (below_step (by repeat (first | (with_reducible first | exact HB.out | apply below_alloc | apply pw_below_drewN | apply below_drew1) | exact HB.out)) hb); clear HB; have HO204 := n0_; have HB := n1_; clear n0_ n1_; clear hb ho36))
       go_loopg [5, 6] kj2 (fun kq v5 v6 w' => ∃ (x5_2 : List Int) (x6_2 : Int), v6 = .int .i64 x6_2 ∧ Aside0 (frisketlaw19_Stroke.l0 kq l0 x4_2 x5_2 x6_2 = some (r1, r2)) ∧ Aside0 (kq ≤ kj2) ∧ Aside0 (Kd.R (Kd.int .i64) 3 w' w.heap.size (fun _ => True) v5 x5_2) ∧ Aside0 (Below w.heap.size w w'))
       case atStart => exact ⟨(y202), (3), (by first | rfl | (simp; done) | (simp [*]; done)), H', ⟨Nat.le_refl _⟩, ⟨by (with_reducible repeat (first | apply Kd.R_alloc | apply Kd.R_drewN | apply Kd.R_drew)); exact HO204.out⟩, ⟨by repeat (first | (with_reducible first | exact HB.out | apply below_alloc | apply pw_below_drewN | apply below_drew1) | exact HB.out)⟩⟩
       case round =>
        clear H'
        try clear c1
        try clear c2
        try clear p2
        try clear c4
        try clear c4b0
        try clear c4b1
        try clear c6
        try clear c6b0
        try clear c6b1
        try clear p6
        try clear c8
        try clear c11
        try clear c11b0
        try clear c11b1
        try clear c17
        try clear c17b0
        try clear c17b1
        try clear c19
        try clear c26
        try clear c26b0
        try clear c26b1
        try clear p2
        obtain ⟨x5_2, x6_2, rfl, HA, HK2, HO_5, HB⟩ := hrel
        cases gk with
        | zero => exact absurd HA.out (by simp [frisketlaw19_Stroke.l0])
        | succ k2 =>
         have H := HA.out
         clear HA
         simp only [frisketlaw19_Stroke.l0] at H
         have HC37 := Aside0.mk H
         clear H
         go_upto_region 15 with (fail)
         go_cut [84] (fun v84 wc => ∃ (kq : Nat) (x84_36 : Bool), v84 = .bool x84_36 ∧ Aside0 (frisketlaw19_Stroke.j2 kq l0 x4_2 x5_2 x6_2 x84_36 = some (r1, r2)) ∧ Aside0 (kq ≤ k2) ∧ Aside0 (Kd.R (Kd.int .i64) 3 wc w.heap.size (fun _ => True) u5 x5_2) ∧ Aside0 (Below w.heap.size w wc))
         case first =>
          have H := HC37.out
          clear HC37
          by_cases c38 : (wrap64 (x6_2 + 1)) < (l0.length : Int)
          ·rw [if_pos c38] at H
           have c38b0 : decide ((wrap64 (x6_2 + 1)) < (l0.length : Int)) = true := decide_eq_true c38
           clear c38
           (first | rw [c38b0] | (simp only [i64_w, i32_w]; rw [c38b0]) | skip)
           have H' := Aside0.mk H
           clear H
           go_wp2
           go_meet
           case rel => exact ⟨_, (decide (x6_2 < 40)), (by first | rfl | (simp; done) | (simp [*]; done)), H', ⟨by have := HJ2.out; have := HK2.out; first | omega | exact Nat.le_refl _⟩, ⟨by (with_reducible repeat (first | apply Kd.R_alloc | apply Kd.R_drewN | apply Kd.R_drew)); exact HO_5.out⟩, ⟨by repeat (first | (with_reducible first | exact HB.out | apply below_alloc | apply pw_below_drewN | apply below_drew1) | exact HB.out)⟩⟩
          ·rw [if_neg c38] at H
           have c38b0 : decide ((wrap64 (x6_2 + 1)) < (l0.length : Int)) = false := decide_eq_false c38
           clear c38
           (first | rw [c38b0] | (simp only [i64_w, i32_w]; rw [c38b0]) | skip)
           have H' := Aside0.mk H
           clear H
           go_wp2
           go_meet
           case rel => exact ⟨_, (false), (by first | rfl | (simp; done) | (simp [*]; done)), H', ⟨by have := HJ2.out; have := HK2.out; first | omega | exact Nat.le_refl _⟩, ⟨by (with_reducible repeat (first | apply Kd.R_alloc | apply Kd.R_drewN | apply Kd.R_drew)); exact HO_5.out⟩, ⟨by repeat (first | (with_reducible first | exact HB.out | apply below_alloc | apply pw_below_drewN | apply below_drew1) | exact HB.out)⟩⟩
         case rest =>
          clear HC37
          try clear c1
          try clear c2
          try clear p2
          try clear c3
          try clear c4
          try clear c4b0
          try clear c4b1
          try clear c6
          try clear c6b0
          try clear c6b1
          try clear p6
          try clear c8
          try clear c11
          try clear c11b0
          try clear c11b1
          try clear c17
          try clear c17b0
          try clear c17b1
          try clear c19
          try clear c26
          try clear c26b0
          try clear c26b1
          try clear c38
          try clear c38b0
          try clear p2
          try clear p6
          obtain ⟨kq, x84_36, rfl, HA, HJ36, HO_5, HB⟩ := hcut
          cases kq with
          | zero => exact absurd HA.out (by simp [frisketlaw19_Stroke.j2])
          | succ kj36 =>
           have H := HA.out
           clear HA
           simp only [frisketlaw19_Stroke.j2] at H
           by_cases c39 : x84_36 = true
           ·subst c39
            have H1 : ((frisketlaw19_nth.f l0 x6_2 x4_2).bind fun t205 => ((frisketlaw19_nth.f l0 (wrap64 (x6_2 + 1)) x4_2).bind fun t206 => ((some (([t205, t206] : List Int) : List Int)).bind fun y207 => (if x5_2.length + y207.length < 17592186044416 then (frisketlaw19_Stroke.l0 kj36 l0 x4_2 (x5_2 ++ y207) (wrap64 (x6_2 + 2))) else (none))))) = some (r1, r2) := by rw [if_pos rfl] at H; exact H
            clear H
            have H := H1
            clear H1
            replace H := Option.bind_eq_some_iff.mp H
            obtain ⟨t205, A400, H⟩ := H
            replace H : ((frisketlaw19_nth.f l0 (wrap64 (x6_2 + 1)) x4_2).bind fun t206 => ((some (([t205, t206] : List Int) : List Int)).bind fun y207 => (if x5_2.length + y207.length < 17592186044416 then (frisketlaw19_Stroke.l0 kj36 l0 x4_2 (x5_2 ++ y207) (wrap64 (x6_2 + 2))) else (none)))) = some (r1, r2) := H
            have A40 := Aside0.mk A400
            clear A400
            replace H := Option.bind_eq_some_iff.mp H
            obtain ⟨t206, A410, H⟩ := H
            replace H : ((some (([t205, t206] : List Int) : List Int)).bind fun y207 => (if x5_2.length + y207.length < 17592186044416 then (frisketlaw19_Stroke.l0 kj36 l0 x4_2 (x5_2 ++ y207) (wrap64 (x6_2 + 2))) else (none))) = some (r1, r2) := H
            have A41 := Aside0.mk A410
            clear A410
            obtain ⟨y207, hy207⟩ : ∃ y_ : List Int, y_ = (([t205, t206] : List Int)) := ⟨_, rfl⟩
            replace H : (if x5_2.length + y207.length < 17592186044416 then (frisketlaw19_Stroke.l0 kj36 l0 x4_2 (x5_2 ++ y207) (wrap64 (x6_2 + 2))) else (none)) = some (r1, r2) := by first | (rw [hy207]; with_reducible exact H) | (have H2_ := (Option.bind_some _ _).symm.trans H; rw [hy207]; with_reducible exact H2_) | (have H2_ := (Option.bind_some _ _).symm.trans H; with_reducible exact H2_) | with_reducible exact H | (rw [hy207]; exact H) | exact H
            have Ny207 := Aside0.mk hy207
            clear hy207
            by_cases c42 : x5_2.length + y207.length < 17592186044416
            ·rw [if_pos c42] at H
             have LMc42 := Aside0.mk c42
             clear c42
             obtain ⟨y210, hy210⟩ : ∃ y_ : List Int, y_ = (x5_2 ++ y207) := ⟨_, rfl⟩
             replace H : (frisketlaw19_Stroke.l0 kj36 l0 x4_2 y210 (wrap64 (x6_2 + 2))) = some (r1, r2) := by first | (rw [hy210]; with_reducible exact H) | (have H2_ := (Option.bind_some _ _).symm.trans H; rw [hy210]; with_reducible exact H2_) | (have H2_ := (Option.bind_some _ _).symm.trans H; with_reducible exact H2_) | with_reducible exact H | (rw [hy210]; exact H) | exact H
             have Ny210 := Aside0.mk hy210
             clear hy210
             have H' := Aside0.mk H
             clear H
             go_wp2_with (first | ((with_reducible refine gate_callee (f := 19) rfl ?_); refine goesL_ (some 91) rfl rfl Try.func19 (by kernel_rfl) rfl #[.slice A0 l0.length c0, .int .i64 x6_2, .int .i64 x4_2] rfl (by (try simp only [List.map_toArray, List.map_cons, List.map_nil]); first | done | rfl | (simp only [List.length_drop, List.length_take]; rfl)) ?_; (with_reducible refine (frisketlaw19_nth.calls _ _ l0 x6_2 x4_2 t205 _ ?side1 ?side2 A40.out).mono ?_); (case side1 => repeat (first | exact (Kd.C_below HR0.out HB.out) | (with_reducible refine Kd.C_alloc ?_ _) | (with_reducible refine Kd.C_drewN ?_ _) | (with_reducible refine Kd.C_drew ?_))); (case side2 => exact HC0.out); rintro e w' ⟨rfl, ⟨nd, rfl⟩⟩; refine ⟨_, rfl, ?_⟩) | ((with_reducible refine gate_callee (f := 19) rfl ?_); refine goesL_ (some 96) rfl rfl Try.func19 (by kernel_rfl) rfl #[.slice A0 l0.length c0, .int .i64 (wrap64 (x6_2 + 1)), .int .i64 x4_2] rfl (by (try simp only [List.map_toArray, List.map_cons, List.map_nil]); first | done | rfl | (simp only [List.length_drop, List.length_take]; rfl)) ?_; (with_reducible refine (frisketlaw19_nth.calls _ _ l0 (wrap64 (x6_2 + 1)) x4_2 t206 _ ?side1 ?side2 A41.out).mono ?_); (case side1 => repeat (first | exact (Kd.C_below HR0.out (by repeat (first | (with_reducible first | exact HB.out | apply below_alloc | apply pw_below_drewN | apply below_drew1) | exact HB.out))) | (with_reducible refine Kd.C_alloc ?_ _) | (with_reducible refine Kd.C_drewN ?_ _) | (with_reducible refine Kd.C_drew ?_))); (case side2 => exact HC0.out); rintro e w' ⟨rfl, ⟨nd, rfl⟩⟩; refine ⟨_, rfl, ?_⟩) | ((with_reducible refine gate_dst (N := 97) rfl ?_); refine Kd.R_lit (Kd.int .i64) _ 3 ?hg (N := 97) ?hd (xs := ([t205, t206] : List Int)) (inner := [.int .i64 t205, .int .i64 t206]) (ok := fun _ => True) (okp := fun _ => True) ?hr ?hp (fun _ hk => hk) trivial (Below.refl _ _) (Nat.le_refl _) (by simp) ?_; (case hd => rfl); (case hg => rfl); (case hr => first | (go_simp; done) | (go_simp; rfl)); (case hp => exact (Reps.one (show Kd.M (Kd.int .i64) _ _ _ t205 [.int .i64 t205] from rfl) (Reps.one (show Kd.M (Kd.int .i64) _ _ _ t206 [.int .i64 t206] from rfl) (Reps.none _ _)))); intro v208 w43 ho44 hb hg_ hnew_; clear hg_ hnew_; (first | rw [← Ny207.out] at ho44 | (simp only [Int.reduceToNat] at ho44; rw [← Ny207.out] at ho44)); have n0_ := Aside0.mk (Kd.R_elder' (by (with_reducible repeat (first | apply Kd.R_alloc | apply Kd.R_drewN | apply Kd.R_drew)); exact HO_5.out) (Kd.R_base ho44) hb); have n1_ := Aside0.mk (Kd.R_lower (Kd.R_new' ho44 (Kd.R_lt (by (with_reducible repeat (first | apply Kd.R_alloc | apply Kd.R_drewN | apply Kd.R_drew)); exact HO_5.out))) (below_size (by repeat (first | (with_reducible first | exact HB.out | apply below_alloc | apply pw_below_drewN | apply below_drew1) | exact HB.out)))); have n2_ := Aside0.mk (below_step (by repeat (first | (with_reducible first | exact HB.out | apply below_alloc | apply pw_below_drewN | apply below_drew1) | exact HB.out)) hb); clear HO_5; clear HB; have HO_5 := n0_; have HO209 := n1_; have HB := n2_; clear n0_ n1_ n2_; clear hb ho44; obtain ⟨Ao46, co46, eo46⟩ := Kd.R_slice HO209.out; subst eo46) | ((with_reducible refine gate_builtin (b := .append) (xs := #[.tmp 87, .tmp 97]) rfl ?_); at_builtin; refine Kd.R_append_rows (Kd.int .i64) (w0 := w) w.heap.size rfl (.tmp 87) (.tmp 97) 27 3 (.int .i64 0) 8 rfl Try.underlying27 info3 rfl (by decide) (by omega) u5 x5_2 y207 _ _ _ (fun k_ => some k_ ≠ (.slice Ao46 y207.length co46 : Value).ownBlock) (fun _ => False) rfl rfl ?aO ?aR (fun _ _ h => h) (fun _ h => h.elim) ?aF ?aB ?aS ?aL ?_; (case aR => repeat (first | exact (Kd.R_reads' HO209.out).2.2 | (with_reducible refine Kd.C_alloc ?_ _) | (with_reducible refine Kd.C_drewN ?_ _) | (with_reducible refine Kd.C_drew ?_))); (case aB => exact (by repeat (first | (with_reducible first | exact HB.out | apply below_alloc | apply pw_below_drewN | apply below_drew1) | exact HB.out))); (case aF => exact (fun k_ hk => Kd.fresh' (Kd.R_lt (by (with_reducible repeat (first | apply Kd.R_alloc | apply Kd.R_drewN | apply Kd.R_drew)); exact HO209.out)) k_ hk)); (case aO => exact (by (with_reducible repeat (first | apply Kd.R_alloc | apply Kd.R_drewN | apply Kd.R_drew)); exact Kd.R_mono HO_5.out (fun _ hk => hk.2))); (case aS => exact (below_size (by repeat (first | (with_reducible first | exact HB.out | apply below_alloc | apply pw_below_drewN | apply below_drew1) | exact HB.out)))); (case aL => have := LMc42.out; omega); intro v211 w45 ho hb hg hat; rw [← Ny210.out] at ho; have n0_ := Aside0.mk (Kd.R_after (ok := (fun _ => True)) (by (with_reducible repeat (first | apply Kd.R_alloc | apply Kd.R_drewN | apply Kd.R_drew)); exact HO209.out) hg hat); have n1_ := Aside0.mk (hb); have n2_ := Aside0.mk (ho); clear HO209; clear HB; clear HO_5; have HO209 := n0_; have HB := n1_; have HO212 := n2_; clear n0_ n1_ n2_; clear ho hb hg hat))
             go_roundg kj36
             case measure => have := HJ2.out; have := HK2.out; have := HJ36.out; omega
             case rel => exact ⟨(y210), (wrap64 (x6_2 + 2)), (by first | rfl | (simp; done) | (simp [*]; done)), H', ⟨by have := HJ2.out; have := HK2.out; have := HJ36.out; omega⟩, ⟨by (with_reducible repeat (first | apply Kd.R_alloc | apply Kd.R_drewN | apply Kd.R_drew)); exact Kd.R_mono HO212.out (fun _ hk => trivial)⟩, ⟨by repeat (first | (with_reducible first | exact HB.out | apply below_alloc | apply pw_below_drewN | apply below_drew1) | exact HB.out)⟩⟩
            ·rw [if_neg c42] at H
             exact absurd H (by simp)
           ·replace c39 := Bool.eq_false_iff.mpr c39
            subst c39
            have H1 : (some (126, x5_2)) = some (r1, r2) := by rw [if_neg (show ¬ (false = true) by decide)] at H; exact H
            clear H
            have H := H1
            clear H1
            simp only [Option.some.injEq, Prod.mk.injEq] at H
            obtain ⟨rfl, rfl⟩ := H
            go_wp2
            go_ret2
            exact ⟨_, by first | rfl | (simp [errW_none, errW_some] <;> rfl) | (simp [*, errW_none, errW_some] <;> rfl), by (with_reducible repeat (first | apply Kd.R_alloc | apply Kd.R_drewN | apply Kd.R_drew)); exact HO_5.out, by repeat (first | (with_reducible first | exact HB.out | apply below_alloc | apply pw_below_drewN | apply below_drew1) | exact HB.out)⟩

/-! ### frisketref19_Box: function 9 -/
def frisketref19_Box.l0 : Nat → List (S28) → Int → Int → Int → Int → Int → Option (Int × Int × Int × Int × Bool)
 | 0, _, _, _, _, _, _ => none
 | k + 1, x0, x7, x8, x9, x10, x11 => if x11 < (x0.length : Int) then (if 0 ≤ x11 then (frisketref19_Box.l0 k x0 (mn x7 ((rd_T28 x0 x11).f0)) (mn x8 ((rd_T28 x0 x11).f1)) (mx x9 ((rd_T28 x0 x11).f0)) (mx x10 ((rd_T28 x0 x11).f1)) (wrap64 (x11 + 1))) else (none)) else (some (x7, x8, x9, x10, true))
def frisketref19_Box.f (k : Nat) (l0 : List (S28)) : Option (Int × Int × Int × Int × Bool) := if (l0.length : Int) = 0 then (some (0, 0, 0, 0, false)) else (if 0 < (l0.length : Int) then (frisketref19_Box.l0 k l0 ((rd_T28 l0 0).f0) ((rd_T28 l0 0).f1) ((rd_T28 l0 0).f0) ((rd_T28 l0 0).f1) 0) else (none))
theorem frisketref19_Box.mono_l : ∀ k, (∀ y0 y1 y2 y3 y4 y5, LeO (frisketref19_Box.l0 k y0 y1 y2 y3 y4 y5) (frisketref19_Box.l0 (k + 1) y0 y1 y2 y3 y4 y5))
 | 0 => fun _ _ _ _ _ _ r h => by simp [frisketref19_Box.l0] at h
 | k + 1 => by
  have ih0 := frisketref19_Box.mono_l k
  ·intro y0 y1 y2 y3 y4 y5
   unfold frisketref19_Box.l0
   repeat' first
   | (with_reducible exact ih0 _ _ _ _ _ _)
   | (with_reducible exact LeO.refl _)
   | (with_reducible exact LeO.none _)
   | (with_reducible refine LeO.ite ?_ ?_)
   | (with_reducible refine LeO.bind ?_ (fun _ => ?_))
   | exact ih0 _ _ _ _ _ _
   | exact LeO.none _
   | refine LeO.ite ?_ ?_
   | refine LeO.bind ?_ (fun _ => ?_)
theorem frisketref19_Box.mono : ∀ a0 k, LeO (frisketref19_Box.f k a0) (frisketref19_Box.f (k + 1) a0) := by
 intro a0 k
 have ih0 := frisketref19_Box.mono_l k
 unfold frisketref19_Box.f
 repeat' first
   | (with_reducible exact ih0 _ _ _ _ _ _)
   | (with_reducible exact LeO.refl _)
   | (with_reducible exact LeO.none _)
   | (with_reducible refine LeO.ite ?_ ?_)
   | (with_reducible refine LeO.bind ?_ (fun _ => ?_))
   | exact ih0 _ _ _ _ _ _
   | exact LeO.none _
   | refine LeO.ite ?_ ?_
   | refine LeO.bind ?_ (fun _ => ?_)
set_option maxHeartbeats 8000000 in
set_option maxRecDepth 100000 in
theorem frisketref19_Box.calls (k : Nat) (A0 : Option Addr) (c0 : Nat) (l0 : List (S28)) (r1 : Int) (r2 : Int) (r3 : Int) (r4 : Int) (r5 : Bool) (w : World) (hr0 : Kd.C k28 w A0 l0.length l0) (hc0 : l0.length ≤ c0) (h : frisketref19_Box.f k l0 = some (r1, r2, r3, r4, r5)) :
  Calls Try.prog 9 #[.slice A0 l0.length c0] w fun e w' => e = .returned (.tuple #[.int .i64 r1, .int .i64 r2, .int .i64 r3, .int .i64 r4, .bool r5]) ∧ Below w.heap.size w w' := by
 have HR0 := Aside0.mk hr0
 have HC0 := Aside0.mk hc0
 clear hr0 hc0
 have HB := Aside0.mk (Below.refl w.heap.size w)
 have H : (if (l0.length : Int) = 0 then (some (0, 0, 0, 0, false)) else (if 0 < (l0.length : Int) then (frisketref19_Box.l0 k l0 ((rd_T28 l0 0).f0) ((rd_T28 l0 0).f1) ((rd_T28 l0 0).f0) ((rd_T28 l0 0).f1) 0) else (none))) = some (r1, r2, r3, r4, r5) := h
 clear h
 by_cases c2 : (l0.length : Int) = 0
 ·rw [if_pos c2] at H
  have c2b0 : ((l0.length : Int) == 0) = true := beq_iff_eq.mpr c2
  have c2b1 : ((l0.length : Int) != 0) = false := bne_eq_false_iff_eq.mpr c2
  clear c2
  simp only [Option.some.injEq, Prod.mk.injEq] at H
  obtain ⟨rfl, rfl, rfl, rfl, rfl⟩ := H
  go_enter Try.func9, Try.ntmps9
  go_wp2
  repeat (go_quiet (fail); try go_wp2)
  refine bodyPost_ret (results_list (rs := [.tmp 2, .tmp 3, .tmp 4, .tmp 5, .tmp 6]) rfl (by simp) (.tmp (.tmp (.tmp (.tmp (.tmp .nil)))))) rfl ?_
  exact ⟨by first | rfl | (simp [errW_none, errW_some] <;> rfl) | (simp [*, errW_none, errW_some] <;> rfl), by repeat (first | (with_reducible first | exact HB.out | apply below_alloc | apply pw_below_drewN | apply below_drew1) | exact HB.out)⟩
 ·rw [if_neg c2] at H
  have c2b0 : ((l0.length : Int) == 0) = false := beq_eq_false_iff_ne.mpr c2
  have c2b1 : ((l0.length : Int) != 0) = true := bne_iff_ne.mpr c2
  have c2b2 : ¬ (l0 = []) := fun h_ => c2 (by rw [h_]; rfl)
  by_cases c3 : 0 < (l0.length : Int)
  ·rw [if_pos c3] at H
   have c3b0 : decide (0 < (l0.length : Int)) = true := decide_eq_true c3
   have c3b1 : decide (0 < l0.length) = true := decide_eq_true (by omega)
   clear c3
   have H' := Aside0.mk H
   clear H
   have p213 : 0 ≤ (0 : Int) := (by omega)
   have q213 : 0 < (l0.length : Int) := of_decide_eq_true (by first | (with_reducible assumption) | assumption)
   obtain ⟨ad213, e213, hx213_0, hx213_1⟩ := at_T28 HR0.out 0 p213 q213
   cases e213
   have qi213 : (0 < l0.length) = True := eq_true (by omega)
   (try rw [show ((0 : Int)).toNat = 0 from rfl] at hx213_0)
   (try rw [show 0 * 2 = 0 from rfl] at hx213_0)
   (try rw [Addr.add_zero'] at hx213_0)
   (try rw [show ((0 : Int)).toNat = 0 from rfl] at hx213_1)
   (try rw [show 0 * 2 = 0 from rfl] at hx213_1)
   (try rw [Addr.add_zero'] at hx213_1)
   replace p213 := eq_true p213
   replace q213 := eq_true q213
   have p214 : 0 ≤ (0 : Int) := (by omega)
   have q214 : 0 < (l0.length : Int) := of_decide_eq_true (by first | (with_reducible assumption) | assumption)
   obtain ⟨ad214, e214, hx214_0, hx214_1⟩ := at_T28 HR0.out 0 p214 q214
   obtain rfl : ad213 = ad214 := (by injection e214)
   have qi214 : (0 < l0.length) = True := eq_true (by omega)
   (try rw [show ((0 : Int)).toNat = 0 from rfl] at hx214_0)
   (try rw [show 0 * 2 = 0 from rfl] at hx214_0)
   (try rw [Addr.add_zero'] at hx214_0)
   (try rw [show ((0 : Int)).toNat = 0 from rfl] at hx214_1)
   (try rw [show 0 * 2 = 0 from rfl] at hx214_1)
   (try rw [Addr.add_zero'] at hx214_1)
   replace p214 := eq_true p214
   replace q214 := eq_true q214
   have p215 : 0 ≤ (0 : Int) := (by omega)
   have q215 : 0 < (l0.length : Int) := of_decide_eq_true (by first | (with_reducible assumption) | assumption)
   obtain ⟨ad215, e215, hx215_0, hx215_1⟩ := at_T28 HR0.out 0 p215 q215
   obtain rfl : ad213 = ad215 := (by injection e215)
   have qi215 : (0 < l0.length) = True := eq_true (by omega)
   (try rw [show ((0 : Int)).toNat = 0 from rfl] at hx215_0)
   (try rw [show 0 * 2 = 0 from rfl] at hx215_0)
   (try rw [Addr.add_zero'] at hx215_0)
   (try rw [show ((0 : Int)).toNat = 0 from rfl] at hx215_1)
   (try rw [show 0 * 2 = 0 from rfl] at hx215_1)
   (try rw [Addr.add_zero'] at hx215_1)
   replace p215 := eq_true p215
   replace q215 := eq_true q215
   have p216 : 0 ≤ (0 : Int) := (by omega)
   have q216 : 0 < (l0.length : Int) := of_decide_eq_true (by first | (with_reducible assumption) | assumption)
   obtain ⟨ad216, e216, hx216_0, hx216_1⟩ := at_T28 HR0.out 0 p216 q216
   obtain rfl : ad213 = ad216 := (by injection e216)
   have qi216 : (0 < l0.length) = True := eq_true (by omega)
   (try rw [show ((0 : Int)).toNat = 0 from rfl] at hx216_0)
   (try rw [show 0 * 2 = 0 from rfl] at hx216_0)
   (try rw [Addr.add_zero'] at hx216_0)
   (try rw [show ((0 : Int)).toNat = 0 from rfl] at hx216_1)
   (try rw [show 0 * 2 = 0 from rfl] at hx216_1)
   (try rw [Addr.add_zero'] at hx216_1)
   replace p216 := eq_true p216
   replace q216 := eq_true q216
   go_enter Try.func9, Try.ntmps9
   go_wp2
   repeat (go_quiet (fail); try go_wp2)
   go_loopg [7, 8, 9, 10, 11] k (fun kq v7 v8 v9 v10 v11 w' => ∃ (x7_1 : Int) (x8_1 : Int) (x9_1 : Int) (x10_1 : Int) (x11_1 : Int), v7 = .int .i64 x7_1 ∧ v8 = .int .i64 x8_1 ∧ v9 = .int .i64 x9_1 ∧ v10 = .int .i64 x10_1 ∧ v11 = .int .i64 x11_1 ∧ Aside0 (frisketref19_Box.l0 kq l0 x7_1 x8_1 x9_1 x10_1 x11_1 = some (r1, r2, r3, r4, r5)) ∧ Aside0 (kq ≤ k) ∧ Aside0 (Below w.heap.size w w'))
   case atStart => exact ⟨((rd_T28 l0 0).f0), ((rd_T28 l0 0).f1), ((rd_T28 l0 0).f0), ((rd_T28 l0 0).f1), (0), (by first | rfl | (simp; done) | (simp [*]; done)), (by first | rfl | (simp; done) | (simp [*]; done)), (by first | rfl | (simp; done) | (simp [*]; done)), (by first | rfl | (simp; done) | (simp [*]; done)), (by first | rfl | (simp; done) | (simp [*]; done)), H', ⟨Nat.le_refl _⟩, ⟨by repeat (first | (with_reducible first | exact HB.out | apply below_alloc | apply pw_below_drewN | apply below_drew1) | exact HB.out)⟩⟩
   case round =>
    clear H'
    try clear c2
    try clear c2b0
    try clear c2b1
    try clear c2b2
    try clear p2
    try clear q2
    try clear hx2
    try clear qi2
    try clear c3
    try clear c3b0
    try clear c3b1
    try clear hx213_0
    try clear hx213_1
    try clear hx214_0
    try clear hx214_1
    try clear hx215_0
    try clear hx215_1
    try clear hx216_0
    try clear hx216_1
    try clear p213
    try clear p214
    try clear p215
    try clear p216
    try clear q213
    try clear q214
    try clear q215
    try clear q216
    obtain ⟨x7_1, x8_1, x9_1, x10_1, x11_1, rfl, rfl, rfl, rfl, rfl, HA, HK1, HB⟩ := hrel
    cases gk with
    | zero => exact absurd HA.out (by simp [frisketref19_Box.l0])
    | succ k1 =>
     have H := HA.out
     clear HA
     simp only [frisketref19_Box.l0] at H
     by_cases c4 : x11_1 < (l0.length : Int)
     ·rw [if_pos c4] at H
      have c4b0 : decide (x11_1 < (l0.length : Int)) = true := decide_eq_true c4
      clear c4
      by_cases c5 : 0 ≤ x11_1
      ·rw [if_pos c5] at H
       have c5b0 : decide (0 ≤ x11_1) = true := decide_eq_true c5
       clear c5
       obtain ⟨ji6, hji6⟩ : ∃ j_ : Int, (mn x7_1 ((rd_T28 l0 x11_1).f0)) = j_ := ⟨_, rfl⟩
       replace H : (frisketref19_Box.l0 k1 l0 ji6 (mn x8_1 ((rd_T28 l0 x11_1).f1)) (mx x9_1 ((rd_T28 l0 x11_1).f0)) (mx x10_1 ((rd_T28 l0 x11_1).f1)) (wrap64 (x11_1 + 1))) = some (r1, r2, r3, r4, r5) := by first | (rw [hji6] at H; exact H) | (simp only [hji6] at H ⊢; exact H)
       have hji6_ : (if ((rd_T28 l0 x11_1).f0) < x7_1 then ((rd_T28 l0 x11_1).f0) else x7_1) = ji6 := hji6
       obtain ⟨ji7, hji7⟩ : ∃ j_ : Int, (mn x8_1 ((rd_T28 l0 x11_1).f1)) = j_ := ⟨_, rfl⟩
       replace H : (frisketref19_Box.l0 k1 l0 ji6 ji7 (mx x9_1 ((rd_T28 l0 x11_1).f0)) (mx x10_1 ((rd_T28 l0 x11_1).f1)) (wrap64 (x11_1 + 1))) = some (r1, r2, r3, r4, r5) := by first | (rw [hji7] at H; exact H) | (simp only [hji7] at H ⊢; exact H)
       have hji7_ : (if ((rd_T28 l0 x11_1).f1) < x8_1 then ((rd_T28 l0 x11_1).f1) else x8_1) = ji7 := hji7
       obtain ⟨ji8, hji8⟩ : ∃ j_ : Int, (mx x9_1 ((rd_T28 l0 x11_1).f0)) = j_ := ⟨_, rfl⟩
       replace H : (frisketref19_Box.l0 k1 l0 ji6 ji7 ji8 (mx x10_1 ((rd_T28 l0 x11_1).f1)) (wrap64 (x11_1 + 1))) = some (r1, r2, r3, r4, r5) := by first | (rw [hji8] at H; exact H) | (simp only [hji8] at H ⊢; exact H)
       have hji8_ : (if x9_1 < ((rd_T28 l0 x11_1).f0) then ((rd_T28 l0 x11_1).f0) else x9_1) = ji8 := hji8
       obtain ⟨ji9, hji9⟩ : ∃ j_ : Int, (mx x10_1 ((rd_T28 l0 x11_1).f1)) = j_ := ⟨_, rfl⟩
       replace H : (frisketref19_Box.l0 k1 l0 ji6 ji7 ji8 ji9 (wrap64 (x11_1 + 1))) = some (r1, r2, r3, r4, r5) := by first | (rw [hji9] at H; exact H) | (simp only [hji9] at H ⊢; exact H)
       have hji9_ : (if x10_1 < ((rd_T28 l0 x11_1).f1) then ((rd_T28 l0 x11_1).f1) else x10_1) = ji9 := hji9
       have H' := Aside0.mk H
       clear H
       have p217 : 0 ≤ (x11_1 : Int) := of_decide_eq_true (by first | (with_reducible assumption) | assumption)
       have q217 : x11_1 < (l0.length : Int) := of_decide_eq_true (by first | (with_reducible assumption) | assumption)
       obtain ⟨ad217, e217, hx217_0, hx217_1⟩ := at_T28 HR0.out x11_1 p217 q217
       obtain rfl : ad213 = ad217 := (by injection e217)
       replace hx217_0 := (HB.out.cell (World.block_lt_of_cell? w _ hx217_0)).trans hx217_0
       replace hx217_1 := (HB.out.cell (World.block_lt_of_cell? w _ hx217_1)).trans hx217_1
       replace p217 := eq_true p217
       replace q217 := eq_true q217
       have p218 : 0 ≤ (x11_1 : Int) := of_decide_eq_true (by first | (with_reducible assumption) | assumption)
       have q218 : x11_1 < (l0.length : Int) := of_decide_eq_true (by first | (with_reducible assumption) | assumption)
       obtain ⟨ad218, e218, hx218_0, hx218_1⟩ := at_T28 HR0.out x11_1 p218 q218
       obtain rfl : ad213 = ad218 := (by injection e218)
       replace hx218_0 := (HB.out.cell (World.block_lt_of_cell? w _ hx218_0)).trans hx218_0
       replace hx218_1 := (HB.out.cell (World.block_lt_of_cell? w _ hx218_1)).trans hx218_1
       replace p218 := eq_true p218
       replace q218 := eq_true q218
       have p219 : 0 ≤ (x11_1 : Int) := of_decide_eq_true (by first | (with_reducible assumption) | assumption)
       have q219 : x11_1 < (l0.length : Int) := of_decide_eq_true (by first | (with_reducible assumption) | assumption)
       obtain ⟨ad219, e219, hx219_0, hx219_1⟩ := at_T28 HR0.out x11_1 p219 q219
       obtain rfl : ad213 = ad219 := (by injection e219)
       replace hx219_0 := (HB.out.cell (World.block_lt_of_cell? w _ hx219_0)).trans hx219_0
       replace hx219_1 := (HB.out.cell (World.block_lt_of_cell? w _ hx219_1)).trans hx219_1
       replace p219 := eq_true p219
       replace q219 := eq_true q219
       have p220 : 0 ≤ (x11_1 : Int) := of_decide_eq_true (by first | (with_reducible assumption) | assumption)
       have q220 : x11_1 < (l0.length : Int) := of_decide_eq_true (by first | (with_reducible assumption) | assumption)
       obtain ⟨ad220, e220, hx220_0, hx220_1⟩ := at_T28 HR0.out x11_1 p220 q220
       obtain rfl : ad213 = ad220 := (by injection e220)
       replace hx220_0 := (HB.out.cell (World.block_lt_of_cell? w _ hx220_0)).trans hx220_0
       replace hx220_1 := (HB.out.cell (World.block_lt_of_cell? w _ hx220_1)).trans hx220_1
       replace p220 := eq_true p220
       replace q220 := eq_true q220
       go_wp2
       repeat (go_quiet (fail); try go_wp2)
       go_roundg k1
       case measure => have := HK1.out; omega
       case rel => exact ⟨(ji6), (ji7), (ji8), (ji9), (wrap64 (x11_1 + 1)), (by first | rfl | (simp; done) | (simp only [← hji6] <;> (first | rfl | (simp; done) | (simp [mn, mx]; done))) | (simp [*]; done)), (by first | rfl | (simp; done) | (simp only [← hji7] <;> (first | rfl | (simp; done) | (simp [mn, mx]; done))) | (simp [*]; done)), (by first | rfl | (simp; done) | (simp only [← hji8] <;> (first | rfl | (simp; done) | (simp [mn, mx]; done))) | (simp [*]; done)), (by first | rfl | (simp; done) | (simp only [← hji9] <;> (first | rfl | (simp; done) | (simp [mn, mx]; done))) | (simp [*]; done)), (by first | rfl | (simp; done) | (simp [*]; done)), H', ⟨by have := HK1.out; omega⟩, ⟨by repeat (first | (with_reducible first | exact HB.out | apply below_alloc | apply pw_below_drewN | apply below_drew1) | exact HB.out)⟩⟩
      ·rw [if_neg c5] at H
       exact absurd H (by simp)
     ·rw [if_neg c4] at H
      have c4b0 : decide (x11_1 < (l0.length : Int)) = false := decide_eq_false c4
      clear c4
      simp only [Option.some.injEq, Prod.mk.injEq] at H
      obtain ⟨rfl, rfl, rfl, rfl, rfl⟩ := H
      go_wp2
      repeat (go_quiet (fail); try go_wp2)
      refine bodyPost_ret (results_list (rs := [.tmp 2, .tmp 3, .tmp 4, .tmp 5, .tmp 6]) rfl (by simp) (.tmp (.tmp (.tmp (.tmp (.tmp .nil)))))) rfl ?_
      exact ⟨by first | rfl | (simp [errW_none, errW_some] <;> rfl) | (simp [*, errW_none, errW_some] <;> rfl), by repeat (first | (with_reducible first | exact HB.out | apply below_alloc | apply pw_below_drewN | apply below_drew1) | exact HB.out)⟩
  ·rw [if_neg c3] at H
   exact absurd H (by simp)

/-! ### curve_Box: function 10 -/
def curve_Box.l0 : Nat → List (S28) → Int → Int → Int → Int → List (S28) → Int → Int → Option (Int × Int × Int × Int × Bool)
 | 0, _, _, _, _, _, _, _, _ => none
 | k + 1, x0, x2, x3, x4, x5, x9, x10, x11 => if x11 < x10 then (if 0 ≤ x11 then (if x11 < (x9.length : Int) then (if x11 = 0 then (curve_Box.l0 k x0 (mn ((rd_T28 x9 x11).f0) ((rd_T28 x9 x11).f0)) (mn ((rd_T28 x9 x11).f1) ((rd_T28 x9 x11).f1)) (mx ((rd_T28 x9 x11).f0) ((rd_T28 x9 x11).f0)) (mx ((rd_T28 x9 x11).f1) ((rd_T28 x9 x11).f1)) x9 x10 (wrap64 (x11 + 1))) else (curve_Box.l0 k x0 (mn x2 ((rd_T28 x9 x11).f0)) (mn x3 ((rd_T28 x9 x11).f1)) (mx x4 ((rd_T28 x9 x11).f0)) (mx x5 ((rd_T28 x9 x11).f1)) x9 x10 (wrap64 (x11 + 1)))) else (none)) else (none)) else (some (x2, x3, x4, x5, decide ((x0.length : Int) > 0)))
def curve_Box.f (k : Nat) (l0 : List (S28)) : Option (Int × Int × Int × Int × Bool) := curve_Box.l0 k l0 0 0 0 0 l0 (l0.length : Int) 0
theorem curve_Box.mono_l : ∀ k, (∀ y0 y1 y2 y3 y4 y5 y6 y7, LeO (curve_Box.l0 k y0 y1 y2 y3 y4 y5 y6 y7) (curve_Box.l0 (k + 1) y0 y1 y2 y3 y4 y5 y6 y7))
 | 0 => fun _ _ _ _ _ _ _ _ r h => by simp [curve_Box.l0] at h
 | k + 1 => by
  have ih0 := curve_Box.mono_l k
  ·intro y0 y1 y2 y3 y4 y5 y6 y7
   unfold curve_Box.l0
   repeat' first
   | (with_reducible exact ih0 _ _ _ _ _ _ _ _)
   | (with_reducible exact LeO.refl _)
   | (with_reducible exact LeO.none _)
   | (with_reducible refine LeO.ite ?_ ?_)
   | (with_reducible refine LeO.bind ?_ (fun _ => ?_))
   | exact ih0 _ _ _ _ _ _ _ _
   | exact LeO.none _
   | refine LeO.ite ?_ ?_
   | refine LeO.bind ?_ (fun _ => ?_)
theorem curve_Box.mono : ∀ a0 k, LeO (curve_Box.f k a0) (curve_Box.f (k + 1) a0) := by
 intro a0 k
 have ih0 := curve_Box.mono_l k
 unfold curve_Box.f
 repeat' first
   | (with_reducible exact ih0 _ _ _ _ _ _ _ _)
   | (with_reducible exact LeO.refl _)
   | (with_reducible exact LeO.none _)
   | (with_reducible refine LeO.ite ?_ ?_)
   | (with_reducible refine LeO.bind ?_ (fun _ => ?_))
   | exact ih0 _ _ _ _ _ _ _ _
   | exact LeO.none _
   | refine LeO.ite ?_ ?_
   | refine LeO.bind ?_ (fun _ => ?_)
set_option maxHeartbeats 8000000 in
set_option maxRecDepth 100000 in
theorem curve_Box.calls (k : Nat) (A0 : Option Addr) (c0 : Nat) (l0 : List (S28)) (r1 : Int) (r2 : Int) (r3 : Int) (r4 : Int) (r5 : Bool) (w : World) (hr0 : Kd.C k28 w A0 l0.length l0) (hc0 : l0.length ≤ c0) (h : curve_Box.f k l0 = some (r1, r2, r3, r4, r5)) :
  Calls Try.prog 10 #[.slice A0 l0.length c0] w fun e w' => e = .returned (.tuple #[.int .i64 r1, .int .i64 r2, .int .i64 r3, .int .i64 r4, .bool r5]) ∧ Below w.heap.size w w' := by
 have hu28 := Try.underlying28
 have HR0 := Aside0.mk hr0
 have HC0 := Aside0.mk hc0
 clear hr0 hc0
 have HB := Aside0.mk (Below.refl w.heap.size w)
 have H : (curve_Box.l0 k l0 0 0 0 0 l0 (l0.length : Int) 0) = some (r1, r2, r3, r4, r5) := h
 clear h
 have H' := Aside0.mk H
 clear H
 go_enter Try.func10, Try.ntmps10
 go_wp2
 repeat (go_quiet (fail); try go_wp2)
 go_loopg [2, 3, 4, 5, 11] k (fun kq v2 v3 v4 v5 v11 w' => ∃ (x2_1 : Int) (x3_1 : Int) (x4_1 : Int) (x5_1 : Int) (x11_1 : Int), v2 = .int .i64 x2_1 ∧ v3 = .int .i64 x3_1 ∧ v4 = .int .i64 x4_1 ∧ v5 = .int .i64 x5_1 ∧ v11 = .int .i64 x11_1 ∧ Aside0 (curve_Box.l0 kq l0 x2_1 x3_1 x4_1 x5_1 l0 (l0.length : Int) x11_1 = some (r1, r2, r3, r4, r5)) ∧ Aside0 (kq ≤ k) ∧ Aside0 (Below w.heap.size w w'))
 case atStart => exact ⟨(0), (0), (0), (0), (0), (by first | rfl | (simp; done) | (simp [*]; done)), (by first | rfl | (simp; done) | (simp [*]; done)), (by first | rfl | (simp; done) | (simp [*]; done)), (by first | rfl | (simp; done) | (simp [*]; done)), (by first | rfl | (simp; done) | (simp [*]; done)), H', ⟨Nat.le_refl _⟩, ⟨by repeat (first | (with_reducible first | exact HB.out | apply below_alloc | apply pw_below_drewN | apply below_drew1) | exact HB.out)⟩⟩
 case round =>
  clear H'
  try clear c1
  obtain ⟨x2_1, x3_1, x4_1, x5_1, x11_1, rfl, rfl, rfl, rfl, rfl, HA, HK1, HB⟩ := hrel
  cases gk with
  | zero => exact absurd HA.out (by simp [curve_Box.l0])
  | succ k1 =>
   have H := HA.out
   clear HA
   simp only [curve_Box.l0] at H
   by_cases c2 : x11_1 < (l0.length : Int)
   ·rw [if_pos c2] at H
    have c2b0 : decide (x11_1 < (l0.length : Int)) = true := decide_eq_true c2
    clear c2
    by_cases c3 : 0 ≤ x11_1
    ·rw [if_pos c3] at H
     have c3b0 : decide (0 ≤ x11_1) = true := decide_eq_true c3
     clear c3
     by_cases c4 : x11_1 < (l0.length : Int)
     ·rw [if_pos c4] at H
      have c4b0 : decide (x11_1 < (l0.length : Int)) = true := decide_eq_true c4
      clear c4
      by_cases c5 : x11_1 = 0
      ·rw [if_pos c5] at H
       have c5b0 : (x11_1 == 0) = true := beq_iff_eq.mpr c5
       have c5b1 : (x11_1 != 0) = false := bne_eq_false_iff_eq.mpr c5
       clear c5
       obtain ⟨ji6, hji6⟩ : ∃ j_ : Int, (mn ((rd_T28 l0 x11_1).f0) ((rd_T28 l0 x11_1).f0)) = j_ := ⟨_, rfl⟩
       replace H : (curve_Box.l0 k1 l0 ji6 (mn ((rd_T28 l0 x11_1).f1) ((rd_T28 l0 x11_1).f1)) (mx ((rd_T28 l0 x11_1).f0) ((rd_T28 l0 x11_1).f0)) (mx ((rd_T28 l0 x11_1).f1) ((rd_T28 l0 x11_1).f1)) l0 (l0.length : Int) (wrap64 (x11_1 + 1))) = some (r1, r2, r3, r4, r5) := by first | (rw [hji6] at H; exact H) | (simp only [hji6] at H ⊢; exact H)
       have hji6_ : (if ((rd_T28 l0 x11_1).f0) < ((rd_T28 l0 x11_1).f0) then ((rd_T28 l0 x11_1).f0) else ((rd_T28 l0 x11_1).f0)) = ji6 := hji6
       obtain ⟨ji7, hji7⟩ : ∃ j_ : Int, (mn ((rd_T28 l0 x11_1).f1) ((rd_T28 l0 x11_1).f1)) = j_ := ⟨_, rfl⟩
       replace H : (curve_Box.l0 k1 l0 ji6 ji7 (mx ((rd_T28 l0 x11_1).f0) ((rd_T28 l0 x11_1).f0)) (mx ((rd_T28 l0 x11_1).f1) ((rd_T28 l0 x11_1).f1)) l0 (l0.length : Int) (wrap64 (x11_1 + 1))) = some (r1, r2, r3, r4, r5) := by first | (rw [hji7] at H; exact H) | (simp only [hji7] at H ⊢; exact H)
       have hji7_ : (if ((rd_T28 l0 x11_1).f1) < ((rd_T28 l0 x11_1).f1) then ((rd_T28 l0 x11_1).f1) else ((rd_T28 l0 x11_1).f1)) = ji7 := hji7
       obtain ⟨ji8, hji8⟩ : ∃ j_ : Int, (mx ((rd_T28 l0 x11_1).f0) ((rd_T28 l0 x11_1).f0)) = j_ := ⟨_, rfl⟩
       replace H : (curve_Box.l0 k1 l0 ji6 ji7 ji8 (mx ((rd_T28 l0 x11_1).f1) ((rd_T28 l0 x11_1).f1)) l0 (l0.length : Int) (wrap64 (x11_1 + 1))) = some (r1, r2, r3, r4, r5) := by first | (rw [hji8] at H; exact H) | (simp only [hji8] at H ⊢; exact H)
       have hji8_ : (if ((rd_T28 l0 x11_1).f0) < ((rd_T28 l0 x11_1).f0) then ((rd_T28 l0 x11_1).f0) else ((rd_T28 l0 x11_1).f0)) = ji8 := hji8
       obtain ⟨ji9, hji9⟩ : ∃ j_ : Int, (mx ((rd_T28 l0 x11_1).f1) ((rd_T28 l0 x11_1).f1)) = j_ := ⟨_, rfl⟩
       replace H : (curve_Box.l0 k1 l0 ji6 ji7 ji8 ji9 l0 (l0.length : Int) (wrap64 (x11_1 + 1))) = some (r1, r2, r3, r4, r5) := by first | (rw [hji9] at H; exact H) | (simp only [hji9] at H ⊢; exact H)
       have hji9_ : (if ((rd_T28 l0 x11_1).f1) < ((rd_T28 l0 x11_1).f1) then ((rd_T28 l0 x11_1).f1) else ((rd_T28 l0 x11_1).f1)) = ji9 := hji9
       have H' := Aside0.mk H
       clear H
       have p221 : 0 ≤ (x11_1 : Int) := of_decide_eq_true (by first | (with_reducible assumption) | assumption)
       have q221 : x11_1 < (l0.length : Int) := of_decide_eq_true (by first | (with_reducible assumption) | assumption)
       obtain ⟨ad221, e221, hx221_0, hx221_1⟩ := at_T28 HR0.out x11_1 p221 q221
       cases e221
       replace hx221_0 := (HB.out.cell (World.block_lt_of_cell? w _ hx221_0)).trans hx221_0
       replace hx221_1 := (HB.out.cell (World.block_lt_of_cell? w _ hx221_1)).trans hx221_1
       replace p221 := eq_true p221
       replace q221 := eq_true q221
       go_wp2_with (first | ((with_reducible refine gate_dst (N := 8) rfl ?_); refine box_event ?hg (N := 8) ?hd (cs := #[.int .i64 0, .int .i64 0]) (t := 28) ?hr ?_; (case hd => rfl); (case hg => rfl); (case hr => first | (go_simp; done) | (go_simp; rfl)); intro gb222 hg w10 hbox hb; have n0_ := Aside0.mk (below_step (by repeat (first | (with_reducible first | exact HB.out | apply below_alloc | apply pw_below_drewN | apply below_drew1) | exact HB.out)) hb); have n1_ := Aside0.mk (hbox); have n2_ := Aside0.mk ((by rw [hg]; exact (below_size (by repeat (first | (with_reducible first | exact HB.out | apply below_alloc | apply pw_below_drewN | apply below_drew1) | exact HB.out))) : w.heap.size ≤ gb222)); have n3_ := Aside0.mk ((by rw [hg]; exact (below_size (by repeat (first | (with_reducible first | exact HB.out | apply below_alloc | apply pw_below_drewN | apply below_drew1) | exact HB.out))) : w.heap.size ≤ gb222)); clear HB; have HB := n0_; have BK222 := n1_; have GW222 := n2_; have GE222 := n3_; clear n0_ n1_ n2_ n3_; clear hb hbox hg; have hcz11_0 : w10.cell? ⟨gb222, 0, none⟩ = some (.int .i64 0) := (blk_cell BK222.out 0).trans rfl; have hcz11_1 : w10.cell? ⟨gb222, 1, none⟩ = some (.int .i64 0) := (blk_cell BK222.out 1).trans rfl; have hfz11_0 := blk_frozen BK222.out 0; have hfz11_1 := blk_frozen BK222.out 1))
       repeat (go_quiet (first | ((with_reducible refine gate_dst (N := 8) rfl ?_); refine box_event ?hg (N := 8) ?hd (cs := #[.int .i64 0, .int .i64 0]) (t := 28) ?hr ?_; (case hd => rfl); (case hg => rfl); (case hr => first | (go_simp; done) | (go_simp; rfl)); intro gb222 hg w10 hbox hb; have n0_ := Aside0.mk (below_step (by repeat (first | (with_reducible first | exact HB.out | apply below_alloc | apply pw_below_drewN | apply below_drew1) | exact HB.out)) hb); have n1_ := Aside0.mk (hbox); have n2_ := Aside0.mk ((by rw [hg]; exact (below_size (by repeat (first | (with_reducible first | exact HB.out | apply below_alloc | apply pw_below_drewN | apply below_drew1) | exact HB.out))) : w.heap.size ≤ gb222)); have n3_ := Aside0.mk ((by rw [hg]; exact (below_size (by repeat (first | (with_reducible first | exact HB.out | apply below_alloc | apply pw_below_drewN | apply below_drew1) | exact HB.out))) : w.heap.size ≤ gb222)); clear HB; have HB := n0_; have BK222 := n1_; have GW222 := n2_; have GE222 := n3_; clear n0_ n1_ n2_ n3_; clear hb hbox hg; have hcz11_0 : w10.cell? ⟨gb222, 0, none⟩ = some (.int .i64 0) := (blk_cell BK222.out 0).trans rfl; have hcz11_1 : w10.cell? ⟨gb222, 1, none⟩ = some (.int .i64 0) := (blk_cell BK222.out 1).trans rfl; have hfz11_0 := blk_frozen BK222.out 0; have hfz11_1 := blk_frozen BK222.out 1)); try go_wp2_with (first | ((with_reducible refine gate_dst (N := 8) rfl ?_); refine box_event ?hg (N := 8) ?hd (cs := #[.int .i64 0, .int .i64 0]) (t := 28) ?hr ?_; (case hd => rfl); (case hg => rfl); (case hr => first | (go_simp; done) | (go_simp; rfl)); intro gb222 hg w10 hbox hb; have n0_ := Aside0.mk (below_step (by repeat (first | (with_reducible first | exact HB.out | apply below_alloc | apply pw_below_drewN | apply below_drew1) | exact HB.out)) hb); have n1_ := Aside0.mk (hbox); have n2_ := Aside0.mk ((by rw [hg]; exact (below_size (by repeat (first | (with_reducible first | exact HB.out | apply below_alloc | apply pw_below_drewN | apply below_drew1) | exact HB.out))) : w.heap.size ≤ gb222)); have n3_ := Aside0.mk ((by rw [hg]; exact (below_size (by repeat (first | (with_reducible first | exact HB.out | apply below_alloc | apply pw_below_drewN | apply below_drew1) | exact HB.out))) : w.heap.size ≤ gb222)); clear HB; have HB := n0_; have BK222 := n1_; have GW222 := n2_; have GE222 := n3_; clear n0_ n1_ n2_ n3_; clear hb hbox hg; have hcz11_0 : w10.cell? ⟨gb222, 0, none⟩ = some (.int .i64 0) := (blk_cell BK222.out 0).trans rfl; have hcz11_1 : w10.cell? ⟨gb222, 1, none⟩ = some (.int .i64 0) := (blk_cell BK222.out 1).trans rfl; have hfz11_0 := blk_frozen BK222.out 0; have hfz11_1 := blk_frozen BK222.out 1)))
       go_roundg k1
       case measure => have := HK1.out; omega
       case rel => exact ⟨(ji6), (ji7), (ji8), (ji9), (wrap64 (x11_1 + 1)), (by first | rfl | (simp; done) | (simp only [← hji6] <;> (first | rfl | (simp; done) | (simp [mn, mx]; done))) | (simp [*]; done)), (by first | rfl | (simp; done) | (simp only [← hji7] <;> (first | rfl | (simp; done) | (simp [mn, mx]; done))) | (simp [*]; done)), (by first | rfl | (simp; done) | (simp only [← hji8] <;> (first | rfl | (simp; done) | (simp [mn, mx]; done))) | (simp [*]; done)), (by first | rfl | (simp; done) | (simp only [← hji9] <;> (first | rfl | (simp; done) | (simp [mn, mx]; done))) | (simp [*]; done)), (by first | rfl | (simp; done) | (simp [*]; done)), H', ⟨by have := HK1.out; omega⟩, ⟨by repeat (first | (with_reducible first | exact HB.out | apply below_alloc | apply pw_below_drewN | apply below_drew1 | refine below_set ?_ GE222.out) | exact HB.out)⟩⟩
      ·rw [if_neg c5] at H
       have c5b0 : (x11_1 == 0) = false := beq_eq_false_iff_ne.mpr c5
       have c5b1 : (x11_1 != 0) = true := bne_iff_ne.mpr c5
       obtain ⟨ji12, hji12⟩ : ∃ j_ : Int, (mn x2_1 ((rd_T28 l0 x11_1).f0)) = j_ := ⟨_, rfl⟩
       replace H : (curve_Box.l0 k1 l0 ji12 (mn x3_1 ((rd_T28 l0 x11_1).f1)) (mx x4_1 ((rd_T28 l0 x11_1).f0)) (mx x5_1 ((rd_T28 l0 x11_1).f1)) l0 (l0.length : Int) (wrap64 (x11_1 + 1))) = some (r1, r2, r3, r4, r5) := by first | (rw [hji12] at H; exact H) | (simp only [hji12] at H ⊢; exact H)
       have hji12_ : (if ((rd_T28 l0 x11_1).f0) < x2_1 then ((rd_T28 l0 x11_1).f0) else x2_1) = ji12 := hji12
       obtain ⟨ji13, hji13⟩ : ∃ j_ : Int, (mn x3_1 ((rd_T28 l0 x11_1).f1)) = j_ := ⟨_, rfl⟩
       replace H : (curve_Box.l0 k1 l0 ji12 ji13 (mx x4_1 ((rd_T28 l0 x11_1).f0)) (mx x5_1 ((rd_T28 l0 x11_1).f1)) l0 (l0.length : Int) (wrap64 (x11_1 + 1))) = some (r1, r2, r3, r4, r5) := by first | (rw [hji13] at H; exact H) | (simp only [hji13] at H ⊢; exact H)
       have hji13_ : (if ((rd_T28 l0 x11_1).f1) < x3_1 then ((rd_T28 l0 x11_1).f1) else x3_1) = ji13 := hji13
       obtain ⟨ji14, hji14⟩ : ∃ j_ : Int, (mx x4_1 ((rd_T28 l0 x11_1).f0)) = j_ := ⟨_, rfl⟩
       replace H : (curve_Box.l0 k1 l0 ji12 ji13 ji14 (mx x5_1 ((rd_T28 l0 x11_1).f1)) l0 (l0.length : Int) (wrap64 (x11_1 + 1))) = some (r1, r2, r3, r4, r5) := by first | (rw [hji14] at H; exact H) | (simp only [hji14] at H ⊢; exact H)
       have hji14_ : (if x4_1 < ((rd_T28 l0 x11_1).f0) then ((rd_T28 l0 x11_1).f0) else x4_1) = ji14 := hji14
       obtain ⟨ji15, hji15⟩ : ∃ j_ : Int, (mx x5_1 ((rd_T28 l0 x11_1).f1)) = j_ := ⟨_, rfl⟩
       replace H : (curve_Box.l0 k1 l0 ji12 ji13 ji14 ji15 l0 (l0.length : Int) (wrap64 (x11_1 + 1))) = some (r1, r2, r3, r4, r5) := by first | (rw [hji15] at H; exact H) | (simp only [hji15] at H ⊢; exact H)
       have hji15_ : (if x5_1 < ((rd_T28 l0 x11_1).f1) then ((rd_T28 l0 x11_1).f1) else x5_1) = ji15 := hji15
       have H' := Aside0.mk H
       clear H
       have p221 : 0 ≤ (x11_1 : Int) := of_decide_eq_true (by first | (with_reducible assumption) | assumption)
       have q221 : x11_1 < (l0.length : Int) := of_decide_eq_true (by first | (with_reducible assumption) | assumption)
       obtain ⟨ad221, e221, hx221_0, hx221_1⟩ := at_T28 HR0.out x11_1 p221 q221
       cases e221
       replace hx221_0 := (HB.out.cell (World.block_lt_of_cell? w _ hx221_0)).trans hx221_0
       replace hx221_1 := (HB.out.cell (World.block_lt_of_cell? w _ hx221_1)).trans hx221_1
       replace p221 := eq_true p221
       replace q221 := eq_true q221
       go_wp2_with (first | ((with_reducible refine gate_dst (N := 8) rfl ?_); refine box_event ?hg (N := 8) ?hd (cs := #[.int .i64 0, .int .i64 0]) (t := 28) ?hr ?_; (case hd => rfl); (case hg => rfl); (case hr => first | (go_simp; done) | (go_simp; rfl)); intro gb222 hg w16 hbox hb; have n0_ := Aside0.mk (below_step (by repeat (first | (with_reducible first | exact HB.out | apply below_alloc | apply pw_below_drewN | apply below_drew1) | exact HB.out)) hb); have n1_ := Aside0.mk (hbox); have n2_ := Aside0.mk ((by rw [hg]; exact (below_size (by repeat (first | (with_reducible first | exact HB.out | apply below_alloc | apply pw_below_drewN | apply below_drew1) | exact HB.out))) : w.heap.size ≤ gb222)); have n3_ := Aside0.mk ((by rw [hg]; exact (below_size (by repeat (first | (with_reducible first | exact HB.out | apply below_alloc | apply pw_below_drewN | apply below_drew1) | exact HB.out))) : w.heap.size ≤ gb222)); clear HB; have HB := n0_; have BK222 := n1_; have GW222 := n2_; have GE222 := n3_; clear n0_ n1_ n2_ n3_; clear hb hbox hg; have hcz17_0 : w16.cell? ⟨gb222, 0, none⟩ = some (.int .i64 0) := (blk_cell BK222.out 0).trans rfl; have hcz17_1 : w16.cell? ⟨gb222, 1, none⟩ = some (.int .i64 0) := (blk_cell BK222.out 1).trans rfl; have hfz17_0 := blk_frozen BK222.out 0; have hfz17_1 := blk_frozen BK222.out 1))
       repeat (go_quiet (first | ((with_reducible refine gate_dst (N := 8) rfl ?_); refine box_event ?hg (N := 8) ?hd (cs := #[.int .i64 0, .int .i64 0]) (t := 28) ?hr ?_; (case hd => rfl); (case hg => rfl); (case hr => first | (go_simp; done) | (go_simp; rfl)); intro gb222 hg w16 hbox hb; have n0_ := Aside0.mk (below_step (by repeat (first | (with_reducible first | exact HB.out | apply below_alloc | apply pw_below_drewN | apply below_drew1) | exact HB.out)) hb); have n1_ := Aside0.mk (hbox); have n2_ := Aside0.mk ((by rw [hg]; exact (below_size (by repeat (first | (with_reducible first | exact HB.out | apply below_alloc | apply pw_below_drewN | apply below_drew1) | exact HB.out))) : w.heap.size ≤ gb222)); have n3_ := Aside0.mk ((by rw [hg]; exact (below_size (by repeat (first | (with_reducible first | exact HB.out | apply below_alloc | apply pw_below_drewN | apply below_drew1) | exact HB.out))) : w.heap.size ≤ gb222)); clear HB; have HB := n0_; have BK222 := n1_; have GW222 := n2_; have GE222 := n3_; clear n0_ n1_ n2_ n3_; clear hb hbox hg; have hcz17_0 : w16.cell? ⟨gb222, 0, none⟩ = some (.int .i64 0) := (blk_cell BK222.out 0).trans rfl; have hcz17_1 : w16.cell? ⟨gb222, 1, none⟩ = some (.int .i64 0) := (blk_cell BK222.out 1).trans rfl; have hfz17_0 := blk_frozen BK222.out 0; have hfz17_1 := blk_frozen BK222.out 1)); try go_wp2_with (first | ((with_reducible refine gate_dst (N := 8) rfl ?_); refine box_event ?hg (N := 8) ?hd (cs := #[.int .i64 0, .int .i64 0]) (t := 28) ?hr ?_; (case hd => rfl); (case hg => rfl); (case hr => first | (go_simp; done) | (go_simp; rfl)); intro gb222 hg w16 hbox hb; have n0_ := Aside0.mk (below_step (by repeat (first | (with_reducible first | exact HB.out | apply below_alloc | apply pw_below_drewN | apply below_drew1) | exact HB.out)) hb); have n1_ := Aside0.mk (hbox); have n2_ := Aside0.mk ((by rw [hg]; exact (below_size (by repeat (first | (with_reducible first | exact HB.out | apply below_alloc | apply pw_below_drewN | apply below_drew1) | exact HB.out))) : w.heap.size ≤ gb222)); have n3_ := Aside0.mk ((by rw [hg]; exact (below_size (by repeat (first | (with_reducible first | exact HB.out | apply below_alloc | apply pw_below_drewN | apply below_drew1) | exact HB.out))) : w.heap.size ≤ gb222)); clear HB; have HB := n0_; have BK222 := n1_; have GW222 := n2_; have GE222 := n3_; clear n0_ n1_ n2_ n3_; clear hb hbox hg; have hcz17_0 : w16.cell? ⟨gb222, 0, none⟩ = some (.int .i64 0) := (blk_cell BK222.out 0).trans rfl; have hcz17_1 : w16.cell? ⟨gb222, 1, none⟩ = some (.int .i64 0) := (blk_cell BK222.out 1).trans rfl; have hfz17_0 := blk_frozen BK222.out 0; have hfz17_1 := blk_frozen BK222.out 1)))
       go_roundg k1
       case measure => have := HK1.out; omega
       case rel => exact ⟨(ji12), (ji13), (ji14), (ji15), (wrap64 (x11_1 + 1)), (by first | rfl | (simp; done) | (simp only [← hji12] <;> (first | rfl | (simp; done) | (simp [mn, mx]; done))) | (simp [*]; done)), (by first | rfl | (simp; done) | (simp only [← hji13] <;> (first | rfl | (simp; done) | (simp [mn, mx]; done))) | (simp [*]; done)), (by first | rfl | (simp; done) | (simp only [← hji14] <;> (first | rfl | (simp; done) | (simp [mn, mx]; done))) | (simp [*]; done)), (by first | rfl | (simp; done) | (simp only [← hji15] <;> (first | rfl | (simp; done) | (simp [mn, mx]; done))) | (simp [*]; done)), (by first | rfl | (simp; done) | (simp [*]; done)), H', ⟨by have := HK1.out; omega⟩, ⟨by repeat (first | (with_reducible first | exact HB.out | apply below_alloc | apply pw_below_drewN | apply below_drew1 | refine below_set ?_ GE222.out) | exact HB.out)⟩⟩
     ·rw [if_neg c4] at H
      exact absurd H (by simp)
    ·rw [if_neg c3] at H
     exact absurd H (by simp)
   ·rw [if_neg c2] at H
    have c2b0 : decide (x11_1 < (l0.length : Int)) = false := decide_eq_false c2
    clear c2
    simp only [Option.some.injEq, Prod.mk.injEq] at H
    obtain ⟨rfl, rfl, rfl, rfl, rfl⟩ := H
    go_wp2
    repeat (go_quiet (fail); try go_wp2)
    refine bodyPost_ret (results_list (rs := [.tmp 2, .tmp 3, .tmp 4, .tmp 5, .tmp 6]) rfl (by simp) (.tmp (.tmp (.tmp (.tmp (.tmp .nil)))))) rfl ?_
    exact ⟨by first | rfl | (simp [errW_none, errW_some] <;> rfl) | (simp [*, errW_none, errW_some] <;> rfl), by repeat (first | (with_reducible first | exact HB.out | apply below_alloc | apply pw_below_drewN | apply below_drew1) | exact HB.out)⟩

end Go.Proofs.Ytfpcejkjabmeeaa.QCI
