-- Written by a program of this session (myprint.py) out of the translation; Lean checks it.
import Derived.Test.YtfpcejkjabmeeaaQCIx0
import Derived.Test.YtfpcejkjabmeeaaQCIx4
import Derived.Test.YtfpcejkjabmeeaaQCIx5
import Derived.Test.YtfpcejkjabmeeaaFMixCI
import Derived.Test.YtfpcejkjabmeeaaArrEq
import Derived.Test.YtfpcejkjabmeeaaZip
namespace Go.Proofs.Ytfpcejkjabmeeaa.QCI
open Go.Proofs.Ytfpcejkjabmeeaa.Zip Go.RowKit Go.Proofs.YtfpcejkjabmeeaaW.PrintWords Go.Proofs.YtfpcejkjabmeeaaW.PrintLast Go.Proofs.YtfpcejkjabmeeaaW.PrintMore
attribute [local go_sem] max2_int min2_int max_two min_two max_three min_three max_four min_four   -- for this text's walks alone
set_option linter.unusedVariables false
set_option linter.unusedSimpArgs false

/-! ### frisketlaw19_CurveInside: function 4 -/
mutual
def frisketlaw19_CurveInside.j0 : Nat → Int → Int → List Int → Bool → Option (Bool)
 | 0, _, _, _, _ => none
 | k + 1, x1, x5, x6, x32 => if x32 = true then ((frisketlaw19_sane.f k).bind fun t227 => (some t227)) else ((curve_Points.f k x5 x6 (wrap64 (1 + (wrap64 (Int.tmod (IntKind.u64.wrap (x1)) 64))))).bind fun bt228 => (if bt228.2 = 0 then (if x5 = 101 then (if 0 < (x6.length : Int) then (if 1 < (x6.length : Int) then (frisketlaw19_CurveInside.j1 k x5 x6 bt228.1 (([(⟨0, 0⟩ : S28), (⟨rd x6 0, rd x6 1⟩ : S28)] : List (S28)))) else (none)) else (none)) else (frisketlaw19_CurveInside.j1 k x5 x6 bt228.1 (([(⟨0, 0⟩ : S28)] : List (S28))))) else (none)))
def frisketlaw19_CurveInside.j1 : Nat → Int → List Int → List (S28) → List (S28) → Option (Bool)
 | 0, _, _, _, _ => none
 | k + 1, x5, x6, x7, x9 => frisketlaw19_CurveInside.l0 k x5 x6 x7 x9 0
def frisketlaw19_CurveInside.l0 : Nat → Int → List Int → List (S28) → List (S28) → Int → Option (Bool)
 | 0, _, _, _, _, _ => none
 | k + 1, x5, x6, x7, x9, x10 => if (wrap64 (x10 + 1)) < (x6.length : Int) then (if x5 = 126 then (if 0 ≤ (wrap64 ((x9.length : Int) - 1)) then (if (wrap64 ((x9.length : Int) - 1)) < (x9.length : Int) then (if 0 ≤ x10 then (if x10 < (x6.length : Int) then (if 0 ≤ (wrap64 (x10 + 1)) then (if x9.length < 8796093022208 then (frisketlaw19_CurveInside.l0 k x5 x6 x7 (x9 ++ [(⟨wrap64 (((rd_T28 x9 (wrap64 ((x9.length : Int) - 1))).f0) + (rd x6 x10)), wrap64 (((rd_T28 x9 (wrap64 ((x9.length : Int) - 1))).f1) + (rd x6 (wrap64 (x10 + 1))))⟩ : S28)]) (wrap64 (x10 + 2))) else (none)) else (none)) else (none)) else (none)) else (none)) else (none)) else ((frisketref19_Box.f k x9).bind fun bt247 => ((curve_Box.f k x7).bind fun bt252 => (if bt252.2.2.2.2 = true then (if bt252.1 ≥ (wrap64 (bt247.1 - 1)) then (if bt252.2.1 ≥ (wrap64 (bt247.2.1 - 1)) then (if bt252.2.2.1 ≤ bt247.2.2.1 then (if bt252.2.2.2.1 ≤ bt247.2.2.2.1 then ((frisketlaw19_sane.f k).bind fun t257 => (some t257)) else (none)) else (none)) else (none)) else (none)) else (none))))) else ((frisketref19_Box.f k x9).bind fun bt258 => ((curve_Box.f k x7).bind fun bt263 => (if bt263.2.2.2.2 = true then (if bt263.1 ≥ (wrap64 (bt258.1 - 1)) then (if bt263.2.1 ≥ (wrap64 (bt258.2.1 - 1)) then (if bt263.2.2.1 ≤ bt258.2.2.1 then (if bt263.2.2.2.1 ≤ bt258.2.2.2.1 then ((frisketlaw19_sane.f k).bind fun t268 => (some t268)) else (none)) else (none)) else (none)) else (none)) else (none))))
end
def frisketlaw19_CurveInside.f (k : Nat) (l0 : List Int) (a1 : Int) : Option (Bool) := (frisketlaw19_Stroke.f k l0).bind fun bt223 => (if bt223.1 = 126 then (frisketlaw19_CurveInside.j0 k a1 bt223.1 bt223.2 false) else (frisketlaw19_CurveInside.j0 k a1 bt223.1 bt223.2 (bt223.1 != 101)))
theorem frisketlaw19_CurveInside.mono_l : ∀ k, (∀ y0 y1 y2 y3, LeO (frisketlaw19_CurveInside.j0 k y0 y1 y2 y3) (frisketlaw19_CurveInside.j0 (k + 1) y0 y1 y2 y3)) ∧ (∀ y0 y1 y2 y3, LeO (frisketlaw19_CurveInside.j1 k y0 y1 y2 y3) (frisketlaw19_CurveInside.j1 (k + 1) y0 y1 y2 y3)) ∧ (∀ y0 y1 y2 y3 y4, LeO (frisketlaw19_CurveInside.l0 k y0 y1 y2 y3 y4) (frisketlaw19_CurveInside.l0 (k + 1) y0 y1 y2 y3 y4))
 | 0 => ⟨fun _ _ _ _ r h => by simp [frisketlaw19_CurveInside.j0] at h, fun _ _ _ _ r h => by simp [frisketlaw19_CurveInside.j1] at h, fun _ _ _ _ _ r h => by simp [frisketlaw19_CurveInside.l0] at h⟩
 | k + 1 => by
  obtain ⟨ih0, ih1, ih2⟩ := frisketlaw19_CurveInside.mono_l k
  refine ⟨?_, ?_, ?_⟩
  ·intro y0 y1 y2 y3
   unfold frisketlaw19_CurveInside.j0
   repeat' first
   | (with_reducible exact ih0 _ _ _ _)
   | (with_reducible exact ih1 _ _ _ _)
   | (with_reducible exact ih2 _ _ _ _ _)
   | (with_reducible exact curve_Box.mono _ _)
   | (with_reducible exact curve_Points.mono _ _ _ _)
   | (with_reducible exact frisketlaw19_Stroke.mono _ _)
   | (with_reducible exact frisketlaw19_sane.mono _)
   | (with_reducible exact frisketref19_Box.mono _ _)
   | (with_reducible exact LeO.refl _)
   | (with_reducible exact LeO.none _)
   | (with_reducible refine LeO.ite ?_ ?_)
   | (with_reducible refine LeO.bind ?_ (fun _ => ?_))
   | exact ih0 _ _ _ _
   | exact ih1 _ _ _ _
   | exact ih2 _ _ _ _ _
   | exact curve_Box.mono _ _
   | exact curve_Points.mono _ _ _ _
   | exact frisketlaw19_Stroke.mono _ _
   | exact frisketlaw19_sane.mono _
   | exact frisketref19_Box.mono _ _
   | exact LeO.none _
   | refine LeO.ite ?_ ?_
   | refine LeO.bind ?_ (fun _ => ?_)
  ·intro y0 y1 y2 y3
   unfold frisketlaw19_CurveInside.j1
   repeat' first
   | (with_reducible exact ih0 _ _ _ _)
   | (with_reducible exact ih1 _ _ _ _)
   | (with_reducible exact ih2 _ _ _ _ _)
   | (with_reducible exact curve_Box.mono _ _)
   | (with_reducible exact curve_Points.mono _ _ _ _)
   | (with_reducible exact frisketlaw19_Stroke.mono _ _)
   | (with_reducible exact frisketlaw19_sane.mono _)
   | (with_reducible exact frisketref19_Box.mono _ _)
   | (with_reducible exact LeO.refl _)
   | (with_reducible exact LeO.none _)
   | (with_reducible refine LeO.ite ?_ ?_)
   | (with_reducible refine LeO.bind ?_ (fun _ => ?_))
   | exact ih0 _ _ _ _
   | exact ih1 _ _ _ _
   | exact ih2 _ _ _ _ _
   | exact curve_Box.mono _ _
   | exact curve_Points.mono _ _ _ _
   | exact frisketlaw19_Stroke.mono _ _
   | exact frisketlaw19_sane.mono _
   | exact frisketref19_Box.mono _ _
   | exact LeO.none _
   | refine LeO.ite ?_ ?_
   | refine LeO.bind ?_ (fun _ => ?_)
  ·intro y0 y1 y2 y3 y4
   unfold frisketlaw19_CurveInside.l0
   repeat' first
   | (with_reducible exact ih0 _ _ _ _)
   | (with_reducible exact ih1 _ _ _ _)
   | (with_reducible exact ih2 _ _ _ _ _)
   | (with_reducible exact curve_Box.mono _ _)
   | (with_reducible exact curve_Points.mono _ _ _ _)
   | (with_reducible exact frisketlaw19_Stroke.mono _ _)
   | (with_reducible exact frisketlaw19_sane.mono _)
   | (with_reducible exact frisketref19_Box.mono _ _)
   | (with_reducible exact LeO.refl _)
   | (with_reducible exact LeO.none _)
   | (with_reducible refine LeO.ite ?_ ?_)
   | (with_reducible refine LeO.bind ?_ (fun _ => ?_))
   | exact ih0 _ _ _ _
   | exact ih1 _ _ _ _
   | exact ih2 _ _ _ _ _
   | exact curve_Box.mono _ _
   | exact curve_Points.mono _ _ _ _
   | exact frisketlaw19_Stroke.mono _ _
   | exact frisketlaw19_sane.mono _
   | exact frisketref19_Box.mono _ _
   | exact LeO.none _
   | refine LeO.ite ?_ ?_
   | refine LeO.bind ?_ (fun _ => ?_)
theorem frisketlaw19_CurveInside.mono : ∀ a0 a1 k, LeO (frisketlaw19_CurveInside.f k a0 a1) (frisketlaw19_CurveInside.f (k + 1) a0 a1) := by
 intro a0 a1 k
 obtain ⟨ih0, ih1, ih2⟩ := frisketlaw19_CurveInside.mono_l k
 unfold frisketlaw19_CurveInside.f
 repeat' first
   | (with_reducible exact ih0 _ _ _ _)
   | (with_reducible exact ih1 _ _ _ _)
   | (with_reducible exact ih2 _ _ _ _ _)
   | (with_reducible exact curve_Box.mono _ _)
   | (with_reducible exact curve_Points.mono _ _ _ _)
   | (with_reducible exact frisketlaw19_Stroke.mono _ _)
   | (with_reducible exact frisketlaw19_sane.mono _)
   | (with_reducible exact frisketref19_Box.mono _ _)
   | (with_reducible exact LeO.refl _)
   | (with_reducible exact LeO.none _)
   | (with_reducible refine LeO.ite ?_ ?_)
   | (with_reducible refine LeO.bind ?_ (fun _ => ?_))
   | exact ih0 _ _ _ _
   | exact ih1 _ _ _ _
   | exact ih2 _ _ _ _ _
   | exact curve_Box.mono _ _
   | exact curve_Points.mono _ _ _ _
   | exact frisketlaw19_Stroke.mono _ _
   | exact frisketlaw19_sane.mono _
   | exact frisketref19_Box.mono _ _
   | exact LeO.none _
   | refine LeO.ite ?_ ?_
   | refine LeO.bind ?_ (fun _ => ?_)
def frisketlaw19_CurveInside.T9 : Bool × List (List Nat × List Nat) := (true, [([], []), ([], []), ([1], [1]), ([2], [2]), ([], []), ([4], [4]), ([5], [5]), ([3, 6], [3, 6]), ([0, 7], [0, 7]), ([8, 0, 1, 2, 3, 4, 5, 6, 7, 8], [8])])
def frisketlaw19_CurveInside.B9 : List Nat := [0, 0, 2, 6, 0, 16, 48, 126, 255, 511]
theorem frisketlaw19_CurveInside.tab9 : rtab .any (opsOf Try.f4 9) = frisketlaw19_CurveInside.T9 := by kernel_rfl
theorem frisketlaw19_CurveInside.bits9 : waitsOk frisketlaw19_CurveInside.T9.2 frisketlaw19_CurveInside.B9 = true := by kernel_rfl
def frisketlaw19_CurveInside.T14 : Bool × List (List Nat × List Nat) := (true, [([], []), ([], []), ([1], [1]), ([], []), ([], []), ([3, 4], [3, 4]), ([5], [5]), ([2, 6], [2, 6]), ([], []), ([8], [8]), ([], []), ([], []), ([11], [11]), ([10, 12], [10, 12]), ([13], [13]), ([9, 14], [9, 14]), ([7, 15], [7, 15]), ([16], [16]), ([0, 17], [0, 17]), ([18, 18, 0, 1, 2, 3, 4, 5, 6, 7, 8, 9, 10, 11, 12, 13, 14, 15, 16, 17, 18], [0, 18])])
def frisketlaw19_CurveInside.B14 : List Nat := [0, 0, 2, 0, 0, 24, 56, 126, 0, 256, 0, 0, 2048, 7168, 15360, 32512, 65534, 131070, 262143, 524287]
theorem frisketlaw19_CurveInside.tab14 : rtab .any (opsOf Try.f4 14) = frisketlaw19_CurveInside.T14 := by kernel_rfl
theorem frisketlaw19_CurveInside.bits14 : waitsOk frisketlaw19_CurveInside.T14.2 frisketlaw19_CurveInside.B14 = true := by kernel_rfl
set_option maxHeartbeats 8000000 in
set_option maxRecDepth 100000 in
theorem frisketlaw19_CurveInside.calls (k : Nat) (A0 : Option Addr) (c0 : Nat) (l0 : List Int) (a1 : Int) (r : Bool) (w : World) (hr0 : Kd.C (Kd.int .i64) w A0 l0.length l0) (hc0 : l0.length ≤ c0) (h : frisketlaw19_CurveInside.f k l0 a1 = some r) :
  Calls Try.prog 4 #[.slice A0 l0.length c0, .int .i64 a1] w fun e w' => e = .returned (.bool r) ∧ Below w.heap.size w w' := by
 have hu28 := Try.underlying28
 have HR0 := Aside0.mk hr0
 have HC0 := Aside0.mk hc0
 clear hr0 hc0
 have HB := Aside0.mk (Below.refl w.heap.size w)
 have H : ((frisketlaw19_Stroke.f k l0).bind fun bt223 => (if bt223.1 = 126 then (frisketlaw19_CurveInside.j0 k a1 bt223.1 bt223.2 false) else (frisketlaw19_CurveInside.j0 k a1 bt223.1 bt223.2 (bt223.1 != 101)))) = some r := h
 clear h
 replace H := Option.bind_eq_some_iff.mp H
 obtain ⟨⟨t223, t224⟩, A30, H⟩ := H
 replace H : (if t223 = 126 then (frisketlaw19_CurveInside.j0 k a1 t223 t224 false) else (frisketlaw19_CurveInside.j0 k a1 t223 t224 (t223 != 101))) = some r := H
 have A3 := Aside0.mk A30
 clear A30
 have HC4 := Aside0.mk H
 clear H
 go_enter Try.func4, Try.ntmps4
 go_upto_region 2 with (first | ((with_reducible refine gate_callee (f := 8) rfl ?_); refine goesL_ (some 24) rfl rfl Try.func8 (by kernel_rfl) rfl #[.slice A0 l0.length c0] rfl (by (try simp only [List.map_toArray, List.map_cons, List.map_nil]); first | done | rfl | (simp only [List.length_drop, List.length_take]; rfl)) ?_; (with_reducible refine (frisketlaw19_Stroke.calls k _ _ l0 t223 t224 _ ?side1 ?side2 A3.out).mono ?_); (case side1 => repeat (first | exact HR0.out | (with_reducible refine Kd.C_alloc ?_ _) | (with_reducible refine Kd.C_drewN ?_ _) | (with_reducible refine Kd.C_drew ?_))); (case side2 => exact HC0.out); rintro e w5 ⟨v225, rfl, ho0, hb⟩; refine ⟨_, rfl, ?_⟩; have n0_ := Aside0.mk (Kd.R_lower ho0 (below_size (by repeat (first | (with_reducible first | exact HB.out | apply below_alloc | apply pw_below_drewN | apply below_drew1) | exact HB.out)))); have n1_ := Aside0.mk (below_step (by repeat (first | (with_reducible first | exact HB.out | apply below_alloc | apply pw_below_drewN | apply below_drew1) | exact HB.out)) hb); clear HB; have HO226 := n0_; have HB := n1_; clear n0_ n1_; (try clear hb); (try clear hb2); (try clear hk); (try clear hi); (try clear ho0)))
 (try simp only [Act.put, List.setIfInBounds_toArray, List.set_cons_zero, List.set_cons_succ])
 go_cut [32] (fun v32 wc => ∃ (kq : Nat) (x32_3 : Bool), v32 = .bool x32_3 ∧ Aside0 (frisketlaw19_CurveInside.j0 kq a1 t223 t224 x32_3 = some r) ∧ Aside0 (kq ≤ k) ∧ Aside0 (Kd.R (Kd.int .i64) 3 wc w.heap.size (fun _ => True) v225 t224) ∧ Aside0 (Below w.heap.size w wc))
 case first =>
  have H := HC4.out
  clear HC4
  by_cases c6 : t223 = 126
  ·rw [if_pos c6] at H
   have c6b0 : (t223 == 126) = true := beq_iff_eq.mpr c6
   have c6b1 : (t223 != 126) = false := bne_eq_false_iff_eq.mpr c6
   clear c6
   (first | rw [c6b0] | (simp only [i64_w, i32_w]; rw [c6b0]) | skip)
   have H' := Aside0.mk H
   clear H
   go_wp2
   go_meet
   case rel => exact ⟨_, (false), (by first | rfl | (simp; done) | (simp [*]; done)), H', ⟨by first | omega | exact Nat.le_refl _⟩, ⟨by (with_reducible repeat (first | apply Kd.R_alloc | apply Kd.R_drewN | apply Kd.R_drew)); exact HO226.out⟩, ⟨by repeat (first | (with_reducible first | exact HB.out | apply below_alloc | apply pw_below_drewN | apply below_drew1) | exact HB.out)⟩⟩
  ·rw [if_neg c6] at H
   have c6b0 : (t223 == 126) = false := beq_eq_false_iff_ne.mpr c6
   have c6b1 : (t223 != 126) = true := bne_iff_ne.mpr c6
   (first | rw [c6b0] | (simp only [i64_w, i32_w]; rw [c6b0]) | skip)
   have H' := Aside0.mk H
   clear H
   go_wp2
   go_meet
   case rel => exact ⟨_, ((t223 != 101)), (by first | rfl | (simp; done) | (simp [*]; done)), H', ⟨by first | omega | exact Nat.le_refl _⟩, ⟨by (with_reducible repeat (first | apply Kd.R_alloc | apply Kd.R_drewN | apply Kd.R_drew)); exact HO226.out⟩, ⟨by repeat (first | (with_reducible first | exact HB.out | apply below_alloc | apply pw_below_drewN | apply below_drew1) | exact HB.out)⟩⟩
 case rest =>
  clear HC4
  try clear p2
  try clear c4
  try clear c6
  try clear c6b0
  try clear c6b1
  obtain ⟨kq, x32_3, rfl, HA, HJ3, HO_6, HB⟩ := hcut
  cases kq with
  | zero => exact absurd HA.out (by simp [frisketlaw19_CurveInside.j0])
  | succ kj3 =>
   have H := HA.out
   clear HA
   simp only [frisketlaw19_CurveInside.j0] at H
   by_cases c7 : x32_3 = true
   ·subst c7
    have H1 : ((frisketlaw19_sane.f kj3).bind fun t227 => (some t227)) = some r := by rw [if_pos rfl] at H; exact H
    clear H
    have H := H1
    clear H1
    replace H := Option.bind_eq_some_iff.mp H
    obtain ⟨t227, A80, H⟩ := H
    replace H : (some t227) = some r := H
    have A8 := Aside0.mk A80
    clear A80
    obtain rfl := Option.some.inj H
    go_wp2_with (first | ((with_reducible refine gate_callee (f := 7) rfl ?_); refine goesL_ (some 33) rfl rfl Try.func7 (by kernel_rfl) rfl #[] rfl (by (try simp only [List.map_toArray, List.map_cons, List.map_nil]); first | done | rfl | (simp only [List.length_drop, List.length_take]; rfl)) ?_; (with_reducible refine (frisketlaw19_sane.calls kj3  t227 _ A8.out).mono ?_); rintro e w9 ⟨rfl, hb⟩; refine ⟨_, rfl, ?_⟩; have n0_ := Aside0.mk (Kd.R_below (by (with_reducible repeat (first | apply Kd.R_alloc | apply Kd.R_drewN | apply Kd.R_drew)); exact HO_6.out) hb); have n1_ := Aside0.mk (below_step (by repeat (first | (with_reducible first | exact HB.out | apply below_alloc | apply pw_below_drewN | apply below_drew1) | exact HB.out)) hb); clear HO_6; clear HB; have HO_6 := n0_; have HB := n1_; clear n0_ n1_; (try clear hb); (try clear hb2); (try clear hk); (try clear hi)))
    go_ret
    exact ⟨by first | rfl | (simp [errW_none, errW_some] <;> rfl) | (simp [*, errW_none, errW_some] <;> rfl), by repeat (first | (with_reducible first | exact HB.out | apply below_alloc | apply pw_below_drewN | apply below_drew1) | exact HB.out)⟩
   ·replace c7 := Bool.eq_false_iff.mpr c7
    subst c7
    have H1 : ((curve_Points.f kj3 t223 t224 (wrap64 (1 + (wrap64 (Int.tmod (IntKind.u64.wrap (a1)) 64))))).bind fun bt228 => (if bt228.2 = 0 then (if t223 = 101 then (if 0 < (t224.length : Int) then (if 1 < (t224.length : Int) then (frisketlaw19_CurveInside.j1 kj3 t223 t224 bt228.1 (([(⟨0, 0⟩ : S28), (⟨rd t224 0, rd t224 1⟩ : S28)] : List (S28)))) else (none)) else (none)) else (frisketlaw19_CurveInside.j1 kj3 t223 t224 bt228.1 (([(⟨0, 0⟩ : S28)] : List (S28))))) else (none))) = some r := by rw [if_neg (show ¬ (false = true) by decide)] at H; exact H
    clear H
    have H := H1
    clear H1
    replace H := Option.bind_eq_some_iff.mp H
    obtain ⟨⟨t228, t229⟩, A100, H⟩ := H
    replace H : (if t229 = 0 then (if t223 = 101 then (if 0 < (t224.length : Int) then (if 1 < (t224.length : Int) then (frisketlaw19_CurveInside.j1 kj3 t223 t224 t228 (([(⟨0, 0⟩ : S28), (⟨rd t224 0, rd t224 1⟩ : S28)] : List (S28)))) else (none)) else (none)) else (frisketlaw19_CurveInside.j1 kj3 t223 t224 t228 (([(⟨0, 0⟩ : S28)] : List (S28))))) else (none)) = some r := H
    have A10 := Aside0.mk A100
    clear A100
    by_cases c11 : t229 = 0
    ·rw [if_pos c11] at H
     have c11b0 : (t229 == 0) = true := beq_iff_eq.mpr c11
     have c11b1 : (t229 != 0) = false := bne_eq_false_iff_eq.mpr c11
     clear c11
     obtain ⟨y232, hy232⟩ : ∃ y_ : List (S28), y_ = (([(⟨0, 0⟩ : S28)] : List (S28))) := ⟨_, rfl⟩
     replace H : (if t223 = 101 then (if 0 < (t224.length : Int) then (if 1 < (t224.length : Int) then (frisketlaw19_CurveInside.j1 kj3 t223 t224 t228 (([(⟨0, 0⟩ : S28), (⟨rd t224 0, rd t224 1⟩ : S28)] : List (S28)))) else (none)) else (none)) else (frisketlaw19_CurveInside.j1 kj3 t223 t224 t228 y232)) = some r := by first | (rw [hy232]; with_reducible exact H) | (have H2_ := (Option.bind_some _ _).symm.trans H; rw [hy232]; with_reducible exact H2_) | (have H2_ := (Option.bind_some _ _).symm.trans H; with_reducible exact H2_) | with_reducible exact H | (rw [hy232]; exact H) | exact H
     have Ny232 := Aside0.mk hy232
     clear hy232
     have HC12 := Aside0.mk H
     clear H
     obtain ⟨Ao13, co13, eo13⟩ := Kd.R_slice HO_6.out
     subst eo13
     go_upto_if 50 with (first | ((with_reducible refine gate_callee (f := 6) rfl ?_); refine goesL_ (some 42) rfl rfl Try.func6 (by kernel_rfl) rfl #[.int .u8 t223, .slice Ao13 t224.length co13, .int .i64 (wrap64 (1 + (wrap64 (Int.tmod (IntKind.u64.wrap (a1)) 64))))] rfl (by (try simp only [List.map_toArray, List.map_cons, List.map_nil]); first | done | rfl | (simp only [List.length_drop, List.length_take]; rfl)) ?_; (with_reducible refine (curve_Points.calls kj3 t223 _ _ t224 (wrap64 (1 + (wrap64 (Int.tmod (IntKind.u64.wrap (a1)) 64)))) t228 t229 _ ?side1 ?side2 A10.out).mono ?_); (case side1 => repeat (first | exact (Kd.R_reads' HO_6.out).2.2 | (with_reducible refine Kd.C_alloc ?_ _) | (with_reducible refine Kd.C_drewN ?_ _) | (with_reducible refine Kd.C_drew ?_))); (case side2 => exact (Kd.R_reads' HO_6.out).2.1); rintro e w14 ⟨v230, rfl, ho0, hb⟩; refine ⟨_, rfl, ?_⟩; have n0_ := Aside0.mk (Kd.R_below (by (with_reducible repeat (first | apply Kd.R_alloc | apply Kd.R_drewN | apply Kd.R_drew)); exact HO_6.out) hb); have n1_ := Aside0.mk (Kd.R_lower ho0 (below_size (by repeat (first | (with_reducible first | exact HB.out | apply below_alloc | apply pw_below_drewN | apply below_drew1) | exact HB.out)))); have n2_ := Aside0.mk (below_step (by repeat (first | (with_reducible first | exact HB.out | apply below_alloc | apply pw_below_drewN | apply below_drew1) | exact HB.out)) hb); clear HO_6; clear HB; have HO_6 := n0_; have HO231 := n1_; have HB := n2_; clear n0_ n1_ n2_; (try clear hb); (try clear hb2); (try clear hk); (try clear hi); (try clear ho0)) | ((with_reducible refine gate_dst (N := 48) rfl ?_); refine Kd.R_lit k28 _ 28 ?hg (N := 48) ?hd (xs := ([(⟨0, 0⟩ : S28)] : List (S28))) (inner := [.int .i64 0, .int .i64 0]) (ok := fun _ => True) (okp := fun _ => True) ?hr ?hp (fun _ hk => hk) trivial (Below.refl _ _) (Nat.le_refl _) (by simp) ?_; (case hd => rfl); (case hg => rfl); (case hr => first | (go_simp; done) | (go_simp; rfl)); (case hp => exact (Reps.c2 (show Kd.M k28 _ _ _ (⟨0, 0⟩ : S28) [.int .i64 0, .int .i64 0] from (k28_mkM _ _ _ (⟨0, 0⟩ : S28) )) (Reps.none _ _))); intro v233 w15 ho16 hb hg_ hnew_; clear hg_ hnew_; (first | rw [← Ny232.out] at ho16 | (simp only [Int.reduceToNat] at ho16; rw [← Ny232.out] at ho16)); have n0_ := Aside0.mk (Kd.R_below (by (with_reducible repeat (first | apply Kd.R_alloc | apply Kd.R_drewN | apply Kd.R_drew)); exact HO_6.out) hb); have n1_ := Aside0.mk (Kd.R_elder' (by (with_reducible repeat (first | apply Kd.R_alloc | apply Kd.R_drewN | apply Kd.R_drew)); exact HO231.out) (Kd.R_base ho16) hb); have n2_ := Aside0.mk (Kd.R_lower (Kd.R_new' ho16 (Kd.R_lt (by (with_reducible repeat (first | apply Kd.R_alloc | apply Kd.R_drewN | apply Kd.R_drew)); exact HO231.out))) (below_size (by repeat (first | (with_reducible first | exact HB.out | apply below_alloc | apply pw_below_drewN | apply below_drew1) | exact HB.out)))); have n3_ := Aside0.mk (below_step (by repeat (first | (with_reducible first | exact HB.out | apply below_alloc | apply pw_below_drewN | apply below_drew1) | exact HB.out)) hb); clear HO_6; clear HO231; clear HB; have HO_6 := n0_; have HO231 := n1_; have HO234 := n2_; have HB := n3_; clear n0_ n1_ n2_ n3_; clear hb ho16))
     (try simp only [Act.put, List.setIfInBounds_toArray, List.set_cons_zero, List.set_cons_succ])
     go_cut [9] (fun v9 wc => ∃ (kq : Nat) (x9_11 : List (S28)), Aside0 (frisketlaw19_CurveInside.j1 kq t223 t224 t228 x9_11 = some r) ∧ Aside0 (kq ≤ kj3) ∧ Aside0 (Kd.R (Kd.int .i64) 3 wc w.heap.size (fun _ => True) (.slice Ao13 t224.length co13) t224) ∧ Aside0 (Kd.R k28 28 wc w.heap.size (fun k_ => some k_ ≠ (v9 : Value).ownBlock) v230 t228) ∧ Aside0 (Kd.R k28 28 wc w.heap.size (fun k_ => some k_ ≠ (v230 : Value).ownBlock) v9 x9_11) ∧ Aside0 (Below w.heap.size w wc))
     case first =>
      have H := HC12.out
      clear HC12
      by_cases c17 : t223 = 101
      ·rw [if_pos c17] at H
       have c17b0 : (t223 == 101) = true := beq_iff_eq.mpr c17
       have c17b1 : (t223 != 101) = false := bne_eq_false_iff_eq.mpr c17
       clear c17
       (first | rw [c17b0] | (simp only [i64_w, i32_w]; rw [c17b0]) | skip)
       by_cases c18 : 0 < (t224.length : Int)
       ·rw [if_pos c18] at H
        have c18b0 : decide (0 < (t224.length : Int)) = true := decide_eq_true c18
        have c18b1 : decide (0 < t224.length) = true := decide_eq_true (by omega)
        clear c18
        by_cases c19 : 1 < (t224.length : Int)
        ·rw [if_pos c19] at H
         have c19b0 : decide (1 < (t224.length : Int)) = true := decide_eq_true c19
         have c19b1 : decide (1 < t224.length) = true := decide_eq_true (by omega)
         clear c19
         obtain ⟨y237, hy237⟩ : ∃ y_ : List (S28), y_ = (([(⟨0, 0⟩ : S28), (⟨rd t224 0, rd t224 1⟩ : S28)] : List (S28))) := ⟨_, rfl⟩
         replace H : (frisketlaw19_CurveInside.j1 kj3 t223 t224 t228 y237) = some r := by first | (rw [hy237]; with_reducible exact H) | (have H2_ := (Option.bind_some _ _).symm.trans H; rw [hy237]; with_reducible exact H2_) | (have H2_ := (Option.bind_some _ _).symm.trans H; with_reducible exact H2_) | with_reducible exact H | (rw [hy237]; exact H) | exact H
         have Ny237 := Aside0.mk hy237
         clear hy237
         have H' := Aside0.mk H
         clear H
         try go_wp2
         have n0_ := Aside0.mk (Kd.R_drew HO_6.out)
         have n1_ := Aside0.mk (Kd.R_drew HO231.out)
         have n2_ := Aside0.mk (Kd.R_drew HO234.out)
         have n3_ := Aside0.mk (below_drew1 HB.out)
         clear HO_6
         clear HO231
         clear HO234
         clear HB
         have HO_6 := n0_
         have HO231 := n1_
         have HO234 := n2_
         have HB := n3_
         clear n0_ n1_ n2_ n3_
         have p235 : 0 ≤ (0 : Int) := (by omega)
         have q235 : 0 < (t224.length : Int) := of_decide_eq_true (by first | (with_reducible assumption) | assumption)
         obtain ⟨ad235, e235, hx235_0⟩ := Kd.at_int (Kd.R_reads' HO_6.out).2.2 0 p235 q235
         cases e235
         have qi235 : (0 < t224.length) = True := eq_true (by omega)
         (try rw [show ((0 : Int)).toNat = 0 from rfl] at hx235_0)
         (try rw [Addr.add_zero'] at hx235_0)
         replace p235 := eq_true p235
         replace q235 := eq_true q235
         have p236 : 0 ≤ (1 : Int) := (by omega)
         have q236 : 1 < (t224.length : Int) := of_decide_eq_true (by first | (with_reducible assumption) | assumption)
         obtain ⟨ad236, e236, hx236_0⟩ := Kd.at_int (Kd.R_reads' HO_6.out).2.2 1 p236 q236
         obtain rfl : ad235 = ad236 := (by injection e236)
         (try simp only [show (1 : Int).toNat = 1 from rfl, Nat.reduceMul, Nat.reduceEqDiff, Go.Addr.add, ↓reduceIte] at hx236_0)
         have qi236 : (1 < t224.length) = True := eq_true (by omega)
         (try rw [show ((1 : Int)).toNat = 1 from rfl] at hx236_0)
         replace p236 := eq_true p236
         replace q236 := eq_true q236
         refine start_ (n := 10) (S := fun w' => w'.cell? ad235 = some (.int .i64 (rd t224 0)) ∧ w'.cell? ⟨ad235.block, ad235.off + 1, none⟩ = some (.int .i64 (rd t224 1))) (ds := []) #[false, false, false, false, false, false, false, false, false, false] (by kernel_rfl) rfl rfl ⟨hx235_0, hx236_0⟩ (fun hHeld => ?_); refine with_tabW frisketlaw19_CurveInside.tab9 frisketlaw19_CurveInside.bits9 (fun HT_ HW_ => ?_)
         generalize w15.drew = w20 at HO_6 HO231 HO234 HB hx235_0 hx236_0 hHeld ⊢
         refine go_in [0, 1, 2, 4, 5, 3, 6, 7] ?_
         repeat (first | (refine pz (v := ?_) (a' := ?_) HT_ rfl rfl (by kernel_rfl) (fun _ _ _ h => h) (Or.inl ⟨by rfl, ?_⟩) ?_ ?_; rotate_left; (focus intro w'; go_simp; with_reducible rfl); rotate_left; (focus simp only [Act.put, List.setIfInBounds_toArray, List.set_cons_zero, List.set_cons_succ, i64_w, i32_w, u8_w, u8_tm, u8_c, u8_cm]; rfl)) | (refine tz (v := ?_) (a' := ?_) HT_ HW_ rfl rfl hHeld (by kernel_rfl) (fun _ _ _ h => h) (Or.inl ⟨by rfl, ?_⟩) ?_ ?_; rotate_left; (focus rintro w' ⟨s0, s1⟩; go_simp; with_reducible rfl); rotate_left; (focus simp only [Act.put, List.setIfInBounds_toArray, List.set_cons_zero, List.set_cons_succ, i64_w, i32_w, u8_w, u8_tm, u8_c, u8_cm]; rfl)))
         refine go_out ?_
         refine one_ (i := 8) (N := some 59) #[true, true, true, true, true, true, true, true, true, false] rfl rfl (one_of HT_.out (by kernel_rfl)) (by decide) (fun K hK => ?_)
         refine Kd.R_lit_step k28 _ 28 ?hg (N := 59) ?hd (xs := ([(⟨0, 0⟩ : S28), (⟨rd t224 0, rd t224 1⟩ : S28)] : List (S28))) (inner := [.int .i64 0, .int .i64 0, .int .i64 (rd t224 0), .int .i64 (rd t224 1)]) (ok := fun _ => True) (okp := fun _ => True) ?hr ?hp (fun _ hk => hk) trivial (Below.refl _ _) (Nat.le_refl _) (by simp) ?_; (case hd => rfl); (case hg => rfl); (case hr => first | (go_simp; done) | (go_simp; rfl)); (case hp => exact (Reps.c2 (show Kd.M k28 _ _ _ (⟨0, 0⟩ : S28) [.int .i64 0, .int .i64 0] from (k28_mkM _ _ _ (⟨0, 0⟩ : S28) )) (Reps.c2 (show Kd.M k28 _ _ _ (⟨rd t224 0, rd t224 1⟩ : S28) [.int .i64 (rd t224 0), .int .i64 (rd t224 1)] from (k28_mkM _ _ _ (⟨rd t224 0, rd t224 1⟩ : S28) )) (Reps.none _ _))))
         intro v238 w21 ho22 hb hg_ hnew_
         have HS0_ := (hb.cell (World.block_lt_of_cell? _ _ (hHeld.1))).trans (hHeld.1)
         have HS1_ := (hb.cell (World.block_lt_of_cell? _ _ (hHeld.2))).trans (hHeld.2)
         clear hg_ hnew_
         (first | rw [← Ny237.out] at ho22 | (simp only [Int.reduceToNat] at ho22; rw [← Ny237.out] at ho22))
         have n0_ := Aside0.mk (Kd.R_below (by (with_reducible repeat (first | apply Kd.R_alloc | apply Kd.R_drewN | apply Kd.R_drew)); exact HO_6.out) hb)
         have n1_ := Aside0.mk (Kd.R_elder' (by (with_reducible repeat (first | apply Kd.R_alloc | apply Kd.R_drewN | apply Kd.R_drew)); exact HO231.out) (Kd.R_base ho22) hb)
         have n2_ := Aside0.mk (Kd.R_elder' (by (with_reducible repeat (first | apply Kd.R_alloc | apply Kd.R_drewN | apply Kd.R_drew)); exact HO234.out) (Kd.R_base ho22) hb)
         have n3_ := Aside0.mk (Kd.R_lower (Kd.R_new' (Kd.R_new' ho22 (Kd.R_lt (by (with_reducible repeat (first | apply Kd.R_alloc | apply Kd.R_drewN | apply Kd.R_drew)); exact HO231.out))) (Kd.R_lt (by (with_reducible repeat (first | apply Kd.R_alloc | apply Kd.R_drewN | apply Kd.R_drew)); exact HO234.out))) (below_size (by repeat (first | (with_reducible first | exact HB.out | apply below_alloc | apply pw_below_drewN | apply below_drew1) | exact HB.out))))
         have n4_ := Aside0.mk (below_step (by repeat (first | (with_reducible first | exact HB.out | apply below_alloc | apply pw_below_drewN | apply below_drew1) | exact HB.out)) hb)
         clear HO_6
         clear HO231
         clear HO234
         clear HB
         have HO_6 := n0_
         have HO231 := n1_
         have HO234 := n2_
         have HO239 := n3_
         have HB := n4_
         clear n0_ n1_ n2_ n3_ n4_
         clear hb ho22
         refine hK.out _ _ ⟨HS0_, HS1_⟩ (fun hHeld => ?_)
         clear hK K
         refine norm_ (a' := ?_) ?_ ?_
         rotate_left
         ·show Act.put _ (some 59) _ = _
          simp only [Act.put, List.setIfInBounds_toArray, List.set_cons_zero, List.set_cons_succ, i64_w, i32_w]
          rfl
         refine go_in [9] ?_
         (refine pz (v := ?_) (a' := ?_) HT_ rfl rfl (by kernel_rfl) (fun _ _ _ h => h) (Or.inl ⟨by rfl, ?_⟩) ?_ ?_; rotate_left; (focus intro w'; go_simp; with_reducible rfl); rotate_left; (focus simp only [Act.put, List.setIfInBounds_toArray, List.set_cons_zero, List.set_cons_succ, i64_w, i32_w, u8_w, u8_tm, u8_c, u8_cm]; rfl))
         refine go_out ?_
         refine done_ (done_of HT_.out (by kernel_rfl)) ?_
         try go_wp2
         go_meet
         case rel => exact ⟨_, (y237), H', ⟨by have := HJ3.out; first | omega | exact Nat.le_refl _⟩, ⟨by (with_reducible repeat (first | apply Kd.R_alloc | apply Kd.R_drewN | apply Kd.R_drew)); exact HO_6.out⟩, ⟨by (with_reducible repeat (first | apply Kd.R_alloc | apply Kd.R_drewN | apply Kd.R_drew)); exact Kd.R_mono HO231.out (fun _ hk => hk.2)⟩, ⟨by (with_reducible repeat (first | apply Kd.R_alloc | apply Kd.R_drewN | apply Kd.R_drew)); exact Kd.R_mono HO239.out (fun _ hk => hk.1.2)⟩, ⟨by repeat (first | (with_reducible first | exact HB.out | apply below_alloc | apply pw_below_drewN | apply below_drew1) | exact HB.out)⟩⟩
        ·rw [if_neg c19] at H
         exact absurd H (by simp)
       ·rw [if_neg c18] at H
        exact absurd H (by simp)
      ·rw [if_neg c17] at H
       have c17b0 : (t223 == 101) = false := beq_eq_false_iff_ne.mpr c17
       have c17b1 : (t223 != 101) = true := bne_iff_ne.mpr c17
       (first | rw [c17b0] | (simp only [i64_w, i32_w]; rw [c17b0]) | skip)
       have H' := Aside0.mk H
       clear H
       go_wp2
       go_meet
       case rel => exact ⟨_, (y232), H', ⟨by have := HJ3.out; first | omega | exact Nat.le_refl _⟩, ⟨by (with_reducible repeat (first | apply Kd.R_alloc | apply Kd.R_drewN | apply Kd.R_drew)); exact HO_6.out⟩, ⟨by (with_reducible repeat (first | apply Kd.R_alloc | apply Kd.R_drewN | apply Kd.R_drew)); exact Kd.R_mono HO231.out (fun _ hk => hk.2)⟩, ⟨by (with_reducible repeat (first | apply Kd.R_alloc | apply Kd.R_drewN | apply Kd.R_drew)); exact Kd.R_mono HO234.out (fun _ hk => hk.2)⟩, ⟨by repeat (first | (with_reducible first | exact HB.out | apply below_alloc | apply pw_below_drewN | apply below_drew1) | exact HB.out)⟩⟩
     case rest =>
      clear HC12
      try clear c1
      try clear c2
      try clear p2
      try clear q2
      try clear hx2
      try clear qi2
      try clear c4
      try clear c6
      try clear c6b0
      try clear c6b1
      try clear p6
      try clear c7
      try clear c8
      try clear c11
      try clear c11b0
      try clear c11b1
      try clear c17
      try clear c17b0
      try clear c17b1
      try clear c18
      try clear c18b0
      try clear c18b1
      try clear c19
      try clear c19b0
      try clear c19b1
      try clear hx235_0
      try clear hx236_0
      try clear p2
      try clear p235
      try clear p236
      try clear q235
      try clear q236
      obtain ⟨kq, x9_11, HA, HJ11, HO_6, HO_7, HO_9, HB⟩ := hcut
      cases kq with
      | zero => exact absurd HA.out (by simp [frisketlaw19_CurveInside.j1])
      | succ kj11 =>
       have H := HA.out
       clear HA
       simp only [frisketlaw19_CurveInside.j1] at H
       have H' := Aside0.mk H
       clear H
       go_wp2
       go_loopg [9, 10] kj11 (fun kq v9 v10 w' => ∃ (x9_3 : List (S28)) (x10_3 : Int), v10 = .int .i64 x10_3 ∧ Aside0 (frisketlaw19_CurveInside.l0 kq t223 t224 t228 x9_3 x10_3 = some r) ∧ Aside0 (kq ≤ kj11) ∧ Aside0 (Kd.R (Kd.int .i64) 3 w' w.heap.size (fun _ => True) (.slice Ao13 t224.length co13) t224) ∧ Aside0 (Kd.R k28 28 w' w.heap.size (fun k_ => some k_ ≠ (v9 : Value).ownBlock) v230 t228) ∧ Aside0 (Kd.R k28 28 w' w.heap.size (fun k_ => some k_ ≠ (v230 : Value).ownBlock) v9 x9_3) ∧ Aside0 (Below w.heap.size w w'))
       case atStart => exact ⟨(x9_11), (0), (by first | rfl | (simp; done) | (simp [*]; done)), H', ⟨Nat.le_refl _⟩, ⟨by (with_reducible repeat (first | apply Kd.R_alloc | apply Kd.R_drewN | apply Kd.R_drew)); exact HO_6.out⟩, ⟨by (with_reducible repeat (first | apply Kd.R_alloc | apply Kd.R_drewN | apply Kd.R_drew)); exact HO_7.out⟩, ⟨by (with_reducible repeat (first | apply Kd.R_alloc | apply Kd.R_drewN | apply Kd.R_drew)); exact HO_9.out⟩, ⟨by repeat (first | (with_reducible first | exact HB.out | apply below_alloc | apply pw_below_drewN | apply below_drew1) | exact HB.out)⟩⟩
       case round =>
        clear H'
        try clear c1
        try clear c2
        try clear p2
        try clear q2
        try clear hx2
        try clear qi2
        try clear c4
        try clear c6
        try clear c6b0
        try clear c6b1
        try clear p6
        try clear c7
        try clear c8
        try clear c11
        try clear c11b0
        try clear c11b1
        try clear c17
        try clear c17b0
        try clear c17b1
        try clear c18
        try clear c18b0
        try clear c18b1
        try clear c19
        try clear c19b0
        try clear c19b1
        try clear hx235_0
        try clear hx236_0
        try clear p2
        try clear p235
        try clear p236
        try clear p6
        try clear q2
        try clear q235
        try clear q236
        obtain ⟨x9_3, x10_3, rfl, HA, HK3, HO_6, HO_7, HO_9, HB⟩ := hrel
        cases gk with
        | zero => exact absurd HA.out (by simp [frisketlaw19_CurveInside.l0])
        | succ k3 =>
         have H := HA.out
         clear HA
         simp only [frisketlaw19_CurveInside.l0] at H
         by_cases c23 : (wrap64 (x10_3 + 1)) < (t224.length : Int)
         ·rw [if_pos c23] at H
          have c23b0 : decide ((wrap64 (x10_3 + 1)) < (t224.length : Int)) = true := decide_eq_true c23
          clear c23
          by_cases c24 : t223 = 126
          ·rw [if_pos c24] at H
           have c24b0 : (t223 == 126) = true := beq_iff_eq.mpr c24
           have c24b1 : (t223 != 126) = false := bne_eq_false_iff_eq.mpr c24
           clear c24
           obtain ⟨ji25, hji25⟩ : ∃ j_ : Int, (wrap64 ((x9_3.length : Int) - 1)) = j_ := ⟨_, rfl⟩
           replace H : (if 0 ≤ (ji25) then (if (ji25) < (x9_3.length : Int) then (if 0 ≤ x10_3 then (if x10_3 < (t224.length : Int) then (if 0 ≤ (wrap64 (x10_3 + 1)) then (if x9_3.length < 8796093022208 then (frisketlaw19_CurveInside.l0 k3 t223 t224 t228 (x9_3 ++ [(⟨wrap64 (((rd_T28 x9_3 (ji25)).f0) + (rd t224 x10_3)), wrap64 (((rd_T28 x9_3 (ji25)).f1) + (rd t224 (wrap64 (x10_3 + 1))))⟩ : S28)]) (wrap64 (x10_3 + 2))) else (none)) else (none)) else (none)) else (none)) else (none)) else (none)) = some r := by first | (rw [hji25] at H; exact H) | (simp only [hji25] at H ⊢; exact H)
           have hji25w : (IntKind.i64.wrap ((x9_3.length : Int) - 1)) = ji25 := (i64_w _).trans hji25
           by_cases c26 : 0 ≤ (ji25)
           ·rw [if_pos c26] at H
            have c26b0 : decide (0 ≤ (ji25)) = true := decide_eq_true c26
            clear c26
            by_cases c27 : (ji25) < (x9_3.length : Int)
            ·rw [if_pos c27] at H
             have c27b0 : decide ((ji25) < (x9_3.length : Int)) = true := decide_eq_true c27
             clear c27
             by_cases c28 : 0 ≤ x10_3
             ·rw [if_pos c28] at H
              have c28b0 : decide (0 ≤ x10_3) = true := decide_eq_true c28
              clear c28
              by_cases c29 : x10_3 < (t224.length : Int)
              ·rw [if_pos c29] at H
               have c29b0 : decide (x10_3 < (t224.length : Int)) = true := decide_eq_true c29
               clear c29
               obtain ⟨ji30, hji30⟩ : ∃ j_ : Int, (wrap64 (x10_3 + 1)) = j_ := ⟨_, rfl⟩
               replace H : (if 0 ≤ (ji30) then (if x9_3.length < 8796093022208 then (frisketlaw19_CurveInside.l0 k3 t223 t224 t228 (x9_3 ++ [(⟨wrap64 (((rd_T28 x9_3 (ji25)).f0) + (rd t224 x10_3)), wrap64 (((rd_T28 x9_3 (ji25)).f1) + (rd t224 (ji30)))⟩ : S28)]) (wrap64 (x10_3 + 2))) else (none)) else (none)) = some r := by first | (rw [hji30] at H; exact H) | (simp only [hji30] at H ⊢; exact H)
               (try rw [hji30] at c23b0)
               have hji30w : (IntKind.i64.wrap (x10_3 + 1)) = ji30 := (i64_w _).trans hji30
               by_cases c31 : 0 ≤ (ji30)
               ·rw [if_pos c31] at H
                have c31b0 : decide (0 ≤ (ji30)) = true := decide_eq_true c31
                clear c31
                by_cases c32 : x9_3.length < 8796093022208
                ·rw [if_pos c32] at H
                 have LMc32 := Aside0.mk c32
                 clear c32
                 obtain ⟨y244, hy244⟩ : ∃ y_ : List (S28), y_ = (x9_3 ++ [(⟨wrap64 (((rd_T28 x9_3 (ji25)).f0) + (rd t224 x10_3)), wrap64 (((rd_T28 x9_3 (ji25)).f1) + (rd t224 (ji30)))⟩ : S28)]) := ⟨_, rfl⟩
                 replace H : (frisketlaw19_CurveInside.l0 k3 t223 t224 t228 y244 (wrap64 (x10_3 + 2))) = some r := by first | (rw [hy244]; with_reducible exact H) | (have H2_ := (Option.bind_some _ _).symm.trans H; rw [hy244]; with_reducible exact H2_) | (have H2_ := (Option.bind_some _ _).symm.trans H; with_reducible exact H2_) | with_reducible exact H | (rw [hy244]; exact H) | exact H
                 have Ny244 := Aside0.mk hy244
                 clear hy244
                 have H' := Aside0.mk H
                 clear H
                 obtain ⟨Ao33, co33, eo33⟩ := Kd.R_slice HO_9.out
                 subst eo33
                 have p240 : 0 ≤ ((ji25) : Int) := of_decide_eq_true (by first | (with_reducible assumption) | assumption)
                 have q240 : (ji25) < (x9_3.length : Int) := of_decide_eq_true (by first | (with_reducible assumption) | assumption)
                 obtain ⟨ad240, e240, hx240_0, hx240_1⟩ := at_T28 (Kd.R_reads' HO_9.out).2.2 (ji25) p240 q240
                 cases e240
                 replace p240 := eq_true p240
                 replace q240 := eq_true q240
                 try go_wp2_with (first | ((with_reducible refine gate_dst (N := 11) rfl ?_); refine box_event ?hg (N := 11) ?hd (cs := #[.int .i64 0, .int .i64 0]) (t := 28) ?hr ?_; (case hd => rfl); (case hg => rfl); (case hr => first | (go_simp; done) | (go_simp; rfl)); intro gb241 hg w34 hbox hb; have n0_ := Aside0.mk (Kd.R_below (by (with_reducible repeat (first | apply Kd.R_alloc | apply Kd.R_drewN | apply Kd.R_drew)); exact HO_6.out) hb); have n1_ := Aside0.mk (Kd.R_below (Kd.R_elderB (by (with_reducible repeat (first | apply Kd.R_alloc | apply Kd.R_drewN | apply Kd.R_drew)); exact HO_7.out) gb241 (Nat.le_of_eq hg.symm)) hb); have n2_ := Aside0.mk (Kd.R_below (Kd.R_elderB (by (with_reducible repeat (first | apply Kd.R_alloc | apply Kd.R_drewN | apply Kd.R_drew)); exact HO_9.out) gb241 (Nat.le_of_eq hg.symm)) hb); have n3_ := Aside0.mk (below_step (by repeat (first | (with_reducible first | exact HB.out | apply below_alloc | apply pw_below_drewN | apply below_drew1) | exact HB.out)) hb); have n4_ := Aside0.mk (hbox); have n5_ := Aside0.mk ((by rw [hg]; exact (below_size (by repeat (first | (with_reducible first | exact HB.out | apply below_alloc | apply pw_below_drewN | apply below_drew1) | exact HB.out))) : w.heap.size ≤ gb241)); have n6_ := Aside0.mk ((by rw [hg]; exact (below_size (by repeat (first | (with_reducible first | exact HB.out | apply below_alloc | apply pw_below_drewN | apply below_drew1) | exact HB.out))) : w.heap.size ≤ gb241)); clear HO_6; clear HO_7; clear HO_9; clear HB; have HO_6 := n0_; have HO_7 := n1_; have HO_9 := n2_; have HB := n3_; have BK241 := n4_; have GW241 := n5_; have GE241 := n6_; clear n0_ n1_ n2_ n3_ n4_ n5_ n6_; clear hb hbox hg; have hcz35_0 : w34.cell? ⟨gb241, 0, none⟩ = some (.int .i64 0) := (blk_cell BK241.out 0).trans rfl; have hcz35_1 : w34.cell? ⟨gb241, 1, none⟩ = some (.int .i64 0) := (blk_cell BK241.out 1).trans rfl; have hfz35_0 := blk_frozen BK241.out 0; have hfz35_1 := blk_frozen BK241.out 1))
                 have n0_ : Aside0 (Kd.R (Kd.int .i64) 3 ((w34.setCell ⟨gb241, 0, none⟩ (.int .i64 ((rd_T28 x9_3 (ji25)).f0))).setCell ⟨gb241, 1, none⟩ (.int .i64 ((rd_T28 x9_3 (ji25)).f1))) w.heap.size (fun _ => True) (.slice Ao13 t224.length co13) t224) := ⟨by (with_reducible repeat (first | apply Kd.R_alloc | apply Kd.R_drewN | apply Kd.R_drew)); exact Kd.R_mono (Kd.R_far (p := ⟨gb241, 1, none⟩) (Kd.R_far (p := ⟨gb241, 0, none⟩) (Kd.R_types HO_6.out BK241.out (by decide)) (fun _ hk => hk.2) (.int .i64 ((rd_T28 x9_3 (ji25)).f0))) (fun _ hk => hk.2) (.int .i64 ((rd_T28 x9_3 (ji25)).f1))) (fun _ hk => trivial)⟩
                 have n1_ : Aside0 (Kd.R k28 28 ((w34.setCell ⟨gb241, 0, none⟩ (.int .i64 ((rd_T28 x9_3 (ji25)).f0))).setCell ⟨gb241, 1, none⟩ (.int .i64 ((rd_T28 x9_3 (ji25)).f1))) w.heap.size (fun k_ => some k_ ≠ (.slice (some ad240) x9_3.length co33 : Value).ownBlock ∧ k_ ≠ gb241) v230 t228) := ⟨by (with_reducible repeat (first | apply Kd.R_alloc | apply Kd.R_drewN | apply Kd.R_drew)); exact Kd.R_mono (Kd.R_far (p := ⟨gb241, 1, none⟩) (Kd.R_far (p := ⟨gb241, 0, none⟩) (Kd.R_mono HO_7.out (fun k_ hk => (⟨hk, hk.2⟩ : _ ∧ k_ ≠ gb241))) (fun _ hk => hk.2) (.int .i64 ((rd_T28 x9_3 (ji25)).f0))) (fun _ hk => hk.2) (.int .i64 ((rd_T28 x9_3 (ji25)).f1))) (fun _ hk => ⟨hk.1.1, hk.1.2⟩)⟩
                 have n2_ : Aside0 (Kd.R k28 28 ((w34.setCell ⟨gb241, 0, none⟩ (.int .i64 ((rd_T28 x9_3 (ji25)).f0))).setCell ⟨gb241, 1, none⟩ (.int .i64 ((rd_T28 x9_3 (ji25)).f1))) w.heap.size (fun k_ => some k_ ≠ (v230 : Value).ownBlock ∧ k_ ≠ gb241) (.slice (some ad240) x9_3.length co33) x9_3) := ⟨by (with_reducible repeat (first | apply Kd.R_alloc | apply Kd.R_drewN | apply Kd.R_drew)); exact Kd.R_mono (Kd.R_far (p := ⟨gb241, 1, none⟩) (Kd.R_far (p := ⟨gb241, 0, none⟩) (Kd.R_mono HO_9.out (fun k_ hk => (⟨hk, hk.2⟩ : _ ∧ k_ ≠ gb241))) (fun _ hk => hk.2) (.int .i64 ((rd_T28 x9_3 (ji25)).f0))) (fun _ hk => hk.2) (.int .i64 ((rd_T28 x9_3 (ji25)).f1))) (fun _ hk => ⟨hk.1.1, hk.1.2⟩)⟩
                 have n3_ : Aside0 (((w34.setCell ⟨gb241, 0, none⟩ (.int .i64 ((rd_T28 x9_3 (ji25)).f0))).setCell ⟨gb241, 1, none⟩ (.int .i64 ((rd_T28 x9_3 (ji25)).f1))).heap[gb241]? = some (.cells #[.int .i64 ((rd_T28 x9_3 (ji25)).f0), .int .i64 ((rd_T28 x9_3 (ji25)).f1)] 28 (0, 0))) := ⟨by (with_reducible repeat (first | refine blk_drewN ?_ _ | refine blk_drew ?_ | refine blk_alloc ?_ _)); refine blk_put (cs := #[.int .i64 ((rd_T28 x9_3 (ji25)).f0), .int .i64 0]) ?_ 1 _ rfl; (with_reducible repeat (first | refine blk_drewN ?_ _ | refine blk_drew ?_ | refine blk_alloc ?_ _)); refine blk_put (cs := #[.int .i64 0, .int .i64 0]) ?_ 0 _ rfl; (with_reducible repeat (first | refine blk_drewN ?_ _ | refine blk_drew ?_ | refine blk_alloc ?_ _)); exact BK241.out⟩
                 have n4_ : Aside0 (Below w.heap.size w ((w34.setCell ⟨gb241, 0, none⟩ (.int .i64 ((rd_T28 x9_3 (ji25)).f0))).setCell ⟨gb241, 1, none⟩ (.int .i64 ((rd_T28 x9_3 (ji25)).f1)))) := ⟨by repeat (first | (with_reducible first | exact HB.out | apply below_alloc | apply pw_below_drewN | apply below_drew1 | refine below_set ?_ GE241.out) | exact HB.out)⟩
                 (try clear HO_6)
                 (try clear HO_7)
                 (try clear HO_9)
                 (try clear BK241)
                 (try clear HB)
                 generalize ((w34.setCell ⟨gb241, 0, none⟩ (.int .i64 ((rd_T28 x9_3 (ji25)).f0))).setCell ⟨gb241, 1, none⟩ (.int .i64 ((rd_T28 x9_3 (ji25)).f1))) = w36 at n0_ n1_ n2_ n3_ n4_ ⊢
                 have HO_6 := n0_
                 have HO_7 := n1_
                 have HO_9 := n2_
                 have BK241 := n3_
                 have HB := n4_
                 clear n0_ n1_ n2_ n3_ n4_
                 have n0_ := Aside0.mk (Kd.R_drew HO_6.out)
                 have n1_ := Aside0.mk (Kd.R_drew HO_7.out)
                 have n2_ := Aside0.mk (Kd.R_drew HO_9.out)
                 have n3_ := Aside0.mk (blk_drew BK241.out)
                 have n4_ := Aside0.mk (below_drew1 HB.out)
                 clear HO_6
                 clear HO_7
                 clear HO_9
                 clear BK241
                 clear HB
                 have HO_6 := n0_
                 have HO_7 := n1_
                 have HO_9 := n2_
                 have BK241 := n3_
                 have HB := n4_
                 clear n0_ n1_ n2_ n3_ n4_
                 have p242 : 0 ≤ (x10_3 : Int) := of_decide_eq_true (by first | (with_reducible assumption) | assumption)
                 have q242 : x10_3 < (t224.length : Int) := of_decide_eq_true (by first | (with_reducible assumption) | assumption)
                 obtain ⟨ad242, e242, hx242_0⟩ := Kd.at_int (Kd.R_reads' HO_6.out).2.2 x10_3 p242 q242
                 cases e242
                 replace p242 := eq_true p242
                 replace q242 := eq_true q242
                 have p243 : 0 ≤ ((ji30) : Int) := of_decide_eq_true (by first | (with_reducible assumption) | assumption)
                 have q243 : (ji30) < (t224.length : Int) := of_decide_eq_true (by first | (with_reducible assumption) | assumption)
                 obtain ⟨ad243, e243, hx243_0⟩ := Kd.at_int (Kd.R_reads' HO_6.out).2.2 (ji30) p243 q243
                 obtain rfl : ad242 = ad243 := (by injection e243)
                 replace p243 := eq_true p243
                 replace q243 := eq_true q243
                 refine start_ (n := 20) (S := fun w' => w'.cell? ⟨gb241, 0, none⟩ = some (.int .i64 ((rd_T28 x9_3 (ji25)).f0)) ∧ w'.cell? ⟨gb241, 1, none⟩ = some (.int .i64 ((rd_T28 x9_3 (ji25)).f1)) ∧ w'.cell? (ad242.add (x10_3).toNat) = some (.int .i64 (rd t224 x10_3)) ∧ w'.cell? (ad242.add ((ji30)).toNat) = some (.int .i64 (rd t224 (ji30)))) (ds := [17, 18]) #[false, false, false, false, false, false, false, false, false, false, false, false, false, false, false, false, false, false, false, false] (by kernel_rfl) rfl rfl ⟨(blk_cell BK241.out 0).trans rfl, (blk_cell BK241.out 1).trans rfl, hx242_0, hx243_0⟩ (fun hHeld => ?_); refine with_tabW frisketlaw19_CurveInside.tab14 frisketlaw19_CurveInside.bits14 (fun HT_ HW_ => ?_)
                 generalize w36.drew = w37 at HO_6 HO_7 HO_9 BK241 HB hx242_0 hx243_0 hHeld ⊢
                 refine go_in [0, 1, 3, 4, 5, 8, 10, 11, 12, 13, 2, 6, 7, 9, 14, 15, 16] ?_
                 repeat (first | (refine pz (v := ?_) (a' := ?_) HT_ rfl rfl (by kernel_rfl) (fun _ _ _ h => h) (Or.inl ⟨by rfl, ?_⟩) ?_ ?_; rotate_left; (focus intro w'; go_simp; with_reducible rfl); rotate_left; (focus simp only [Act.put, List.setIfInBounds_toArray, List.set_cons_zero, List.set_cons_succ, i64_w, i32_w, u8_w, u8_tm, u8_c, u8_cm]; rfl)) | (refine tz (v := ?_) (a' := ?_) HT_ HW_ rfl rfl hHeld (by kernel_rfl) (fun _ _ _ h => h) (Or.inl ⟨by rfl, ?_⟩) ?_ ?_; rotate_left; (focus rintro w' ⟨s0, s1, s2, s3⟩; go_simp; with_reducible rfl); rotate_left; (focus simp only [Act.put, List.setIfInBounds_toArray, List.set_cons_zero, List.set_cons_succ, i64_w, i32_w, u8_w, u8_tm, u8_c, u8_cm]; rfl)))
                 refine go_out ?_
                 refine last_ (i := 17) (N := some 94) #[true, true, true, true, true, true, true, true, true, true, true, true, true, true, true, true, true, true, false, false] rfl rfl (one_of HT_.out (by kernel_rfl)) (by decide) (fun K hK => ?_)
                 refine value_ (w1 := ?_) (v := ?_) (by rfl) rfl ?_ ?_
                 rotate_left 2
                 ·go_simp
                  constructor
                  ·rfl
                  ·rfl
                 refine hK.out _ _ ?_
                 clear hK K
                 refine norm_ (a' := ?_) ?_ ?_
                 rotate_left
                 ·show Act.put _ (some 94) _ = _
                  simp only [Act.put, List.setIfInBounds_toArray, List.set_cons_zero, List.set_cons_succ, i64_w, i32_w]
                  rfl
                 refine last_ (i := 18) (N := some 95) #[true, true, true, true, true, true, true, true, true, true, true, true, true, true, true, true, true, true, true, false] rfl rfl (one_of HT_.out (by kernel_rfl)) (by decide) (fun K hK => ?_)
                 refine Kd.R_append_step k28 (w0 := w) w.heap.size (by rfl) (.tmp 77) (.tmp 94) 23 28 (.agg #[(.int .i64 0), (.int .i64 0)]) 16 rfl Try.underlying23 info28 rfl (by decide) (by omega) (.slice (some ad240) x9_3.length co33) x9_3 (⟨wrap64 (((rd_T28 x9_3 (ji25)).f0) + (rd t224 x10_3)), wrap64 (((rd_T28 x9_3 (ji25)).f1) + (rd t224 (ji30)))⟩ : S28) [.int .i64 (wrap64 (((rd_T28 x9_3 (ji25)).f0) + (rd t224 x10_3))), .int .i64 (wrap64 (((rd_T28 x9_3 (ji25)).f1) + (rd t224 (ji30))))] (fun k_ => some k_ ≠ (v230 : Value).ownBlock ∧ k_ ≠ gb241) (fun _ => False) rfl rfl ?aP (fun _ hk => hk.elim) ?aF ?aO ?aB ?aS ?aL ?_
                 (case aP => exact k28_mkM _ _ _ (⟨wrap64 (((rd_T28 x9_3 (ji25)).f0) + (rd t224 x10_3)), wrap64 (((rd_T28 x9_3 (ji25)).f1) + (rd t224 (ji30)))⟩ : S28))
                 (case aB => exact (by repeat (first | (with_reducible first | exact HB.out | apply below_alloc | apply pw_below_drewN | apply below_drew1 | refine below_set ?_ GE241.out) | exact HB.out)))
                 (case aF => exact (fun k_ hk => ⟨Kd.fresh' (Kd.R_lt (by (with_reducible repeat (first | apply Kd.R_alloc | apply Kd.R_drewN | apply Kd.R_drew)); exact HO_7.out)) k_ hk, Kd.freshB (g := gb241) (o := .cells #[.int .i64 ((rd_T28 x9_3 (ji25)).f0), .int .i64 ((rd_T28 x9_3 (ji25)).f1)] 28 (0, 0)) (by (with_reducible repeat (first | refine blk_drewN ?_ _ | refine blk_drew ?_ | refine blk_alloc ?_ _)); exact BK241.out) k_ hk⟩))
                 (case aO => exact (by (with_reducible repeat (first | apply Kd.R_alloc | apply Kd.R_drewN | apply Kd.R_drew)); exact HO_9.out))
                 (case aS => exact (below_size (by repeat (first | (with_reducible first | exact HB.out | apply below_alloc | apply pw_below_drewN | apply below_drew1 | refine below_set ?_ GE241.out) | exact HB.out))))
                 (case aL => have := LMc32.out; omega)
                 intro v245 w38 ho hb hg hat
                 rw [← Ny244.out] at ho
                 have n0_ := Aside0.mk (Kd.R_over' (by (with_reducible repeat (first | apply Kd.R_alloc | apply Kd.R_drewN | apply Kd.R_drew)); exact HO_6.out) (Kd.R_typed (by (with_reducible repeat (first | apply Kd.R_alloc | apply Kd.R_drewN | apply Kd.R_drew)); exact HO_9.out)) (by decide) hg)
                 have n1_ := Aside0.mk (Kd.R_after (ok := (fun k_ => k_ ≠ gb241)) (by (with_reducible repeat (first | apply Kd.R_alloc | apply Kd.R_drewN | apply Kd.R_drew)); exact Kd.R_mono HO_7.out (fun _ hk => ⟨hk.2, hk.1⟩)) hg hat)
                 have n2_ := Aside0.mk (blk_grown (g := gb241) (o := .cells #[.int .i64 ((rd_T28 x9_3 (ji25)).f0), .int .i64 ((rd_T28 x9_3 (ji25)).f1)] 28 (0, 0)) (by (with_reducible repeat (first | refine blk_drewN ?_ _ | refine blk_drew ?_ | refine blk_alloc ?_ _)); exact BK241.out) hg (Kd.R_away HO_9.out (fun _ hk => hk.2)))
                 have n3_ := Aside0.mk (hb)
                 have n4_ := Aside0.mk (ho)
                 clear HO_6
                 clear HO_7
                 clear BK241
                 clear HB
                 clear HO_9
                 have HO_6 := n0_
                 have HO_7 := n1_
                 have BK241 := n2_
                 have HB := n3_
                 have HO246 := n4_
                 clear n0_ n1_ n2_ n3_ n4_
                 clear ho hb hg hat
                 refine hK.out _ _ ?_
                 clear hK K
                 refine norm_ (a' := ?_) ?_ ?_
                 rotate_left
                 ·show Act.put _ (some 95) _ = _
                  simp only [Act.put, List.setIfInBounds_toArray, List.set_cons_zero, List.set_cons_succ, i64_w, i32_w]
                  rfl
                 refine go_in [19] ?_
                 (refine pz (v := ?_) (a' := ?_) HT_ rfl rfl (by kernel_rfl) (fun _ _ _ h => h) (Or.inl ⟨by rfl, ?_⟩) ?_ ?_; rotate_left; (focus intro w'; go_simp; with_reducible rfl); rotate_left; (focus simp only [Act.put, List.setIfInBounds_toArray, List.set_cons_zero, List.set_cons_succ, i64_w, i32_w, u8_w, u8_tm, u8_c, u8_cm]; rfl))
                 refine go_out ?_
                 refine done_ (done_of HT_.out (by kernel_rfl)) ?_
                 try go_wp2
                 go_roundg k3
                 case measure => have := HJ3.out; have := HJ11.out; have := HK3.out; omega
                 case rel => exact ⟨(y244), (wrap64 (x10_3 + 2)), (by first | rfl | (simp; done) | (simp [*]; done)), H', ⟨by have := HJ3.out; have := HJ11.out; have := HK3.out; omega⟩, ⟨by (with_reducible repeat (first | apply Kd.R_alloc | apply Kd.R_drewN | apply Kd.R_drew)); exact HO_6.out⟩, ⟨by (with_reducible repeat (first | apply Kd.R_alloc | apply Kd.R_drewN | apply Kd.R_drew)); exact Kd.R_mono HO_7.out (fun _ hk => hk.2)⟩, ⟨by (with_reducible repeat (first | apply Kd.R_alloc | apply Kd.R_drewN | apply Kd.R_drew)); exact Kd.R_mono HO246.out (fun _ hk => hk.1)⟩, ⟨by repeat (first | (with_reducible first | exact HB.out | apply below_alloc | apply pw_below_drewN | apply below_drew1 | refine below_set ?_ GE241.out) | exact HB.out)⟩⟩
                ·rw [if_neg c32] at H
                 exact absurd H (by simp)
               ·rw [if_neg c31] at H
                exact absurd H (by simp)
              ·rw [if_neg c29] at H
               exact absurd H (by simp)
             ·rw [if_neg c28] at H
              exact absurd H (by simp)
            ·rw [if_neg c27] at H
             exact absurd H (by simp)
           ·rw [if_neg c26] at H
            exact absurd H (by simp)
          ·rw [if_neg c24] at H
           have c24b0 : (t223 == 126) = false := beq_eq_false_iff_ne.mpr c24
           have c24b1 : (t223 != 126) = true := bne_iff_ne.mpr c24
           replace H := Option.bind_eq_some_iff.mp H
           obtain ⟨⟨t247, t248, t249, t250, t251⟩, A390, H⟩ := H
           replace H : ((curve_Box.f k3 t228).bind fun bt252 => (if bt252.2.2.2.2 = true then (if bt252.1 ≥ (wrap64 (t247 - 1)) then (if bt252.2.1 ≥ (wrap64 (t248 - 1)) then (if bt252.2.2.1 ≤ t249 then (if bt252.2.2.2.1 ≤ t250 then ((frisketlaw19_sane.f k3).bind fun t257 => (some t257)) else (none)) else (none)) else (none)) else (none)) else (none))) = some r := H
           have A39 := Aside0.mk A390
           clear A390
           replace H := Option.bind_eq_some_iff.mp H
           obtain ⟨⟨t252, t253, t254, t255, t256⟩, A400, H⟩ := H
           replace H : (if t256 = true then (if t252 ≥ (wrap64 (t247 - 1)) then (if t253 ≥ (wrap64 (t248 - 1)) then (if t254 ≤ t249 then (if t255 ≤ t250 then ((frisketlaw19_sane.f k3).bind fun t257 => (some t257)) else (none)) else (none)) else (none)) else (none)) else (none)) = some r := H
           have A40 := Aside0.mk A400
           clear A400
           by_cases c41 : t256 = true
           ·subst c41
            have H1 : (if t252 ≥ (wrap64 (t247 - 1)) then (if t253 ≥ (wrap64 (t248 - 1)) then (if t254 ≤ t249 then (if t255 ≤ t250 then ((frisketlaw19_sane.f k3).bind fun t257 => (some t257)) else (none)) else (none)) else (none)) else (none)) = some r := by rw [if_pos rfl] at H; exact H
            clear H
            have H := H1
            clear H1
            by_cases c42 : t252 ≥ (wrap64 (t247 - 1))
            ·rw [if_pos c42] at H
             have c42b0 : decide ((wrap64 (t247 - 1)) ≤ t252) = true := decide_eq_true c42
             clear c42
             by_cases c43 : t253 ≥ (wrap64 (t248 - 1))
             ·rw [if_pos c43] at H
              have c43b0 : decide ((wrap64 (t248 - 1)) ≤ t253) = true := decide_eq_true c43
              clear c43
              by_cases c44 : t254 ≤ t249
              ·rw [if_pos c44] at H
               have c44b0 : decide (t254 ≤ t249) = true := decide_eq_true c44
               clear c44
               by_cases c45 : t255 ≤ t250
               ·rw [if_pos c45] at H
                have c45b0 : decide (t255 ≤ t250) = true := decide_eq_true c45
                clear c45
                replace H := Option.bind_eq_some_iff.mp H
                obtain ⟨t257, A460, H⟩ := H
                replace H : (some t257) = some r := H
                have A46 := Aside0.mk A460
                clear A460
                obtain rfl := Option.some.inj H
                obtain ⟨Ao47, co47, eo47⟩ := Kd.R_slice HO_9.out
                subst eo47
                go_wp2_with (first | ((with_reducible refine gate_callee (f := 9) rfl ?_); refine goesL_ (some 98) rfl rfl Try.func9 (by kernel_rfl) rfl #[.slice Ao47 x9_3.length co47] rfl (by (try simp only [List.map_toArray, List.map_cons, List.map_nil]); first | done | rfl | (simp only [List.length_drop, List.length_take]; rfl)) ?_; (with_reducible refine (frisketref19_Box.calls k3 _ _ x9_3 t247 t248 t249 t250 t251 _ ?side1 ?side2 A39.out).mono ?_); (case side1 => repeat (first | exact (Kd.R_reads' HO_9.out).2.2 | (with_reducible refine Kd.C_alloc ?_ _) | (with_reducible refine Kd.C_drewN ?_ _) | (with_reducible refine Kd.C_drew ?_))); (case side2 => exact (Kd.R_reads' HO_9.out).2.1); rintro e w48 ⟨rfl, hb⟩; refine ⟨_, rfl, ?_⟩; have n0_ := Aside0.mk (Kd.R_below (by (with_reducible repeat (first | apply Kd.R_alloc | apply Kd.R_drewN | apply Kd.R_drew)); exact HO_6.out) hb); have n1_ := Aside0.mk (Kd.R_below (by (with_reducible repeat (first | apply Kd.R_alloc | apply Kd.R_drewN | apply Kd.R_drew)); exact HO_7.out) hb); have n2_ := Aside0.mk (Kd.R_below (by (with_reducible repeat (first | apply Kd.R_alloc | apply Kd.R_drewN | apply Kd.R_drew)); exact HO_9.out) hb); have n3_ := Aside0.mk (below_step (by repeat (first | (with_reducible first | exact HB.out | apply below_alloc | apply pw_below_drewN | apply below_drew1) | exact HB.out)) hb); clear HO_6; clear HO_7; clear HO_9; clear HB; have HO_6 := n0_; have HO_7 := n1_; have HO_9 := n2_; have HB := n3_; clear n0_ n1_ n2_ n3_; (try clear hb); (try clear hb2); (try clear hk); (try clear hi); obtain ⟨Ao49, co49, eo49⟩ := Kd.R_slice HO_7.out; subst eo49) | ((with_reducible refine gate_callee (f := 10) rfl ?_); refine goesL_ (some 106) rfl rfl Try.func10 (by kernel_rfl) rfl #[.slice Ao49 t228.length co49] rfl (by (try simp only [List.map_toArray, List.map_cons, List.map_nil]); first | done | rfl | (simp only [List.length_drop, List.length_take]; rfl)) ?_; (with_reducible refine (curve_Box.calls k3 _ _ t228 t252 t253 t254 t255 true _ ?side1 ?side2 A40.out).mono ?_); (case side1 => repeat (first | exact (Kd.R_reads' HO_7.out).2.2 | (with_reducible refine Kd.C_alloc ?_ _) | (with_reducible refine Kd.C_drewN ?_ _) | (with_reducible refine Kd.C_drew ?_))); (case side2 => exact (Kd.R_reads' HO_7.out).2.1); rintro e w50 ⟨rfl, hb⟩; refine ⟨_, rfl, ?_⟩; have n0_ := Aside0.mk (Kd.R_below (by (with_reducible repeat (first | apply Kd.R_alloc | apply Kd.R_drewN | apply Kd.R_drew)); exact HO_6.out) hb); have n1_ := Aside0.mk (Kd.R_below (by (with_reducible repeat (first | apply Kd.R_alloc | apply Kd.R_drewN | apply Kd.R_drew)); exact HO_7.out) hb); have n2_ := Aside0.mk (Kd.R_below (by (with_reducible repeat (first | apply Kd.R_alloc | apply Kd.R_drewN | apply Kd.R_drew)); exact HO_9.out) hb); have n3_ := Aside0.mk (below_step (by repeat (first | (with_reducible first | exact HB.out | apply below_alloc | apply pw_below_drewN | apply below_drew1) | exact HB.out)) hb); clear HO_6; clear HO_7; clear HO_9; clear HB; have HO_6 := n0_; have HO_7 := n1_; have HO_9 := n2_; have HB := n3_; clear n0_ n1_ n2_ n3_; (try clear hb); (try clear hb2); (try clear hk); (try clear hi)) | (go_at_call 7; (with_reducible refine (frisketlaw19_sane.calls k3  t257 _ A46.out).mono ?_); rintro e w51 ⟨rfl, hb⟩; have n0_ := Aside0.mk (Kd.R_below (by (with_reducible repeat (first | apply Kd.R_alloc | apply Kd.R_drewN | apply Kd.R_drew)); exact HO_6.out) hb); have n1_ := Aside0.mk (Kd.R_below (by (with_reducible repeat (first | apply Kd.R_alloc | apply Kd.R_drewN | apply Kd.R_drew)); exact HO_7.out) hb); have n2_ := Aside0.mk (Kd.R_below (by (with_reducible repeat (first | apply Kd.R_alloc | apply Kd.R_drewN | apply Kd.R_drew)); exact HO_9.out) hb); have n3_ := Aside0.mk (below_step (by repeat (first | (with_reducible first | exact HB.out | apply below_alloc | apply pw_below_drewN | apply below_drew1) | exact HB.out)) hb); clear HO_6; clear HO_7; clear HO_9; clear HB; have HO_6 := n0_; have HO_7 := n1_; have HO_9 := n2_; have HB := n3_; clear n0_ n1_ n2_ n3_; (try clear hb); (try clear hb2); (try clear hk); (try clear hi)))
                go_ret
                exact ⟨by first | rfl | (simp [errW_none, errW_some] <;> rfl) | (simp [*, errW_none, errW_some] <;> rfl), by repeat (first | (with_reducible first | exact HB.out | apply below_alloc | apply pw_below_drewN | apply below_drew1) | exact HB.out)⟩
               ·rw [if_neg c45] at H
                exact absurd H (by simp)
              ·rw [if_neg c44] at H
               exact absurd H (by simp)
             ·rw [if_neg c43] at H
              exact absurd H (by simp)
            ·rw [if_neg c42] at H
             exact absurd H (by simp)
           ·replace c41 := Bool.eq_false_iff.mpr c41
            subst c41
            have H1 : (none) = some r := by rw [if_neg (show ¬ (false = true) by decide)] at H; exact H
            clear H
            have H := H1
            clear H1
            exact absurd H (by simp)
         ·rw [if_neg c23] at H
          have c23b0 : decide ((wrap64 (x10_3 + 1)) < (t224.length : Int)) = false := decide_eq_false c23
          clear c23
          replace H := Option.bind_eq_some_iff.mp H
          obtain ⟨⟨t258, t259, t260, t261, t262⟩, A520, H⟩ := H
          replace H : ((curve_Box.f k3 t228).bind fun bt263 => (if bt263.2.2.2.2 = true then (if bt263.1 ≥ (wrap64 (t258 - 1)) then (if bt263.2.1 ≥ (wrap64 (t259 - 1)) then (if bt263.2.2.1 ≤ t260 then (if bt263.2.2.2.1 ≤ t261 then ((frisketlaw19_sane.f k3).bind fun t268 => (some t268)) else (none)) else (none)) else (none)) else (none)) else (none))) = some r := H
          have A52 := Aside0.mk A520
          clear A520
          replace H := Option.bind_eq_some_iff.mp H
          obtain ⟨⟨t263, t264, t265, t266, t267⟩, A530, H⟩ := H
          replace H : (if t267 = true then (if t263 ≥ (wrap64 (t258 - 1)) then (if t264 ≥ (wrap64 (t259 - 1)) then (if t265 ≤ t260 then (if t266 ≤ t261 then ((frisketlaw19_sane.f k3).bind fun t268 => (some t268)) else (none)) else (none)) else (none)) else (none)) else (none)) = some r := H
          have A53 := Aside0.mk A530
          clear A530
          by_cases c54 : t267 = true
          ·subst c54
           have H1 : (if t263 ≥ (wrap64 (t258 - 1)) then (if t264 ≥ (wrap64 (t259 - 1)) then (if t265 ≤ t260 then (if t266 ≤ t261 then ((frisketlaw19_sane.f k3).bind fun t268 => (some t268)) else (none)) else (none)) else (none)) else (none)) = some r := by rw [if_pos rfl] at H; exact H
           clear H
           have H := H1
           clear H1
           by_cases c55 : t263 ≥ (wrap64 (t258 - 1))
           ·rw [if_pos c55] at H
            have c55b0 : decide ((wrap64 (t258 - 1)) ≤ t263) = true := decide_eq_true c55
            clear c55
            by_cases c56 : t264 ≥ (wrap64 (t259 - 1))
            ·rw [if_pos c56] at H
             have c56b0 : decide ((wrap64 (t259 - 1)) ≤ t264) = true := decide_eq_true c56
             clear c56
             by_cases c57 : t265 ≤ t260
             ·rw [if_pos c57] at H
              have c57b0 : decide (t265 ≤ t260) = true := decide_eq_true c57
              clear c57
              by_cases c58 : t266 ≤ t261
              ·rw [if_pos c58] at H
               have c58b0 : decide (t266 ≤ t261) = true := decide_eq_true c58
               clear c58
               replace H := Option.bind_eq_some_iff.mp H
               obtain ⟨t268, A590, H⟩ := H
               replace H : (some t268) = some r := H
               have A59 := Aside0.mk A590
               clear A590
               obtain rfl := Option.some.inj H
               obtain ⟨Ao60, co60, eo60⟩ := Kd.R_slice HO_9.out
               subst eo60
               go_wp2_with (first | ((with_reducible refine gate_callee (f := 9) rfl ?_); refine goesL_ (some 98) rfl rfl Try.func9 (by kernel_rfl) rfl #[.slice Ao60 x9_3.length co60] rfl (by (try simp only [List.map_toArray, List.map_cons, List.map_nil]); first | done | rfl | (simp only [List.length_drop, List.length_take]; rfl)) ?_; (with_reducible refine (frisketref19_Box.calls k3 _ _ x9_3 t258 t259 t260 t261 t262 _ ?side1 ?side2 A52.out).mono ?_); (case side1 => repeat (first | exact (Kd.R_reads' HO_9.out).2.2 | (with_reducible refine Kd.C_alloc ?_ _) | (with_reducible refine Kd.C_drewN ?_ _) | (with_reducible refine Kd.C_drew ?_))); (case side2 => exact (Kd.R_reads' HO_9.out).2.1); rintro e w61 ⟨rfl, hb⟩; refine ⟨_, rfl, ?_⟩; have n0_ := Aside0.mk (Kd.R_below (by (with_reducible repeat (first | apply Kd.R_alloc | apply Kd.R_drewN | apply Kd.R_drew)); exact HO_6.out) hb); have n1_ := Aside0.mk (Kd.R_below (by (with_reducible repeat (first | apply Kd.R_alloc | apply Kd.R_drewN | apply Kd.R_drew)); exact HO_7.out) hb); have n2_ := Aside0.mk (Kd.R_below (by (with_reducible repeat (first | apply Kd.R_alloc | apply Kd.R_drewN | apply Kd.R_drew)); exact HO_9.out) hb); have n3_ := Aside0.mk (below_step (by repeat (first | (with_reducible first | exact HB.out | apply below_alloc | apply pw_below_drewN | apply below_drew1) | exact HB.out)) hb); clear HO_6; clear HO_7; clear HO_9; clear HB; have HO_6 := n0_; have HO_7 := n1_; have HO_9 := n2_; have HB := n3_; clear n0_ n1_ n2_ n3_; (try clear hb); (try clear hb2); (try clear hk); (try clear hi); obtain ⟨Ao62, co62, eo62⟩ := Kd.R_slice HO_7.out; subst eo62) | ((with_reducible refine gate_callee (f := 10) rfl ?_); refine goesL_ (some 106) rfl rfl Try.func10 (by kernel_rfl) rfl #[.slice Ao62 t228.length co62] rfl (by (try simp only [List.map_toArray, List.map_cons, List.map_nil]); first | done | rfl | (simp only [List.length_drop, List.length_take]; rfl)) ?_; (with_reducible refine (curve_Box.calls k3 _ _ t228 t263 t264 t265 t266 true _ ?side1 ?side2 A53.out).mono ?_); (case side1 => repeat (first | exact (Kd.R_reads' HO_7.out).2.2 | (with_reducible refine Kd.C_alloc ?_ _) | (with_reducible refine Kd.C_drewN ?_ _) | (with_reducible refine Kd.C_drew ?_))); (case side2 => exact (Kd.R_reads' HO_7.out).2.1); rintro e w63 ⟨rfl, hb⟩; refine ⟨_, rfl, ?_⟩; have n0_ := Aside0.mk (Kd.R_below (by (with_reducible repeat (first | apply Kd.R_alloc | apply Kd.R_drewN | apply Kd.R_drew)); exact HO_6.out) hb); have n1_ := Aside0.mk (Kd.R_below (by (with_reducible repeat (first | apply Kd.R_alloc | apply Kd.R_drewN | apply Kd.R_drew)); exact HO_7.out) hb); have n2_ := Aside0.mk (Kd.R_below (by (with_reducible repeat (first | apply Kd.R_alloc | apply Kd.R_drewN | apply Kd.R_drew)); exact HO_9.out) hb); have n3_ := Aside0.mk (below_step (by repeat (first | (with_reducible first | exact HB.out | apply below_alloc | apply pw_below_drewN | apply below_drew1) | exact HB.out)) hb); clear HO_6; clear HO_7; clear HO_9; clear HB; have HO_6 := n0_; have HO_7 := n1_; have HO_9 := n2_; have HB := n3_; clear n0_ n1_ n2_ n3_; (try clear hb); (try clear hb2); (try clear hk); (try clear hi)) | (go_at_call 7; (with_reducible refine (frisketlaw19_sane.calls k3  t268 _ A59.out).mono ?_); rintro e w64 ⟨rfl, hb⟩; have n0_ := Aside0.mk (Kd.R_below (by (with_reducible repeat (first | apply Kd.R_alloc | apply Kd.R_drewN | apply Kd.R_drew)); exact HO_6.out) hb); have n1_ := Aside0.mk (Kd.R_below (by (with_reducible repeat (first | apply Kd.R_alloc | apply Kd.R_drewN | apply Kd.R_drew)); exact HO_7.out) hb); have n2_ := Aside0.mk (Kd.R_below (by (with_reducible repeat (first | apply Kd.R_alloc | apply Kd.R_drewN | apply Kd.R_drew)); exact HO_9.out) hb); have n3_ := Aside0.mk (below_step (by repeat (first | (with_reducible first | exact HB.out | apply below_alloc | apply pw_below_drewN | apply below_drew1) | exact HB.out)) hb); clear HO_6; clear HO_7; clear HO_9; clear HB; have HO_6 := n0_; have HO_7 := n1_; have HO_9 := n2_; have HB := n3_; clear n0_ n1_ n2_ n3_; (try clear hb); (try clear hb2); (try clear hk); (try clear hi)))
               go_ret
               exact ⟨by first | rfl | (simp [errW_none, errW_some] <;> rfl) | (simp [*, errW_none, errW_some] <;> rfl), by repeat (first | (with_reducible first | exact HB.out | apply below_alloc | apply pw_below_drewN | apply below_drew1) | exact HB.out)⟩
              ·rw [if_neg c58] at H
               exact absurd H (by simp)
             ·rw [if_neg c57] at H
              exact absurd H (by simp)
            ·rw [if_neg c56] at H
             exact absurd H (by simp)
           ·rw [if_neg c55] at H
            exact absurd H (by simp)
          ·replace c54 := Bool.eq_false_iff.mpr c54
           subst c54
           have H1 : (none) = some r := by rw [if_neg (show ¬ (false = true) by decide)] at H; exact H
           clear H
           have H := H1
           clear H1
           exact absurd H (by simp)
    ·rw [if_neg c11] at H
     exact absurd H (by simp)

/-- THE ONE PURE STATEMENT of frisketlaw19_CurveInside: yours. -/
def frisketlaw19_CurveInside.Pure : Prop := ∀ (l0 : List Int) (a1 : Int), l0.length ≤ maxLen → l0.length * 8 ≤ 140737488351232 → (∀ x ∈ l0, (Lit.int .i64 x).wf = true) → (Lit.int .i64 a1).wf = true → ∃ k, frisketlaw19_CurveInside.f k l0 a1 = some true
theorem frisketlaw19_CurveInside.walk (P : frisketlaw19_CurveInside.Pure) (a0 : Option Addr) (len0 cap0 : Nat) (z0 : List Int) (a1 : Int) (w : World) (w0 : (a0 = none ∧ len0 = 0 ∧ cap0 = 0 ∧ z0 = []) ∨ ∃ x, a0 = some x ∧ len0 ≤ cap0 ∧ cap0 ≤ maxLen ∧ z0.length = cap0 ∧ (∀ i, i < z0.length → w.cell? (x.add i) = some (.int .i64 (z0.getD i 0))) ∧ ∀ n ∈ z0, (Lit.int .i64 n).wf = true) (y0 : len0 * 8 ≤ 140737488351232) (w1 : (Lit.int .i64 a1).wf = true) :
  Calls Try.prog 4 #[.slice a0 len0 cap0, .int .i64 a1] w fun e w' => e = .returned (.bool true) ∧ Below w.heap.size w w' := by
 obtain ⟨l0, rfl, hr0, hm0, hw0, hc0⟩ := ReadsInt.ofRowC w0
 obtain ⟨k, h⟩ := P l0 a1 hm0 y0 hw0 w1
 refine (frisketlaw19_CurveInside.calls k _ _ l0 a1 true w (Kd.C_of_reads (d := (0 : Int)) (h1 := fun _ => rfl) hr0) hc0 h).mono ?_
 rintro e w' ⟨rfl, hd⟩
 exact ⟨rfl, hd⟩

end Go.Proofs.Ytfpcejkjabmeeaa.QCI
