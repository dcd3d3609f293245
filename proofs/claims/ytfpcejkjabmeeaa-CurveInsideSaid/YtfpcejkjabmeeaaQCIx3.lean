-- Written by a program of this session (myprint.py) out of the translation; Lean checks it.
import Derived.Test.YtfpcejkjabmeeaaQCIx0
import Derived.Test.YtfpcejkjabmeeaaFMixCI
import Derived.Test.YtfpcejkjabmeeaaArrEq
import Derived.Test.YtfpcejkjabmeeaaZip
namespace Go.Proofs.Ytfpcejkjabmeeaa.QCI
open Go.Proofs.Ytfpcejkjabmeeaa.Zip Go.RowKit Go.Proofs.YtfpcejkjabmeeaaW.PrintWords Go.Proofs.YtfpcejkjabmeeaaW.PrintLast Go.Proofs.YtfpcejkjabmeeaaW.PrintMore
attribute [local go_sem] max2_int min2_int max_two min_two max_three min_three max_four min_four   -- for this text's walks alone
set_option linter.unusedVariables false
set_option linter.unusedSimpArgs false

/-! ### curve_spline: function 18 -/
mutual
def curve_spline.l0 : Nat → List Int → List (S28) → Int → Int → Option ((List (S28)))
 | 0, _, _, _, _ => none
 | k + 1, x0, x5, x6, x102000 => if x6 < (x0.length : Int) then (if 0 ≤ (wrap64 ((x5.length : Int) - 1)) then (if (wrap64 ((x5.length : Int) - 1)) < (x5.length : Int) then (if 0 ≤ x6 then (if 0 ≤ (wrap64 (x6 + 1)) then (if (wrap64 (x6 + 1)) < (x0.length : Int) then ((QCp.curve_plus.f ((rd_T28 x5 (wrap64 ((x5.length : Int) - 1))).f0) ((rd_T28 x5 (wrap64 ((x5.length : Int) - 1))).f1) (rd x0 x6) (rd x0 (wrap64 (x6 + 1)))).bind fun bt108 => (if x5.length < 8796093022208 then (curve_spline.l0 k x0 (x5 ++ [(⟨bt108.1, bt108.2⟩ : S28)]) (wrap64 (x6 + 2)) x102000) else (none))) else (none)) else (none)) else (none)) else (none)) else (none)) else (if (x5.length : Int) = 2 then (some x5) else (if 0 < (x5.length : Int) then (if 1 < (x5.length : Int) then ((QCp.curve_middle.f ((rd_T28 x5 0).f0) ((rd_T28 x5 0).f1) ((rd_T28 x5 1).f0) ((rd_T28 x5 1).f1)).bind fun bt116 => (curve_spline.l1 k x5 (([(⟨(rd_T28 x5 0).f0, (rd_T28 x5 0).f1⟩ : S28), (⟨bt116.1, bt116.2⟩ : S28)] : List (S28))) 1 x102000)) else (none)) else (none)))
def curve_spline.l1 : Nat → List (S28) → List (S28) → Int → Int → Option ((List (S28)))
 | 0, _, _, _, _ => none
 | k + 1, x5, x7, x8, x102000 => if (wrap64 (x8 + 1)) < (x5.length : Int) then (if 0 ≤ (wrap64 (x8 - 1)) then (if (wrap64 (x8 - 1)) < (x5.length : Int) then (if 0 ≤ x8 then (if x8 < (x5.length : Int) then ((QCp.curve_middle.f ((rd_T28 x5 (wrap64 (x8 - 1))).f0) ((rd_T28 x5 (wrap64 (x8 - 1))).f1) ((rd_T28 x5 x8).f0) ((rd_T28 x5 x8).f1)).bind fun bt127 => (if 0 ≤ (wrap64 (x8 + 1)) then ((QCp.curve_middle.f ((rd_T28 x5 x8).f0) ((rd_T28 x5 x8).f1) ((rd_T28 x5 (wrap64 (x8 + 1))).f0) ((rd_T28 x5 (wrap64 (x8 + 1))).f1)).bind fun bt132 => (curve_spline.l2 k x5 x7 x8 x102000 bt127.1 bt127.2 ((rd_T28 x5 x8).f0) ((rd_T28 x5 x8).f1) bt132.1 bt132.2 1)) else (none))) else (none)) else (none)) else (none)) else (none)) else (if 0 ≤ (wrap64 ((x5.length : Int) - 1)) then (if (wrap64 ((x5.length : Int) - 1)) < (x5.length : Int) then (if x7.length < 8796093022208 then (some (x7 ++ [(⟨(rd_T28 x5 (wrap64 ((x5.length : Int) - 1))).f0, (rd_T28 x5 (wrap64 ((x5.length : Int) - 1))).f1⟩ : S28)])) else (none)) else (none)) else (none))
def curve_spline.l2 : Nat → List (S28) → List (S28) → Int → Int → Int → Int → Int → Int → Int → Int → Int → Option ((List (S28)))
 | 0, _, _, _, _, _, _, _, _, _, _, _ => none
 | k + 1, x5, x7, x8, x102000, x135000, x135001, x136000, x136001, x137000, x137001, x138000 => if x138000 ≤ x102000 then ((curve_spline_1.f 0 x102000 x138000 x135000 x135001 x136000 x136001 x137000 x137001).bind fun t138 => ((curve_spline_1.f 1 x102000 x138000 x135000 x135001 x136000 x136001 x137000 x137001).bind fun t139 => (if x7.length < 8796093022208 then (curve_spline.l2 k x5 (x7 ++ [(⟨t138, t139⟩ : S28)]) x8 x102000 x135000 x135001 x136000 x136001 x137000 x137001 (wrap64 (x138000 + 1))) else (none)))) else (curve_spline.l1 k x5 x7 (wrap64 (x8 + 1)) x102000)
end
def curve_spline.f (k : Nat) (l0 : List Int) (a1 : Int) : Option ((List (S28))) := curve_spline.l0 k l0 (([(⟨0, 0⟩ : S28)] : List (S28))) 0 a1
theorem curve_spline.mono_l : ∀ k, (∀ y0 y1 y2 y3, LeO (curve_spline.l0 k y0 y1 y2 y3) (curve_spline.l0 (k + 1) y0 y1 y2 y3)) ∧ (∀ y0 y1 y2 y3, LeO (curve_spline.l1 k y0 y1 y2 y3) (curve_spline.l1 (k + 1) y0 y1 y2 y3)) ∧ (∀ y0 y1 y2 y3 y4 y5 y6 y7 y8 y9 y10, LeO (curve_spline.l2 k y0 y1 y2 y3 y4 y5 y6 y7 y8 y9 y10) (curve_spline.l2 (k + 1) y0 y1 y2 y3 y4 y5 y6 y7 y8 y9 y10))
 | 0 => ⟨fun _ _ _ _ r h => by simp [curve_spline.l0] at h, fun _ _ _ _ r h => by simp [curve_spline.l1] at h, fun _ _ _ _ _ _ _ _ _ _ _ r h => by simp [curve_spline.l2] at h⟩
 | k + 1 => by
  obtain ⟨ih0, ih1, ih2⟩ := curve_spline.mono_l k
  refine ⟨?_, ?_, ?_⟩
  ·intro y0 y1 y2 y3
   unfold curve_spline.l0
   repeat' first
   | (with_reducible exact ih0 _ _ _ _)
   | (with_reducible exact ih1 _ _ _ _)
   | (with_reducible exact ih2 _ _ _ _ _ _ _ _ _ _ _)
   | (with_reducible exact LeO.refl _)
   | (with_reducible exact LeO.none _)
   | (with_reducible refine LeO.ite ?_ ?_)
   | (with_reducible refine LeO.bind ?_ (fun _ => ?_))
   | exact ih0 _ _ _ _
   | exact ih1 _ _ _ _
   | exact ih2 _ _ _ _ _ _ _ _ _ _ _
   | exact LeO.none _
   | refine LeO.ite ?_ ?_
   | refine LeO.bind ?_ (fun _ => ?_)
  ·intro y0 y1 y2 y3
   unfold curve_spline.l1
   repeat' first
   | (with_reducible exact ih0 _ _ _ _)
   | (with_reducible exact ih1 _ _ _ _)
   | (with_reducible exact ih2 _ _ _ _ _ _ _ _ _ _ _)
   | (with_reducible exact LeO.refl _)
   | (with_reducible exact LeO.none _)
   | (with_reducible refine LeO.ite ?_ ?_)
   | (with_reducible refine LeO.bind ?_ (fun _ => ?_))
   | exact ih0 _ _ _ _
   | exact ih1 _ _ _ _
   | exact ih2 _ _ _ _ _ _ _ _ _ _ _
   | exact LeO.none _
   | refine LeO.ite ?_ ?_
   | refine LeO.bind ?_ (fun _ => ?_)
  ·intro y0 y1 y2 y3 y4 y5 y6 y7 y8 y9 y10
   unfold curve_spline.l2
   repeat' first
   | (with_reducible exact ih0 _ _ _ _)
   | (with_reducible exact ih1 _ _ _ _)
   | (with_reducible exact ih2 _ _ _ _ _ _ _ _ _ _ _)
   | (with_reducible exact LeO.refl _)
   | (with_reducible exact LeO.none _)
   | (with_reducible refine LeO.ite ?_ ?_)
   | (with_reducible refine LeO.bind ?_ (fun _ => ?_))
   | exact ih0 _ _ _ _
   | exact ih1 _ _ _ _
   | exact ih2 _ _ _ _ _ _ _ _ _ _ _
   | exact LeO.none _
   | refine LeO.ite ?_ ?_
   | refine LeO.bind ?_ (fun _ => ?_)
theorem curve_spline.mono : ∀ a0 a1 k, LeO (curve_spline.f k a0 a1) (curve_spline.f (k + 1) a0 a1) := by
 intro a0 a1 k
 obtain ⟨ih0, ih1, ih2⟩ := curve_spline.mono_l k
 unfold curve_spline.f
 repeat' first
   | (with_reducible exact ih0 _ _ _ _)
   | (with_reducible exact ih1 _ _ _ _)
   | (with_reducible exact ih2 _ _ _ _ _ _ _ _ _ _ _)
   | (with_reducible exact LeO.refl _)
   | (with_reducible exact LeO.none _)
   | (with_reducible refine LeO.ite ?_ ?_)
   | (with_reducible refine LeO.bind ?_ (fun _ => ?_))
   | exact ih0 _ _ _ _
   | exact ih1 _ _ _ _
   | exact ih2 _ _ _ _ _ _ _ _ _ _ _
   | exact LeO.none _
   | refine LeO.ite ?_ ?_
   | refine LeO.bind ?_ (fun _ => ?_)
def curve_spline.T5 : Bool × List (List Nat × List Nat) := (true, [([], []), ([], []), ([], []), ([2], [2]), ([3], [3]), ([1, 4], [1, 4]), ([5], [5]), ([], []), ([], []), ([7, 8], [7, 8]), ([9], [9]), ([], []), ([], []), ([12], [12]), ([11, 13], [11, 13]), ([14], [14]), ([10, 15], [10, 15]), ([6, 16], [6, 16]), ([17], [17]), ([0, 18, 17], [0, 18]), ([19, 19, 0, 1, 2, 3, 4, 5, 6, 7, 8, 9, 10, 11, 12, 13, 14, 15, 16, 17, 18, 19], [0, 1, 2, 19])])
def curve_spline.B5 : List Nat := [0, 0, 0, 4, 12, 30, 62, 0, 0, 384, 896, 0, 0, 4096, 14336, 30720, 65408, 131070, 262142, 524287, 1048575]
theorem curve_spline.tab5 : rtab .any (opsOf Try.f18 5) = curve_spline.T5 := by kernel_rfl
theorem curve_spline.bits5 : waitsOk curve_spline.T5.2 curve_spline.B5 = true := by kernel_rfl
def curve_spline.T8 : Bool × List (List Nat × List Nat) := (true, [([], []), ([0], [0]), ([1], [1]), ([], []), ([3], [3]), ([4], [4]), ([], []), ([6], [6]), ([7], [7]), ([5, 8], [5, 8]), ([2, 9], [2, 9]), ([10, 9, 0, 1, 2, 3, 4, 5, 6, 7, 8, 9, 10], [10])])
def curve_spline.B8 : List Nat := [0, 1, 3, 0, 8, 24, 0, 64, 192, 504, 1023, 2047]
theorem curve_spline.tab8 : rtab .any (opsOf Try.f18 8) = curve_spline.T8 := by kernel_rfl
theorem curve_spline.bits8 : waitsOk curve_spline.T8.2 curve_spline.B8 = true := by kernel_rfl
def curve_spline.T12 : Bool × List (List Nat × List Nat) := (true, [([], []), ([], []), ([1], [1]), ([0, 2], [0, 2]), ([3], [3]), ([], []), ([], []), ([5, 6], [5, 6]), ([7], [7]), ([4, 8], [4, 8]), ([], []), ([], []), ([10, 11], [10, 11]), ([12], [12]), ([], []), ([], []), ([14, 15], [14, 15]), ([16], [16]), ([], []), ([], []), ([19], [19]), ([18, 20], [18, 20]), ([21], [21]), ([17, 22, 9], [17, 22]), ([], []), ([], []), ([], []), ([24, 9, 23, 0, 1, 2, 3, 4, 5, 6, 7, 8, 9, 24, 25, 26], [9, 24]), ([25, 13, 27, 0, 1, 2, 3, 4, 5, 6, 7, 8, 9, 10, 11, 12, 13, 24, 25, 26, 27], [13, 25]), ([26, 23, 28, 0, 1, 2, 3, 4, 5, 6, 7, 8, 9, 10, 11, 12, 13, 14, 15, 16, 17, 18, 19, 20, 21, 22, 23, 24, 25, 26, 27, 28], [23, 26])])
def curve_spline.B12 : List Nat := [0, 0, 2, 7, 15, 0, 0, 96, 224, 511, 0, 0, 3072, 7168, 0, 0, 49152, 114688, 0, 0, 524288, 1835008, 3932160, 8373247, 0, 0, 0, 134202367, 268435455, 536870911]
theorem curve_spline.tab12 : rtab .any (opsOf Try.f18 12) = curve_spline.T12 := by kernel_rfl
theorem curve_spline.bits12 : waitsOk curve_spline.T12.2 curve_spline.B12 = true := by kernel_rfl
set_option maxHeartbeats 8000000 in
set_option maxRecDepth 100000 in
theorem curve_spline.calls (k : Nat) (A0 : Option Addr) (c0 : Nat) (l0 : List Int) (a1 : Int) (r : List (S28)) (w : World) (hr0 : Kd.C (Kd.int .i64) w A0 l0.length l0) (hc0 : l0.length ≤ c0) (h : curve_spline.f k l0 a1 = some r) :
  Calls Try.prog 18 #[.slice A0 l0.length c0, .int .i64 a1] w fun e w' => ∃ v0_ : Value, e = .returned (v0_) ∧ Kd.R k28 28 w' w.heap.size (fun _ => True) v0_ r ∧ Below w.heap.size w w' := by
 have hu28 := Try.underlying28
 have HR0 := Aside0.mk hr0
 have HC0 := Aside0.mk hc0
 clear hr0 hc0
 have HB := Aside0.mk (Below.refl w.heap.size w)
 have H : (curve_spline.l0 k l0 (([(⟨0, 0⟩ : S28)] : List (S28))) 0 a1) = some r := h
 clear h
 obtain ⟨y102, hy102⟩ : ∃ y_ : List (S28), y_ = (([(⟨0, 0⟩ : S28)] : List (S28))) := ⟨_, rfl⟩
 replace H : (curve_spline.l0 k l0 y102 0 a1) = some r := by first | (rw [hy102]; with_reducible exact H) | (have H2_ := (Option.bind_some _ _).symm.trans H; rw [hy102]; with_reducible exact H2_) | (have H2_ := (Option.bind_some _ _).symm.trans H; with_reducible exact H2_) | with_reducible exact H | (rw [hy102]; exact H) | exact H
 have Ny102 := Aside0.mk hy102
 clear hy102
 have H' := Aside0.mk H
 clear H
 go_enter Try.func18, Try.ntmps18
 go_wp2_with (first | ((with_reducible refine gate_dst (N := 3) rfl ?_); refine box_event ?hg (N := 3) ?hd (cs := #[.int .i64 a1]) (t := 3) ?hr ?_; (case hd => rfl); (case hg => rfl); (case hr => first | (go_simp; done) | (go_simp; rfl)); intro gb101 hg w3 hbox hb; have n0_ := Aside0.mk (below_step (by repeat (first | (with_reducible first | exact HB.out | apply below_alloc | apply pw_below_drewN | apply below_drew1) | exact HB.out)) hb); have n1_ := Aside0.mk (hbox); have n2_ := Aside0.mk ((by rw [hg]; exact (below_size (by repeat (first | (with_reducible first | exact HB.out | apply below_alloc | apply pw_below_drewN | apply below_drew1) | exact HB.out))) : w.heap.size ≤ gb101)); have n3_ := Aside0.mk ((by rw [hg]; exact (below_size (by repeat (first | (with_reducible first | exact HB.out | apply below_alloc | apply pw_below_drewN | apply below_drew1) | exact HB.out))) : w.heap.size ≤ gb101)); clear HB; have HB := n0_; have BK101 := n1_; have GW101 := n2_; have GE101 := n3_; clear n0_ n1_ n2_ n3_; clear hb hbox hg) | ((with_reducible refine gate_dst (N := 15) rfl ?_); refine Kd.R_lit k28 _ 28 ?hg (N := 15) ?hd (xs := ([(⟨0, 0⟩ : S28)] : List (S28))) (inner := [.int .i64 0, .int .i64 0]) (ok := fun _ => True) (okp := fun _ => True) ?hr ?hp (fun _ hk => hk) trivial (Below.refl _ _) (Nat.le_refl _) (by simp) ?_; (case hd => rfl); (case hg => rfl); (case hr => first | (go_simp; done) | (go_simp; rfl)); (case hp => exact (Reps.c2 (show Kd.M k28 _ _ _ (⟨0, 0⟩ : S28) [.int .i64 0, .int .i64 0] from (k28_mkM _ _ _ (⟨0, 0⟩ : S28) )) (Reps.none _ _))); intro v103 w4 ho5 hb hg_ hnew_; clear hg_ hnew_; (first | rw [← Ny102.out] at ho5 | (simp only [Int.reduceToNat] at ho5; rw [← Ny102.out] at ho5)); have n0_ := Aside0.mk (Kd.R_lower ho5 (below_size (by repeat (first | (with_reducible first | exact HB.out | apply below_alloc | apply pw_below_drewN | apply below_drew1 | refine below_set ?_ GE101.out) | exact HB.out)))); have n1_ := Aside0.mk (blk_below (g := gb101) (o := .cells #[.int .i64 a1] 3 (0, 0)) (by (with_reducible repeat (first | refine blk_drewN ?_ _ | refine blk_drew ?_ | refine blk_alloc ?_ _)); exact BK101.out) hb); have n2_ := Aside0.mk (below_step (by repeat (first | (with_reducible first | exact HB.out | apply below_alloc | apply pw_below_drewN | apply below_drew1 | refine below_set ?_ GE101.out) | exact HB.out)) hb); clear BK101; clear HB; have HO104 := n0_; have BK101 := n1_; have HB := n2_; clear n0_ n1_ n2_; clear hb ho5))
 go_loopg [5, 6] k (fun kq v5 v6 w' => ∃ (x5_1 : List (S28)) (x6_1 : Int), v6 = .int .i64 x6_1 ∧ Aside0 (curve_spline.l0 kq l0 x5_1 x6_1 a1 = some r) ∧ Aside0 (kq ≤ k) ∧ Aside0 (Kd.R k28 28 w' w.heap.size (fun _ => True) v5 x5_1) ∧ Aside0 (w'.heap[gb101]? = some (.cells #[.int .i64 a1] 3 (0, 0))) ∧ Aside0 (Below w.heap.size w w'))
 case atStart => exact ⟨(y102), (0), (by first | rfl | (simp; done) | (simp [*]; done)), H', ⟨Nat.le_refl _⟩, ⟨by (with_reducible repeat (first | apply Kd.R_alloc | apply Kd.R_drewN | apply Kd.R_drew)); exact HO104.out⟩, ⟨by (with_reducible repeat (first | refine blk_drewN ?_ _ | refine blk_drew ?_ | refine blk_alloc ?_ _)); exact BK101.out⟩, ⟨by repeat (first | (with_reducible first | exact HB.out | apply below_alloc | apply pw_below_drewN | apply below_drew1 | refine below_set ?_ GE101.out) | exact HB.out)⟩⟩
 case round =>
  clear H'
  try clear c1
  try clear c2
  try clear p2
  obtain ⟨x5_1, x6_1, rfl, HA, HK1, HO_5, BK101, HB⟩ := hrel
  cases gk with
  | zero => exact absurd HA.out (by simp [curve_spline.l0])
  | succ k1 =>
   have H := HA.out
   clear HA
   simp only [curve_spline.l0] at H
   by_cases c6 : x6_1 < (l0.length : Int)
   ·rw [if_pos c6] at H
    have c6b0 : decide (x6_1 < (l0.length : Int)) = true := decide_eq_true c6
    clear c6
    obtain ⟨ji7, hji7⟩ : ∃ j_ : Int, (wrap64 ((x5_1.length : Int) - 1)) = j_ := ⟨_, rfl⟩
    replace H : (if 0 ≤ (ji7) then (if (ji7) < (x5_1.length : Int) then (if 0 ≤ x6_1 then (if 0 ≤ (wrap64 (x6_1 + 1)) then (if (wrap64 (x6_1 + 1)) < (l0.length : Int) then ((QCp.curve_plus.f ((rd_T28 x5_1 (ji7)).f0) ((rd_T28 x5_1 (ji7)).f1) (rd l0 x6_1) (rd l0 (wrap64 (x6_1 + 1)))).bind fun bt108 => (if x5_1.length < 8796093022208 then (curve_spline.l0 k1 l0 (x5_1 ++ [(⟨bt108.1, bt108.2⟩ : S28)]) (wrap64 (x6_1 + 2)) a1) else (none))) else (none)) else (none)) else (none)) else (none)) else (none)) = some r := by first | (rw [hji7] at H; exact H) | (simp only [hji7] at H ⊢; exact H)
    have hji7w : (IntKind.i64.wrap ((x5_1.length : Int) - 1)) = ji7 := (i64_w _).trans hji7
    by_cases c8 : 0 ≤ (ji7)
    ·rw [if_pos c8] at H
     have c8b0 : decide (0 ≤ (ji7)) = true := decide_eq_true c8
     clear c8
     by_cases c9 : (ji7) < (x5_1.length : Int)
     ·rw [if_pos c9] at H
      have c9b0 : decide ((ji7) < (x5_1.length : Int)) = true := decide_eq_true c9
      clear c9
      by_cases c10 : 0 ≤ x6_1
      ·rw [if_pos c10] at H
       have c10b0 : decide (0 ≤ x6_1) = true := decide_eq_true c10
       clear c10
       obtain ⟨ji11, hji11⟩ : ∃ j_ : Int, (wrap64 (x6_1 + 1)) = j_ := ⟨_, rfl⟩
       replace H : (if 0 ≤ (ji11) then (if (ji11) < (l0.length : Int) then ((QCp.curve_plus.f ((rd_T28 x5_1 (ji7)).f0) ((rd_T28 x5_1 (ji7)).f1) (rd l0 x6_1) (rd l0 (ji11))).bind fun bt108 => (if x5_1.length < 8796093022208 then (curve_spline.l0 k1 l0 (x5_1 ++ [(⟨bt108.1, bt108.2⟩ : S28)]) (wrap64 (x6_1 + 2)) a1) else (none))) else (none)) else (none)) = some r := by first | (rw [hji11] at H; exact H) | (simp only [hji11] at H ⊢; exact H)
       have hji11w : (IntKind.i64.wrap (x6_1 + 1)) = ji11 := (i64_w _).trans hji11
       by_cases c12 : 0 ≤ (ji11)
       ·rw [if_pos c12] at H
        have c12b0 : decide (0 ≤ (ji11)) = true := decide_eq_true c12
        clear c12
        by_cases c13 : (ji11) < (l0.length : Int)
        ·rw [if_pos c13] at H
         have c13b0 : decide ((ji11) < (l0.length : Int)) = true := decide_eq_true c13
         clear c13
         replace H := Option.bind_eq_some_iff.mp H
         obtain ⟨⟨t108, t109⟩, A140, H⟩ := H
         replace H : (if x5_1.length < 8796093022208 then (curve_spline.l0 k1 l0 (x5_1 ++ [(⟨t108, t109⟩ : S28)]) (wrap64 (x6_1 + 2)) a1) else (none)) = some r := H
         have A14 := Aside0.mk A140
         clear A140
         by_cases c15 : x5_1.length < 8796093022208
         ·rw [if_pos c15] at H
          have LMc15 := Aside0.mk c15
          clear c15
          obtain ⟨y110, hy110⟩ : ∃ y_ : List (S28), y_ = (x5_1 ++ [(⟨t108, t109⟩ : S28)]) := ⟨_, rfl⟩
          replace H : (curve_spline.l0 k1 l0 y110 (wrap64 (x6_1 + 2)) a1) = some r := by first | (rw [hy110]; with_reducible exact H) | (have H2_ := (Option.bind_some _ _).symm.trans H; rw [hy110]; with_reducible exact H2_) | (have H2_ := (Option.bind_some _ _).symm.trans H; with_reducible exact H2_) | with_reducible exact H | (rw [hy110]; exact H) | exact H
          have Ny110 := Aside0.mk hy110
          clear hy110
          have H' := Aside0.mk H
          clear H
          try go_wp2
          have n0_ := Aside0.mk (Kd.R_drew HO_5.out)
          have n1_ := Aside0.mk (blk_drew BK101.out)
          have n2_ := Aside0.mk (below_drew1 HB.out)
          clear HO_5
          clear BK101
          clear HB
          have HO_5 := n0_
          have BK101 := n1_
          have HB := n2_
          clear n0_ n1_ n2_
          obtain ⟨Ao17, co17, eo17⟩ := Kd.R_slice HO_5.out
          (first | subst eo17 | (injection eo17 with f1_ f2_ f3_; have f4_ := f1_.symm; have f5_ := f3_.symm; clear f1_ f2_ f3_; subst f4_; subst f5_))
          have p105 : 0 ≤ ((ji7) : Int) := of_decide_eq_true (by first | (with_reducible assumption) | assumption)
          have q105 : (ji7) < (x5_1.length : Int) := of_decide_eq_true (by first | (with_reducible assumption) | assumption)
          obtain ⟨ad105, e105, hx105_0, hx105_1⟩ := at_T28 (Kd.R_reads' HO_5.out).2.2 (ji7) p105 q105
          cases e105
          replace p105 := eq_true p105
          replace q105 := eq_true q105
          have p106 : 0 ≤ (x6_1 : Int) := of_decide_eq_true (by first | (with_reducible assumption) | assumption)
          have q106 : x6_1 < (l0.length : Int) := of_decide_eq_true (by first | (with_reducible assumption) | assumption)
          obtain ⟨ad106, e106, hx106_0⟩ := Kd.at_int HR0.out x6_1 p106 q106
          have hw106_0 := hx106_0
          cases e106
          replace hx106_0 := (HB.out.cell (World.block_lt_of_cell? w _ hx106_0)).trans hx106_0
          replace p106 := eq_true p106
          replace q106 := eq_true q106
          have p107 : 0 ≤ ((ji11) : Int) := of_decide_eq_true (by first | (with_reducible assumption) | assumption)
          have q107 : (ji11) < (l0.length : Int) := of_decide_eq_true (by first | (with_reducible assumption) | assumption)
          obtain ⟨ad107, e107, hx107_0⟩ := Kd.at_int HR0.out (ji11) p107 q107
          have hw107_0 := hx107_0
          obtain rfl : ad106 = ad107 := (by injection e107)
          replace hx107_0 := (HB.out.cell (World.block_lt_of_cell? w _ hx107_0)).trans hx107_0
          replace p107 := eq_true p107
          replace q107 := eq_true q107
          refine start_ (n := 21) (S := fun w' => w'.cell? (ad105.add (((ji7)).toNat * 2)) = some (.int .i64 ((rd_T28 x5_1 (ji7)).f0)) ∧ w'.cell? ⟨(ad105.add (((ji7)).toNat * 2)).block, (ad105.add (((ji7)).toNat * 2)).off + 1, none⟩ = some (.int .i64 ((rd_T28 x5_1 (ji7)).f1)) ∧ w'.cell? (ad106.add (x6_1).toNat) = some (.int .i64 (rd l0 x6_1)) ∧ w'.cell? (ad106.add ((ji11)).toNat) = some (.int .i64 (rd l0 (ji11)))) (ds := [18, 19]) #[false, false, false, false, false, false, false, false, false, false, false, false, false, false, false, false, false, false, false, false, false] (by kernel_rfl) rfl rfl ⟨hx105_0, hx105_1, ((HB.out.cell (World.block_lt_of_cell? w _ hw106_0)).trans hw106_0), ((HB.out.cell (World.block_lt_of_cell? w _ hw107_0)).trans hw107_0)⟩ (fun hHeld => ?_); refine with_tabW curve_spline.tab5 curve_spline.bits5 (fun HT_ HW_ => ?_)
          generalize wr.drew = w16 at HO_5 BK101 HB hx105_0 hx105_1 hx106_0 hx107_0 hHeld ⊢
          refine go_in [0, 1, 2, 3, 4, 5, 7, 8, 9, 11, 12, 13, 14, 6, 10, 15, 16] ?_
          repeat (first | (refine pz (v := ?_) (a' := ?_) HT_ rfl rfl (by kernel_rfl) (fun _ _ _ h => h) (Or.inl ⟨by rfl, ?_⟩) ?_ ?_; rotate_left; (focus intro w'; go_simp; with_reducible rfl); rotate_left; (focus simp only [Act.put, List.setIfInBounds_toArray, List.set_cons_zero, List.set_cons_succ, i64_w, i32_w, u8_w, u8_tm, u8_c, u8_cm]; rfl)) | (refine tz (v := ?_) (a' := ?_) HT_ HW_ rfl rfl hHeld (by kernel_rfl) (fun _ _ _ h => h) (Or.inl ⟨by rfl, ?_⟩) ?_ ?_; rotate_left; (focus rintro w' ⟨s0, s1, s2, s3⟩; go_simp; with_reducible rfl); rotate_left; (focus simp only [Act.put, List.setIfInBounds_toArray, List.set_cons_zero, List.set_cons_succ, i64_w, i32_w, u8_w, u8_tm, u8_c, u8_cm]; rfl)))
          refine go_out ?_
          refine one_ (i := 17) (N := some 39) #[true, true, true, true, true, true, true, true, true, true, true, true, true, true, true, true, true, true, false, false, false] rfl rfl (one_of HT_.out (by kernel_rfl)) (by decide) (fun K hK => ?_)
          refine goes_ Try.func30 (by kernel_rfl) rfl #[.agg #[.int .i64 ((rd_T28 x5_1 (ji7)).f0), .int .i64 ((rd_T28 x5_1 (ji7)).f1)], .agg #[.int .i64 (rd l0 x6_1), .int .i64 (rd l0 (ji11))]] (by rfl) rfl rfl (by (try simp only [List.map_toArray, List.map_cons, List.map_nil]); first | done | (simp only [hji11, hji7]; rfl) | rfl | (simp only [List.length_drop, List.length_take]; rfl)) ?_
          with_reducible refine (QCp.curve_plus.calls ((rd_T28 x5_1 (ji7)).f0) ((rd_T28 x5_1 (ji7)).f1) (rd l0 x6_1) (rd l0 (ji11)) t108 t109 _ A14.out).mono ?_
          rintro e w18 ⟨rfl, hb⟩
          have HS0_ := (hb.cell (World.block_lt_of_cell? _ _ (hHeld.1))).trans (hHeld.1)
          have HS1_ := (hb.cell (World.block_lt_of_cell? _ _ (hHeld.2.1))).trans (hHeld.2.1)
          refine ⟨_, rfl, ?_⟩
          have n0_ := Aside0.mk (Kd.R_below (by (with_reducible repeat (first | apply Kd.R_alloc | apply Kd.R_drewN | apply Kd.R_drew)); exact HO_5.out) hb)
          have n1_ := Aside0.mk (blk_below (g := gb101) (o := .cells #[.int .i64 a1] 3 (0, 0)) (by (with_reducible repeat (first | refine blk_drewN ?_ _ | refine blk_drew ?_ | refine blk_alloc ?_ _)); exact BK101.out) hb)
          have n2_ := Aside0.mk (below_step (by repeat (first | (with_reducible first | exact HB.out | apply below_alloc | apply pw_below_drewN | apply below_drew1 | refine below_set ?_ GE101.out) | exact HB.out)) hb)
          clear HO_5
          clear BK101
          clear HB
          have HO_5 := n0_
          have BK101 := n1_
          have HB := n2_
          clear n0_ n1_ n2_
          (try clear hb)
          (try clear hb2)
          (try clear hk)
          (try clear hi)
          refine hK.out _ _ ⟨HS0_, HS1_, ((HB.out.cell (World.block_lt_of_cell? w _ hw106_0)).trans hw106_0), ((HB.out.cell (World.block_lt_of_cell? w _ hw107_0)).trans hw107_0)⟩ (fun hHeld => ?_)
          clear hK K
          refine norm_ (a' := ?_) ?_ ?_
          rotate_left
          ·show Act.put _ (some 39) _ = _
           simp only [Act.put, List.setIfInBounds_toArray, List.set_cons_zero, List.set_cons_succ, i64_w, i32_w]
           rfl
          refine last_ (i := 18) (N := some 40) #[true, true, true, true, true, true, true, true, true, true, true, true, true, true, true, true, true, true, true, false, false] rfl rfl (one_of HT_.out (by kernel_rfl)) (by decide) (fun K hK => ?_)
          refine value_ (w1 := ?_) (v := ?_) (by rfl) rfl ?_ ?_
          rotate_left 2
          ·go_simp
           constructor
           ·rfl
           ·rfl
          refine hK.out _ _ ?_
          clear hK K
          refine norm_ (a' := ?_) ?_ ?_
          rotate_left
          ·show Act.put _ (some 40) _ = _
           simp only [Act.put, List.setIfInBounds_toArray, List.set_cons_zero, List.set_cons_succ, i64_w, i32_w]
           rfl
          refine last_ (i := 19) (N := some 41) #[true, true, true, true, true, true, true, true, true, true, true, true, true, true, true, true, true, true, true, true, false] rfl rfl (one_of HT_.out (by kernel_rfl)) (by decide) (fun K hK => ?_)
          refine Kd.R_append_step k28 (w0 := w) w.heap.size (by rfl) (.tmp 22) (.tmp 40) 23 28 (.agg #[(.int .i64 0), (.int .i64 0)]) 16 rfl Try.underlying23 info28 rfl (by decide) (by omega) (.slice (some ad105) x5_1.length co17) x5_1 (⟨t108, t109⟩ : S28) [.int .i64 t108, .int .i64 t109] (fun _ => True) (fun _ => False) rfl rfl ?aP (fun _ hk => hk.elim) ?aF ?aO ?aB ?aS ?aL ?_
          (case aP => exact k28_mkM _ _ _ (⟨t108, t109⟩ : S28))
          (case aB => exact (by repeat (first | (with_reducible first | exact HB.out | apply below_alloc | apply pw_below_drewN | apply below_drew1 | refine below_set ?_ GE101.out) | exact HB.out)))
          (case aF => exact (fun _ _ => trivial))
          (case aO => exact (by (with_reducible repeat (first | apply Kd.R_alloc | apply Kd.R_drewN | apply Kd.R_drew)); exact HO_5.out))
          (case aS => exact (below_size (by repeat (first | (with_reducible first | exact HB.out | apply below_alloc | apply pw_below_drewN | apply below_drew1 | refine below_set ?_ GE101.out) | exact HB.out))))
          (case aL => have := LMc15.out; omega)
          intro v111 w19 ho hb hg hat
          rw [← Ny110.out] at ho
          have n0_ := Aside0.mk (blk_grown (g := gb101) (o := .cells #[.int .i64 a1] 3 (0, 0)) (by (with_reducible repeat (first | refine blk_drewN ?_ _ | refine blk_drew ?_ | refine blk_alloc ?_ _)); exact BK101.out) hg (Kd.R_ne HO_5.out BK101.out (by decide)))
          have n1_ := Aside0.mk (hb)
          have n2_ := Aside0.mk (ho)
          clear BK101
          clear HB
          clear HO_5
          have BK101 := n0_
          have HB := n1_
          have HO112 := n2_
          clear n0_ n1_ n2_
          clear ho hb hg hat
          refine hK.out _ _ ?_
          clear hK K
          refine norm_ (a' := ?_) ?_ ?_
          rotate_left
          ·show Act.put _ (some 41) _ = _
           simp only [Act.put, List.setIfInBounds_toArray, List.set_cons_zero, List.set_cons_succ, i64_w, i32_w]
           rfl
          refine go_in [20] ?_
          (refine pz (v := ?_) (a' := ?_) HT_ rfl rfl (by kernel_rfl) (fun _ _ _ h => h) (Or.inl ⟨by rfl, ?_⟩) ?_ ?_; rotate_left; (focus intro w'; go_simp; with_reducible rfl); rotate_left; (focus simp only [Act.put, List.setIfInBounds_toArray, List.set_cons_zero, List.set_cons_succ, i64_w, i32_w, u8_w, u8_tm, u8_c, u8_cm]; rfl))
          refine go_out ?_
          refine done_ (done_of HT_.out (by kernel_rfl)) ?_
          try go_wp2
          go_roundg k1
          case measure => have := HK1.out; omega
          case rel => exact ⟨(y110), (wrap64 (x6_1 + 2)), (by first | rfl | (simp; done) | (simp [*]; done)), H', ⟨by have := HK1.out; omega⟩, ⟨by (with_reducible repeat (first | apply Kd.R_alloc | apply Kd.R_drewN | apply Kd.R_drew)); exact HO112.out⟩, ⟨by (with_reducible repeat (first | refine blk_drewN ?_ _ | refine blk_drew ?_ | refine blk_alloc ?_ _)); exact BK101.out⟩, ⟨by repeat (first | (with_reducible first | exact HB.out | apply below_alloc | apply pw_below_drewN | apply below_drew1 | refine below_set ?_ GE101.out) | exact HB.out)⟩⟩
         ·rw [if_neg c15] at H
          exact absurd H (by simp)
        ·rw [if_neg c13] at H
         exact absurd H (by simp)
       ·rw [if_neg c12] at H
        exact absurd H (by simp)
      ·rw [if_neg c10] at H
       exact absurd H (by simp)
     ·rw [if_neg c9] at H
      exact absurd H (by simp)
    ·rw [if_neg c8] at H
     exact absurd H (by simp)
   ·rw [if_neg c6] at H
    have c6b0 : decide (x6_1 < (l0.length : Int)) = false := decide_eq_false c6
    clear c6
    by_cases c20 : (x5_1.length : Int) = 2
    ·rw [if_pos c20] at H
     have c20b0 : ((x5_1.length : Int) == 2) = true := beq_iff_eq.mpr c20
     have c20b1 : ((x5_1.length : Int) != 2) = false := bne_eq_false_iff_eq.mpr c20
     clear c20
     obtain rfl := Option.some.inj H
     obtain ⟨Ao21, co21, eo21⟩ := Kd.R_slice HO_5.out
     subst eo21
     go_wp2
     go_ret
     exact ⟨_, by first | rfl | (simp [errW_none, errW_some] <;> rfl) | (simp [*, errW_none, errW_some] <;> rfl), by (with_reducible repeat (first | apply Kd.R_alloc | apply Kd.R_drewN | apply Kd.R_drew)); exact HO_5.out, by repeat (first | (with_reducible first | exact HB.out | apply below_alloc | apply pw_below_drewN | apply below_drew1 | refine below_set ?_ GE101.out) | exact HB.out)⟩
    ·rw [if_neg c20] at H
     have c20b0 : ((x5_1.length : Int) == 2) = false := beq_eq_false_iff_ne.mpr c20
     have c20b1 : ((x5_1.length : Int) != 2) = true := bne_iff_ne.mpr c20
     by_cases c22 : 0 < (x5_1.length : Int)
     ·rw [if_pos c22] at H
      have c22b0 : decide (0 < (x5_1.length : Int)) = true := decide_eq_true c22
      have c22b1 : decide (0 < x5_1.length) = true := decide_eq_true (by omega)
      clear c22
      by_cases c23 : 1 < (x5_1.length : Int)
      ·rw [if_pos c23] at H
       have c23b0 : decide (1 < (x5_1.length : Int)) = true := decide_eq_true c23
       have c23b1 : decide (1 < x5_1.length) = true := decide_eq_true (by omega)
       clear c23
       replace H := Option.bind_eq_some_iff.mp H
       obtain ⟨⟨t116, t117⟩, A240, H⟩ := H
       replace H : (curve_spline.l1 k1 x5_1 (([(⟨(rd_T28 x5_1 0).f0, (rd_T28 x5_1 0).f1⟩ : S28), (⟨t116, t117⟩ : S28)] : List (S28))) 1 a1) = some r := H
       have A24 := Aside0.mk A240
       clear A240
       obtain ⟨y118, hy118⟩ : ∃ y_ : List (S28), y_ = (([(⟨(rd_T28 x5_1 0).f0, (rd_T28 x5_1 0).f1⟩ : S28), (⟨t116, t117⟩ : S28)] : List (S28))) := ⟨_, rfl⟩
       replace H : (curve_spline.l1 k1 x5_1 y118 1 a1) = some r := by first | (rw [hy118]; with_reducible exact H) | (have H2_ := (Option.bind_some _ _).symm.trans H; rw [hy118]; with_reducible exact H2_) | (have H2_ := (Option.bind_some _ _).symm.trans H; with_reducible exact H2_) | with_reducible exact H | (rw [hy118]; exact H) | exact H
       have Ny118 := Aside0.mk hy118
       clear hy118
       have H' := Aside0.mk H
       clear H
       obtain ⟨Ao25, co25, eo25⟩ := Kd.R_slice HO_5.out
       subst eo25
       try go_wp2
       have n0_ := Aside0.mk (Kd.R_drew HO_5.out)
       have n1_ := Aside0.mk (blk_drew BK101.out)
       have n2_ := Aside0.mk (below_drew1 HB.out)
       clear HO_5
       clear BK101
       clear HB
       have HO_5 := n0_
       have BK101 := n1_
       have HB := n2_
       clear n0_ n1_ n2_
       have p113 : 0 ≤ (0 : Int) := (by omega)
       have q113 : 0 < (x5_1.length : Int) := of_decide_eq_true (by first | (with_reducible assumption) | assumption)
       obtain ⟨ad113, e113, hx113_0, hx113_1⟩ := at_T28 (Kd.R_reads' HO_5.out).2.2 0 p113 q113
       cases e113
       have qi113 : (0 < x5_1.length) = True := eq_true (by omega)
       (try rw [show ((0 : Int)).toNat = 0 from rfl] at hx113_0)
       (try rw [show 0 * 2 = 0 from rfl] at hx113_0)
       (try rw [Addr.add_zero'] at hx113_0)
       (try rw [show ((0 : Int)).toNat = 0 from rfl] at hx113_1)
       (try rw [show 0 * 2 = 0 from rfl] at hx113_1)
       (try rw [Addr.add_zero'] at hx113_1)
       replace p113 := eq_true p113
       replace q113 := eq_true q113
       have p114 : 0 ≤ (0 : Int) := (by omega)
       have q114 : 0 < (x5_1.length : Int) := of_decide_eq_true (by first | (with_reducible assumption) | assumption)
       obtain ⟨ad114, e114, hx114_0, hx114_1⟩ := at_T28 (Kd.R_reads' HO_5.out).2.2 0 p114 q114
       obtain rfl : ad113 = ad114 := (by injection e114)
       have qi114 : (0 < x5_1.length) = True := eq_true (by omega)
       (try rw [show ((0 : Int)).toNat = 0 from rfl] at hx114_0)
       (try rw [show 0 * 2 = 0 from rfl] at hx114_0)
       (try rw [Addr.add_zero'] at hx114_0)
       (try rw [show ((0 : Int)).toNat = 0 from rfl] at hx114_1)
       (try rw [show 0 * 2 = 0 from rfl] at hx114_1)
       (try rw [Addr.add_zero'] at hx114_1)
       replace p114 := eq_true p114
       replace q114 := eq_true q114
       have p115 : 0 ≤ (1 : Int) := (by omega)
       have q115 : 1 < (x5_1.length : Int) := of_decide_eq_true (by first | (with_reducible assumption) | assumption)
       obtain ⟨ad115, e115, hx115_0, hx115_1⟩ := at_T28 (Kd.R_reads' HO_5.out).2.2 1 p115 q115
       obtain rfl : ad113 = ad115 := (by injection e115)
       (try simp only [show (1 : Int).toNat = 1 from rfl, Nat.reduceMul, Nat.reduceEqDiff, Go.Addr.add, ↓reduceIte] at hx115_0)
       (try simp only [show (1 : Int).toNat = 1 from rfl, Nat.reduceMul, Nat.reduceEqDiff, Go.Addr.add, ↓reduceIte] at hx115_1)
       have qi115 : (1 < x5_1.length) = True := eq_true (by omega)
       (try rw [show ((1 : Int)).toNat = 1 from rfl] at hx115_0)
       (try rw [show 1 * 2 = 2 from rfl] at hx115_0)
       (try rw [show ((1 : Int)).toNat = 1 from rfl] at hx115_1)
       (try rw [show 1 * 2 = 2 from rfl] at hx115_1)
       replace p115 := eq_true p115
       replace q115 := eq_true q115
       refine start_ (n := 12) (S := fun w' => w'.cell? ad113 = some (.int .i64 ((rd_T28 x5_1 0).f0)) ∧ w'.cell? ⟨ad113.block, ad113.off + 1, none⟩ = some (.int .i64 ((rd_T28 x5_1 0).f1)) ∧ w'.cell? ad113 = some (.int .i64 ((rd_T28 x5_1 0).f0)) ∧ w'.cell? ⟨ad113.block, ad113.off + 1, none⟩ = some (.int .i64 ((rd_T28 x5_1 0).f1)) ∧ w'.cell? ⟨ad113.block, ad113.off + 2, none⟩ = some (.int .i64 ((rd_T28 x5_1 1).f0)) ∧ w'.cell? ⟨ad113.block, ad113.off + 2 + 1, none⟩ = some (.int .i64 ((rd_T28 x5_1 1).f1))) (ds := []) #[false, false, false, false, false, false, false, false, false, false, false, false] (by kernel_rfl) rfl rfl ⟨hx113_0, hx113_1, hx114_0, hx114_1, hx115_0, hx115_1⟩ (fun hHeld => ?_); refine with_tabW curve_spline.tab8 curve_spline.bits8 (fun HT_ HW_ => ?_)
       generalize wr.drew = w26 at HO_5 BK101 HB hx113_0 hx113_1 hx114_0 hx114_1 hx115_0 hx115_1 hHeld ⊢
       refine go_in [0, 1, 3, 4, 6, 7, 2, 5, 8] ?_
       repeat (first | (refine pz (v := ?_) (a' := ?_) HT_ rfl rfl (by kernel_rfl) (fun _ _ _ h => h) (Or.inl ⟨by rfl, ?_⟩) ?_ ?_; rotate_left; (focus intro w'; go_simp; with_reducible rfl); rotate_left; (focus simp only [Act.put, List.setIfInBounds_toArray, List.set_cons_zero, List.set_cons_succ, i64_w, i32_w, u8_w, u8_tm, u8_c, u8_cm]; rfl)) | (refine tz (v := ?_) (a' := ?_) HT_ HW_ rfl rfl hHeld (by kernel_rfl) (fun _ _ _ h => h) (Or.inl ⟨by rfl, ?_⟩) ?_ ?_; rotate_left; (focus rintro w' ⟨s0, s1, s2, s3, s4, s5⟩; go_simp; with_reducible rfl); rotate_left; (focus simp only [Act.put, List.setIfInBounds_toArray, List.set_cons_zero, List.set_cons_succ, i64_w, i32_w, u8_w, u8_tm, u8_c, u8_cm]; rfl)))
       refine go_out ?_
       refine one_ (i := 9) (N := some 55) #[true, true, true, true, true, true, true, true, true, true, false, false] rfl rfl (one_of HT_.out (by kernel_rfl)) (by decide) (fun K hK => ?_)
       refine goes_ Try.func33 (by kernel_rfl) rfl #[.agg #[.int .i64 ((rd_T28 x5_1 0).f0), .int .i64 ((rd_T28 x5_1 0).f1)], .agg #[.int .i64 ((rd_T28 x5_1 1).f0), .int .i64 ((rd_T28 x5_1 1).f1)]] (by rfl) rfl rfl (by (try simp only [List.map_toArray, List.map_cons, List.map_nil]); first | done | rfl | (simp only [List.length_drop, List.length_take]; rfl)) ?_
       with_reducible refine (QCp.curve_middle.calls ((rd_T28 x5_1 0).f0) ((rd_T28 x5_1 0).f1) ((rd_T28 x5_1 1).f0) ((rd_T28 x5_1 1).f1) t116 t117 _ A24.out).mono ?_
       rintro e w27 ⟨rfl, hb⟩
       have HS0_ := (hb.cell (World.block_lt_of_cell? _ _ (hHeld.1))).trans (hHeld.1)
       have HS1_ := (hb.cell (World.block_lt_of_cell? _ _ (hHeld.2.1))).trans (hHeld.2.1)
       have HS2_ := (hb.cell (World.block_lt_of_cell? _ _ (hHeld.2.2.1))).trans (hHeld.2.2.1)
       have HS3_ := (hb.cell (World.block_lt_of_cell? _ _ (hHeld.2.2.2.1))).trans (hHeld.2.2.2.1)
       have HS4_ := (hb.cell (World.block_lt_of_cell? _ _ (hHeld.2.2.2.2.1))).trans (hHeld.2.2.2.2.1)
       have HS5_ := (hb.cell (World.block_lt_of_cell? _ _ (hHeld.2.2.2.2.2))).trans (hHeld.2.2.2.2.2)
       refine ⟨_, rfl, ?_⟩
       have n0_ := Aside0.mk (Kd.R_below (by (with_reducible repeat (first | apply Kd.R_alloc | apply Kd.R_drewN | apply Kd.R_drew)); exact HO_5.out) hb)
       have n1_ := Aside0.mk (blk_below (g := gb101) (o := .cells #[.int .i64 a1] 3 (0, 0)) (by (with_reducible repeat (first | refine blk_drewN ?_ _ | refine blk_drew ?_ | refine blk_alloc ?_ _)); exact BK101.out) hb)
       have n2_ := Aside0.mk (below_step (by repeat (first | (with_reducible first | exact HB.out | apply below_alloc | apply pw_below_drewN | apply below_drew1 | refine below_set ?_ GE101.out) | exact HB.out)) hb)
       clear HO_5
       clear BK101
       clear HB
       have HO_5 := n0_
       have BK101 := n1_
       have HB := n2_
       clear n0_ n1_ n2_
       (try clear hb)
       (try clear hb2)
       (try clear hk)
       (try clear hi)
       refine hK.out _ _ ⟨HS0_, HS1_, HS2_, HS3_, HS4_, HS5_⟩ (fun hHeld => ?_)
       clear hK K
       refine norm_ (a' := ?_) ?_ ?_
       rotate_left
       ·show Act.put _ (some 55) _ = _
        simp only [Act.put, List.setIfInBounds_toArray, List.set_cons_zero, List.set_cons_succ, i64_w, i32_w]
        rfl
       refine one_ (i := 10) (N := some 56) #[true, true, true, true, true, true, true, true, true, true, true, false] rfl rfl (one_of HT_.out (by kernel_rfl)) (by decide) (fun K hK => ?_)
       refine Kd.R_lit_step k28 _ 28 ?hg (N := 56) ?hd (xs := ([(⟨(rd_T28 x5_1 0).f0, (rd_T28 x5_1 0).f1⟩ : S28), (⟨t116, t117⟩ : S28)] : List (S28))) (inner := [.int .i64 ((rd_T28 x5_1 0).f0), .int .i64 ((rd_T28 x5_1 0).f1), .int .i64 t116, .int .i64 t117]) (ok := fun _ => True) (okp := fun _ => True) ?hr ?hp (fun _ hk => hk) trivial (Below.refl _ _) (Nat.le_refl _) (by simp) ?_; (case hd => rfl); (case hg => rfl); (case hr => first | (go_simp; done) | (go_simp; rfl)); (case hp => exact (Reps.c2 (show Kd.M k28 _ _ _ (⟨(rd_T28 x5_1 0).f0, (rd_T28 x5_1 0).f1⟩ : S28) [.int .i64 ((rd_T28 x5_1 0).f0), .int .i64 ((rd_T28 x5_1 0).f1)] from (k28_mkM _ _ _ (⟨(rd_T28 x5_1 0).f0, (rd_T28 x5_1 0).f1⟩ : S28) )) (Reps.c2 (show Kd.M k28 _ _ _ (⟨t116, t117⟩ : S28) [.int .i64 t116, .int .i64 t117] from (k28_mkM _ _ _ (⟨t116, t117⟩ : S28) )) (Reps.none _ _))))
       intro v119 w28 ho29 hb hg_ hnew_
       have HS0_ := (hb.cell (World.block_lt_of_cell? _ _ (hHeld.1))).trans (hHeld.1)
       have HS1_ := (hb.cell (World.block_lt_of_cell? _ _ (hHeld.2.1))).trans (hHeld.2.1)
       have HS2_ := (hb.cell (World.block_lt_of_cell? _ _ (hHeld.2.2.1))).trans (hHeld.2.2.1)
       have HS3_ := (hb.cell (World.block_lt_of_cell? _ _ (hHeld.2.2.2.1))).trans (hHeld.2.2.2.1)
       have HS4_ := (hb.cell (World.block_lt_of_cell? _ _ (hHeld.2.2.2.2.1))).trans (hHeld.2.2.2.2.1)
       have HS5_ := (hb.cell (World.block_lt_of_cell? _ _ (hHeld.2.2.2.2.2))).trans (hHeld.2.2.2.2.2)
       clear hg_ hnew_
       (first | rw [← Ny118.out] at ho29 | (simp only [Int.reduceToNat] at ho29; rw [← Ny118.out] at ho29))
       have n0_ := Aside0.mk (Kd.R_elder' (by (with_reducible repeat (first | apply Kd.R_alloc | apply Kd.R_drewN | apply Kd.R_drew)); exact HO_5.out) (Kd.R_base ho29) hb)
       have n1_ := Aside0.mk (Kd.R_lower (Kd.R_new' ho29 (Kd.R_lt (by (with_reducible repeat (first | apply Kd.R_alloc | apply Kd.R_drewN | apply Kd.R_drew)); exact HO_5.out))) (below_size (by repeat (first | (with_reducible first | exact HB.out | apply below_alloc | apply pw_below_drewN | apply below_drew1 | refine below_set ?_ GE101.out) | exact HB.out))))
       have n2_ := Aside0.mk (blk_below (g := gb101) (o := .cells #[.int .i64 a1] 3 (0, 0)) (by (with_reducible repeat (first | refine blk_drewN ?_ _ | refine blk_drew ?_ | refine blk_alloc ?_ _)); exact BK101.out) hb)
       have n3_ := Aside0.mk (below_step (by repeat (first | (with_reducible first | exact HB.out | apply below_alloc | apply pw_below_drewN | apply below_drew1 | refine below_set ?_ GE101.out) | exact HB.out)) hb)
       clear HO_5
       clear BK101
       clear HB
       have HO_5 := n0_
       have HO120 := n1_
       have BK101 := n2_
       have HB := n3_
       clear n0_ n1_ n2_ n3_
       clear hb ho29
       refine hK.out _ _ ⟨HS0_, HS1_, HS2_, HS3_, HS4_, HS5_⟩ (fun hHeld => ?_)
       clear hK K
       refine norm_ (a' := ?_) ?_ ?_
       rotate_left
       ·show Act.put _ (some 56) _ = _
        simp only [Act.put, List.setIfInBounds_toArray, List.set_cons_zero, List.set_cons_succ, i64_w, i32_w]
        rfl
       refine go_in [11] ?_
       (refine pz (v := ?_) (a' := ?_) HT_ rfl rfl (by kernel_rfl) (fun _ _ _ h => h) (Or.inl ⟨by rfl, ?_⟩) ?_ ?_; rotate_left; (focus intro w'; go_simp; with_reducible rfl); rotate_left; (focus simp only [Act.put, List.setIfInBounds_toArray, List.set_cons_zero, List.set_cons_succ, i64_w, i32_w, u8_w, u8_tm, u8_c, u8_cm]; rfl))
       refine go_out ?_
       refine done_ (done_of HT_.out (by kernel_rfl)) ?_
       try go_wp2
       go_loopg [7, 8] k1 (fun kq v7 v8 w' => ∃ (x7_2 : List (S28)) (x8_2 : Int), v8 = .int .i64 x8_2 ∧ Aside0 (curve_spline.l1 kq x5_1 x7_2 x8_2 a1 = some r) ∧ Aside0 (kq ≤ k1) ∧ Aside0 (Kd.R k28 28 w' w.heap.size (fun k_ => some k_ ≠ (v7 : Value).ownBlock) (.slice (some ad113) x5_1.length co25) x5_1) ∧ Aside0 (Kd.R k28 28 w' w.heap.size (fun k_ => some k_ ≠ ((.slice (some ad113) x5_1.length co25) : Value).ownBlock) v7 x7_2) ∧ Aside0 (w'.heap[gb101]? = some (.cells #[.int .i64 a1] 3 (0, 0))) ∧ Aside0 (Below w.heap.size w w'))
       case atStart => exact ⟨(y118), (1), (by first | rfl | (simp; done) | (simp [*]; done)), H', ⟨Nat.le_refl _⟩, ⟨by (with_reducible repeat (first | apply Kd.R_alloc | apply Kd.R_drewN | apply Kd.R_drew)); exact Kd.R_mono HO_5.out (fun _ hk => hk.2)⟩, ⟨by (with_reducible repeat (first | apply Kd.R_alloc | apply Kd.R_drewN | apply Kd.R_drew)); exact Kd.R_mono HO120.out (fun _ hk => hk.2)⟩, ⟨by (with_reducible repeat (first | refine blk_drewN ?_ _ | refine blk_drew ?_ | refine blk_alloc ?_ _)); exact BK101.out⟩, ⟨by repeat (first | (with_reducible first | exact HB.out | apply below_alloc | apply pw_below_drewN | apply below_drew1 | refine below_set ?_ GE101.out) | exact HB.out)⟩⟩
       case round =>
        clear H'
        try clear c1
        try clear p1
        try clear q1
        try clear hx1
        try clear qi1
        try clear c2
        try clear p2
        try clear c3
        try clear c6
        try clear c6b0
        try clear p6
        try clear c8
        try clear c8b0
        try clear c9
        try clear c9b0
        try clear c10
        try clear c10b0
        try clear p10
        try clear q10
        try clear hx10
        try clear p11
        try clear q11
        try clear hx11
        try clear qi11
        try clear c12
        try clear c12b0
        try clear c13
        try clear c13b0
        try clear c15
        try clear c18
        try clear c20
        try clear c20b0
        try clear c20b1
        try clear c22
        try clear c22b0
        try clear c22b1
        try clear c23
        try clear c23b0
        try clear c23b1
        try clear hx105_0
        try clear hx105_1
        try clear hx106_0
        try clear hx107_0
        try clear hx113_0
        try clear hx113_1
        try clear hx114_0
        try clear hx114_1
        try clear hx115_0
        try clear hx115_1
        try clear p105
        try clear p106
        try clear p107
        try clear p113
        try clear p114
        try clear p115
        try clear p2
        try clear q105
        try clear q106
        try clear q107
        try clear q113
        try clear q114
        try clear q115
        obtain ⟨x7_2, x8_2, rfl, HA, HK2, HO_5, HO_7, BK101, HB⟩ := hrel
        cases gk with
        | zero => exact absurd HA.out (by simp [curve_spline.l1])
        | succ k2 =>
         have H := HA.out
         clear HA
         simp only [curve_spline.l1] at H
         by_cases c30 : (wrap64 (x8_2 + 1)) < (x5_1.length : Int)
         ·rw [if_pos c30] at H
          have c30b0 : decide ((wrap64 (x8_2 + 1)) < (x5_1.length : Int)) = true := decide_eq_true c30
          clear c30
          obtain ⟨ji31, hji31⟩ : ∃ j_ : Int, (wrap64 (x8_2 - 1)) = j_ := ⟨_, rfl⟩
          replace H : (if 0 ≤ (ji31) then (if (ji31) < (x5_1.length : Int) then (if 0 ≤ x8_2 then (if x8_2 < (x5_1.length : Int) then ((QCp.curve_middle.f ((rd_T28 x5_1 (ji31)).f0) ((rd_T28 x5_1 (ji31)).f1) ((rd_T28 x5_1 x8_2).f0) ((rd_T28 x5_1 x8_2).f1)).bind fun bt127 => (if 0 ≤ (wrap64 (x8_2 + 1)) then ((QCp.curve_middle.f ((rd_T28 x5_1 x8_2).f0) ((rd_T28 x5_1 x8_2).f1) ((rd_T28 x5_1 (wrap64 (x8_2 + 1))).f0) ((rd_T28 x5_1 (wrap64 (x8_2 + 1))).f1)).bind fun bt132 => (curve_spline.l2 k2 x5_1 x7_2 x8_2 a1 bt127.1 bt127.2 ((rd_T28 x5_1 x8_2).f0) ((rd_T28 x5_1 x8_2).f1) bt132.1 bt132.2 1)) else (none))) else (none)) else (none)) else (none)) else (none)) = some r := by first | (rw [hji31] at H; exact H) | (simp only [hji31] at H ⊢; exact H)
          have hji31w : (IntKind.i64.wrap (x8_2 - 1)) = ji31 := (i64_w _).trans hji31
          by_cases c32 : 0 ≤ (ji31)
          ·rw [if_pos c32] at H
           have c32b0 : decide (0 ≤ (ji31)) = true := decide_eq_true c32
           clear c32
           by_cases c33 : (ji31) < (x5_1.length : Int)
           ·rw [if_pos c33] at H
            have c33b0 : decide ((ji31) < (x5_1.length : Int)) = true := decide_eq_true c33
            clear c33
            by_cases c34 : 0 ≤ x8_2
            ·rw [if_pos c34] at H
             have c34b0 : decide (0 ≤ x8_2) = true := decide_eq_true c34
             clear c34
             by_cases c35 : x8_2 < (x5_1.length : Int)
             ·rw [if_pos c35] at H
              have c35b0 : decide (x8_2 < (x5_1.length : Int)) = true := decide_eq_true c35
              clear c35
              replace H := Option.bind_eq_some_iff.mp H
              obtain ⟨⟨t127, t128⟩, A360, H⟩ := H
              replace H : (if 0 ≤ (wrap64 (x8_2 + 1)) then ((QCp.curve_middle.f ((rd_T28 x5_1 x8_2).f0) ((rd_T28 x5_1 x8_2).f1) ((rd_T28 x5_1 (wrap64 (x8_2 + 1))).f0) ((rd_T28 x5_1 (wrap64 (x8_2 + 1))).f1)).bind fun bt132 => (curve_spline.l2 k2 x5_1 x7_2 x8_2 a1 t127 t128 ((rd_T28 x5_1 x8_2).f0) ((rd_T28 x5_1 x8_2).f1) bt132.1 bt132.2 1)) else (none)) = some r := H
              have A36 := Aside0.mk A360
              clear A360
              obtain ⟨ji37, hji37⟩ : ∃ j_ : Int, (wrap64 (x8_2 + 1)) = j_ := ⟨_, rfl⟩
              replace H : (if 0 ≤ (ji37) then ((QCp.curve_middle.f ((rd_T28 x5_1 x8_2).f0) ((rd_T28 x5_1 x8_2).f1) ((rd_T28 x5_1 (ji37)).f0) ((rd_T28 x5_1 (ji37)).f1)).bind fun bt132 => (curve_spline.l2 k2 x5_1 x7_2 x8_2 a1 t127 t128 ((rd_T28 x5_1 x8_2).f0) ((rd_T28 x5_1 x8_2).f1) bt132.1 bt132.2 1)) else (none)) = some r := by first | (rw [hji37] at H; exact H) | (simp only [hji37] at H ⊢; exact H)
              (try rw [hji37] at c30b0)
              (try rw [hji37] at A36)
              have hji37w : (IntKind.i64.wrap (x8_2 + 1)) = ji37 := (i64_w _).trans hji37
              by_cases c38 : 0 ≤ (ji37)
              ·rw [if_pos c38] at H
               have c38b0 : decide (0 ≤ (ji37)) = true := decide_eq_true c38
               clear c38
               replace H := Option.bind_eq_some_iff.mp H
               obtain ⟨⟨t132, t133⟩, A390, H⟩ := H
               replace H : (curve_spline.l2 k2 x5_1 x7_2 x8_2 a1 t127 t128 ((rd_T28 x5_1 x8_2).f0) ((rd_T28 x5_1 x8_2).f1) t132 t133 1) = some r := H
               have A39 := Aside0.mk A390
               clear A390
               have H' := Aside0.mk H
               clear H
               try go_wp2
               have n0_ := Aside0.mk (Kd.R_drew HO_5.out)
               have n1_ := Aside0.mk (Kd.R_drew HO_7.out)
               have n2_ := Aside0.mk (blk_drew BK101.out)
               have n3_ := Aside0.mk (below_drew1 HB.out)
               clear HO_5
               clear HO_7
               clear BK101
               clear HB
               have HO_5 := n0_
               have HO_7 := n1_
               have BK101 := n2_
               have HB := n3_
               clear n0_ n1_ n2_ n3_
               have p125 : 0 ≤ ((ji31) : Int) := of_decide_eq_true (by first | (with_reducible assumption) | assumption)
               have q125 : (ji31) < (x5_1.length : Int) := of_decide_eq_true (by first | (with_reducible assumption) | assumption)
               obtain ⟨ad125, e125, hx125_0, hx125_1⟩ := at_T28 (Kd.R_reads' HO_5.out).2.2 (ji31) p125 q125
               obtain rfl : ad113 = ad125 := (by injection e125)
               replace p125 := eq_true p125
               replace q125 := eq_true q125
               have p126 : 0 ≤ (x8_2 : Int) := of_decide_eq_true (by first | (with_reducible assumption) | assumption)
               have q126 : x8_2 < (x5_1.length : Int) := of_decide_eq_true (by first | (with_reducible assumption) | assumption)
               obtain ⟨ad126, e126, hx126_0, hx126_1⟩ := at_T28 (Kd.R_reads' HO_5.out).2.2 x8_2 p126 q126
               obtain rfl : ad113 = ad126 := (by injection e126)
               replace p126 := eq_true p126
               replace q126 := eq_true q126
               have p129 : 0 ≤ (x8_2 : Int) := of_decide_eq_true (by first | (with_reducible assumption) | assumption)
               have q129 : x8_2 < (x5_1.length : Int) := of_decide_eq_true (by first | (with_reducible assumption) | assumption)
               obtain ⟨ad129, e129, hx129_0, hx129_1⟩ := at_T28 (Kd.R_reads' HO_5.out).2.2 x8_2 p129 q129
               obtain rfl : ad113 = ad129 := (by injection e129)
               replace p129 := eq_true p129
               replace q129 := eq_true q129
               have p130 : 0 ≤ (x8_2 : Int) := of_decide_eq_true (by first | (with_reducible assumption) | assumption)
               have q130 : x8_2 < (x5_1.length : Int) := of_decide_eq_true (by first | (with_reducible assumption) | assumption)
               obtain ⟨ad130, e130, hx130_0, hx130_1⟩ := at_T28 (Kd.R_reads' HO_5.out).2.2 x8_2 p130 q130
               obtain rfl : ad113 = ad130 := (by injection e130)
               replace p130 := eq_true p130
               replace q130 := eq_true q130
               have p131 : 0 ≤ ((ji37) : Int) := of_decide_eq_true (by first | (with_reducible assumption) | assumption)
               have q131 : (ji37) < (x5_1.length : Int) := of_decide_eq_true (by first | (with_reducible assumption) | assumption)
               obtain ⟨ad131, e131, hx131_0, hx131_1⟩ := at_T28 (Kd.R_reads' HO_5.out).2.2 (ji37) p131 q131
               obtain rfl : ad113 = ad131 := (by injection e131)
               replace p131 := eq_true p131
               replace q131 := eq_true q131
               refine start_ (n := 30) (S := SX wr.drew ad113 x5_1 (ji31) x8_2 (ji37)) (ds := []) #[false, false, false, false, false, false, false, false, false, false, false, false, false, false, false, false, false, false, false, false, false, false, false, false, false, false, false, false, false, false] (by kernel_rfl) rfl rfl ⟨Below.refl _ _, hx125_0, hx125_1, hx126_0, hx126_1, hx129_0, hx129_1, hx130_0, hx130_1, hx131_0, hx131_1⟩ (fun hHeld => ?_); refine with_tabW curve_spline.tab12 curve_spline.bits12 (fun HT_ HW_ => ?_)
               generalize wr.drew = w40 at HO_5 HO_7 BK101 HB hx125_0 hx125_1 hx126_0 hx126_1 hx129_0 hx129_1 hx130_0 hx130_1 hx131_0 hx131_1 hHeld ⊢
               refine go_in [0, 1, 2, 3, 5, 6, 7, 10, 11, 12, 14, 15, 16, 18, 19, 20, 21, 4, 8, 13, 17, 22] ?_
               repeat (first | (refine pz (v := ?_) (a' := ?_) HT_ rfl rfl (by kernel_rfl) (fun _ _ _ h => h) (Or.inl ⟨by rfl, ?_⟩) ?_ ?_; rotate_left; (focus intro w'; go_simp; with_reducible rfl); rotate_left; (focus simp only [Act.put, List.setIfInBounds_toArray, List.set_cons_zero, List.set_cons_succ, i64_w, i32_w, u8_w, u8_tm, u8_c, u8_cm]; rfl)) | (refine tz (v := ?_) (a' := ?_) HT_ HW_ rfl rfl hHeld (by kernel_rfl) (fun _ _ _ h => h) (Or.inl ⟨by rfl, ?_⟩) ?_ ?_; rotate_left; (focus rintro w' ⟨_, s0, s1, s2, s3, s4, s5, s6, s7, s8, s9⟩; go_simp; with_reducible rfl); rotate_left; (focus simp only [Act.put, List.setIfInBounds_toArray, List.set_cons_zero, List.set_cons_succ, i64_w, i32_w, u8_w, u8_tm, u8_c, u8_cm]; rfl)))
               refine go_out ?_
               have HC_ := Aside0.mk (show CX ad113 x5_1 (ji31) x8_2 (ji37) w40 from ⟨hx125_0, hx125_1, hx126_0, hx126_1, hx129_0, hx129_1, hx130_0, hx130_1, hx131_0, hx131_1⟩)
               refine join_ (σ := Nat × Nat × Nat) 3 #[true, true, true, true, true, true, true, true, true, true, true, true, true, true, true, true, true, true, true, true, true, true, true, true, true, true, true, false, false, false] (fun s_ => [(73, .agg #[.int .i64 t127, .int .i64 t128]), (87, .agg #[.int .i64 t132, .int .i64 t133]), (9, .pointer (some ⟨s_.1, 0, none⟩)), (10, .pointer (some ⟨s_.2.1, 0, none⟩)), (11, .pointer (some ⟨s_.2.2, 0, none⟩))]) (fun s_ w' => SX w40 ad113 x5_1 (ji31) x8_2 (ji37) w' ∧ FX w40 true true true s_ w') ?_ ?_
               rotate_left
               ·intro hJ2_123
                refine join_ (σ := Nat × Nat × Nat) 4 #[true, true, true, true, true, true, true, true, true, true, true, true, true, true, true, true, true, true, true, true, true, true, true, false, true, true, true, false, false, false] (fun s_ => [(73, .agg #[.int .i64 t127, .int .i64 t128]), (9, .pointer (some ⟨s_.1, 0, none⟩)), (10, .pointer (some ⟨s_.2.1, 0, none⟩)), (11, .pointer (some ⟨s_.2.2, 0, none⟩))]) (fun s_ w' => SX w40 ad113 x5_1 (ji31) x8_2 (ji37) w' ∧ FX w40 true true true s_ w') ?_ ?_
                rotate_left
                ·intro hJ1_123
                 refine join_ (σ := Nat × Nat × Nat) 4 #[true, true, true, true, true, true, true, true, true, true, true, true, true, true, true, true, true, true, true, true, true, true, true, true, true, true, false, false, false, false] (fun s_ => [(73, .agg #[.int .i64 t127, .int .i64 t128]), (87, .agg #[.int .i64 t132, .int .i64 t133]), (9, .pointer (some ⟨s_.1, 0, none⟩)), (10, .pointer (some ⟨s_.2.1, 0, none⟩))]) (fun s_ w' => SX w40 ad113 x5_1 (ji31) x8_2 (ji37) w' ∧ FX w40 true true false s_ w') ?_ ?_
                 rotate_left
                 ·intro hJ2_12
                  refine join_ (σ := Nat × Nat × Nat) 4 #[true, true, true, true, true, true, true, true, true, true, true, true, true, true, true, true, true, true, true, true, true, true, true, true, true, false, true, false, false, false] (fun s_ => [(73, .agg #[.int .i64 t127, .int .i64 t128]), (87, .agg #[.int .i64 t132, .int .i64 t133]), (9, .pointer (some ⟨s_.1, 0, none⟩)), (11, .pointer (some ⟨s_.2.2, 0, none⟩))]) (fun s_ w' => SX w40 ad113 x5_1 (ji31) x8_2 (ji37) w' ∧ FX w40 true false true s_ w') ?_ ?_
                  rotate_left
                  ·intro hJ2_13
                   refine join_ (σ := Nat × Nat × Nat) 4 #[true, true, true, true, true, true, true, true, true, true, true, true, true, true, true, true, true, true, true, true, true, true, true, true, false, true, true, false, false, false] (fun s_ => [(73, .agg #[.int .i64 t127, .int .i64 t128]), (87, .agg #[.int .i64 t132, .int .i64 t133]), (10, .pointer (some ⟨s_.2.1, 0, none⟩)), (11, .pointer (some ⟨s_.2.2, 0, none⟩))]) (fun s_ w' => SX w40 ad113 x5_1 (ji31) x8_2 (ji37) w' ∧ FX w40 false true true s_ w') ?_ ?_
                   rotate_left
                   ·intro hJ2_23
                    refine join_ (σ := Nat × Nat × Nat) 5 #[true, true, true, true, true, true, true, true, true, false, true, true, true, true, true, true, true, true, true, true, true, true, true, false, true, true, true, false, false, false] (fun s_ => [(9, .pointer (some ⟨s_.1, 0, none⟩)), (10, .pointer (some ⟨s_.2.1, 0, none⟩)), (11, .pointer (some ⟨s_.2.2, 0, none⟩))]) (fun s_ w' => SX w40 ad113 x5_1 (ji31) x8_2 (ji37) w' ∧ FX w40 true true true s_ w') ?_ ?_
                    rotate_left
                    ·intro hJ0_123
                     refine join_ (σ := Nat × Nat × Nat) 5 #[true, true, true, true, true, true, true, true, true, true, true, true, true, true, true, true, true, true, true, true, true, true, true, false, true, true, false, false, false, false] (fun s_ => [(73, .agg #[.int .i64 t127, .int .i64 t128]), (9, .pointer (some ⟨s_.1, 0, none⟩)), (10, .pointer (some ⟨s_.2.1, 0, none⟩))]) (fun s_ w' => SX w40 ad113 x5_1 (ji31) x8_2 (ji37) w' ∧ FX w40 true true false s_ w') ?_ ?_
                     rotate_left
                     ·intro hJ1_12
                      refine join_ (σ := Nat × Nat × Nat) 5 #[true, true, true, true, true, true, true, true, true, true, true, true, true, true, true, true, true, true, true, true, true, true, true, false, true, false, true, false, false, false] (fun s_ => [(73, .agg #[.int .i64 t127, .int .i64 t128]), (9, .pointer (some ⟨s_.1, 0, none⟩)), (11, .pointer (some ⟨s_.2.2, 0, none⟩))]) (fun s_ w' => SX w40 ad113 x5_1 (ji31) x8_2 (ji37) w' ∧ FX w40 true false true s_ w') ?_ ?_
                      rotate_left
                      ·intro hJ1_13
                       refine join_ (σ := Nat × Nat × Nat) 5 #[true, true, true, true, true, true, true, true, true, true, true, true, true, true, true, true, true, true, true, true, true, true, true, false, false, true, true, false, false, false] (fun s_ => [(73, .agg #[.int .i64 t127, .int .i64 t128]), (10, .pointer (some ⟨s_.2.1, 0, none⟩)), (11, .pointer (some ⟨s_.2.2, 0, none⟩))]) (fun s_ w' => SX w40 ad113 x5_1 (ji31) x8_2 (ji37) w' ∧ FX w40 false true true s_ w') ?_ ?_
                       rotate_left
                       ·intro hJ1_23
                        refine join_ (σ := Nat × Nat × Nat) 5 #[true, true, true, true, true, true, true, true, true, true, true, true, true, true, true, true, true, true, true, true, true, true, true, true, true, false, false, false, false, false] (fun s_ => [(73, .agg #[.int .i64 t127, .int .i64 t128]), (87, .agg #[.int .i64 t132, .int .i64 t133]), (9, .pointer (some ⟨s_.1, 0, none⟩))]) (fun s_ w' => SX w40 ad113 x5_1 (ji31) x8_2 (ji37) w' ∧ FX w40 true false false s_ w') ?_ ?_
                        rotate_left
                        ·intro hJ2_1
                         refine join_ (σ := Nat × Nat × Nat) 5 #[true, true, true, true, true, true, true, true, true, true, true, true, true, true, true, true, true, true, true, true, true, true, true, true, false, true, false, false, false, false] (fun s_ => [(73, .agg #[.int .i64 t127, .int .i64 t128]), (87, .agg #[.int .i64 t132, .int .i64 t133]), (10, .pointer (some ⟨s_.2.1, 0, none⟩))]) (fun s_ w' => SX w40 ad113 x5_1 (ji31) x8_2 (ji37) w' ∧ FX w40 false true false s_ w') ?_ ?_
                         rotate_left
                         ·intro hJ2_2
                          refine join_ (σ := Nat × Nat × Nat) 5 #[true, true, true, true, true, true, true, true, true, true, true, true, true, true, true, true, true, true, true, true, true, true, true, true, false, false, true, false, false, false] (fun s_ => [(73, .agg #[.int .i64 t127, .int .i64 t128]), (87, .agg #[.int .i64 t132, .int .i64 t133]), (11, .pointer (some ⟨s_.2.2, 0, none⟩))]) (fun s_ w' => SX w40 ad113 x5_1 (ji31) x8_2 (ji37) w' ∧ FX w40 false false true s_ w') ?_ ?_
                          rotate_left
                          ·intro hJ2_3
                           refine join_ (σ := Nat × Nat × Nat) 6 #[true, true, true, true, true, true, true, true, true, false, true, true, true, true, true, true, true, true, true, true, true, true, true, false, true, true, false, false, false, false] (fun s_ => [(9, .pointer (some ⟨s_.1, 0, none⟩)), (10, .pointer (some ⟨s_.2.1, 0, none⟩))]) (fun s_ w' => SX w40 ad113 x5_1 (ji31) x8_2 (ji37) w' ∧ FX w40 true true false s_ w') ?_ ?_
                           rotate_left
                           ·intro hJ0_12
                            refine join_ (σ := Nat × Nat × Nat) 6 #[true, true, true, true, true, true, true, true, true, false, true, true, true, true, true, true, true, true, true, true, true, true, true, false, true, false, true, false, false, false] (fun s_ => [(9, .pointer (some ⟨s_.1, 0, none⟩)), (11, .pointer (some ⟨s_.2.2, 0, none⟩))]) (fun s_ w' => SX w40 ad113 x5_1 (ji31) x8_2 (ji37) w' ∧ FX w40 true false true s_ w') ?_ ?_
                            rotate_left
                            ·intro hJ0_13
                             refine join_ (σ := Nat × Nat × Nat) 6 #[true, true, true, true, true, true, true, true, true, false, true, true, true, true, true, true, true, true, true, true, true, true, true, false, false, true, true, false, false, false] (fun s_ => [(10, .pointer (some ⟨s_.2.1, 0, none⟩)), (11, .pointer (some ⟨s_.2.2, 0, none⟩))]) (fun s_ w' => SX w40 ad113 x5_1 (ji31) x8_2 (ji37) w' ∧ FX w40 false true true s_ w') ?_ ?_
                             rotate_left
                             ·intro hJ0_23
                              refine join_ (σ := Nat × Nat × Nat) 6 #[true, true, true, true, true, true, true, true, true, true, true, true, true, true, true, true, true, true, true, true, true, true, true, false, true, false, false, false, false, false] (fun s_ => [(73, .agg #[.int .i64 t127, .int .i64 t128]), (9, .pointer (some ⟨s_.1, 0, none⟩))]) (fun s_ w' => SX w40 ad113 x5_1 (ji31) x8_2 (ji37) w' ∧ FX w40 true false false s_ w') ?_ ?_
                              rotate_left
                              ·intro hJ1_1
                               refine join_ (σ := Nat × Nat × Nat) 6 #[true, true, true, true, true, true, true, true, true, true, true, true, true, true, true, true, true, true, true, true, true, true, true, false, false, true, false, false, false, false] (fun s_ => [(73, .agg #[.int .i64 t127, .int .i64 t128]), (10, .pointer (some ⟨s_.2.1, 0, none⟩))]) (fun s_ w' => SX w40 ad113 x5_1 (ji31) x8_2 (ji37) w' ∧ FX w40 false true false s_ w') ?_ ?_
                               rotate_left
                               ·intro hJ1_2
                                refine join_ (σ := Nat × Nat × Nat) 6 #[true, true, true, true, true, true, true, true, true, true, true, true, true, true, true, true, true, true, true, true, true, true, true, false, false, false, true, false, false, false] (fun s_ => [(73, .agg #[.int .i64 t127, .int .i64 t128]), (11, .pointer (some ⟨s_.2.2, 0, none⟩))]) (fun s_ w' => SX w40 ad113 x5_1 (ji31) x8_2 (ji37) w' ∧ FX w40 false false true s_ w') ?_ ?_
                                rotate_left
                                ·intro hJ1_3
                                 refine join_ (σ := Nat × Nat × Nat) 6 #[true, true, true, true, true, true, true, true, true, true, true, true, true, true, true, true, true, true, true, true, true, true, true, true, false, false, false, false, false, false] (fun s_ => [(73, .agg #[.int .i64 t127, .int .i64 t128]), (87, .agg #[.int .i64 t132, .int .i64 t133])]) (fun s_ w' => SX w40 ad113 x5_1 (ji31) x8_2 (ji37) w' ∧ FX w40 false false false s_ w') ?_ ?_
                                 rotate_left
                                 ·intro hJ2_
                                  refine join_ (σ := Nat × Nat × Nat) 7 #[true, true, true, true, true, true, true, true, true, false, true, true, true, true, true, true, true, true, true, true, true, true, true, false, true, false, false, false, false, false] (fun s_ => [(9, .pointer (some ⟨s_.1, 0, none⟩))]) (fun s_ w' => SX w40 ad113 x5_1 (ji31) x8_2 (ji37) w' ∧ FX w40 true false false s_ w') ?_ ?_
                                  rotate_left
                                  ·intro hJ0_1
                                   refine join_ (σ := Nat × Nat × Nat) 7 #[true, true, true, true, true, true, true, true, true, false, true, true, true, true, true, true, true, true, true, true, true, true, true, false, false, true, false, false, false, false] (fun s_ => [(10, .pointer (some ⟨s_.2.1, 0, none⟩))]) (fun s_ w' => SX w40 ad113 x5_1 (ji31) x8_2 (ji37) w' ∧ FX w40 false true false s_ w') ?_ ?_
                                   rotate_left
                                   ·intro hJ0_2
                                    refine join_ (σ := Nat × Nat × Nat) 7 #[true, true, true, true, true, true, true, true, true, false, true, true, true, true, true, true, true, true, true, true, true, true, true, false, false, false, true, false, false, false] (fun s_ => [(11, .pointer (some ⟨s_.2.2, 0, none⟩))]) (fun s_ w' => SX w40 ad113 x5_1 (ji31) x8_2 (ji37) w' ∧ FX w40 false false true s_ w') ?_ ?_
                                    rotate_left
                                    ·intro hJ0_3
                                     refine join_ (σ := Nat × Nat × Nat) 7 #[true, true, true, true, true, true, true, true, true, true, true, true, true, true, true, true, true, true, true, true, true, true, true, false, false, false, false, false, false, false] (fun s_ => [(73, .agg #[.int .i64 t127, .int .i64 t128])]) (fun s_ w' => SX w40 ad113 x5_1 (ji31) x8_2 (ji37) w' ∧ FX w40 false false false s_ w') ?_ ?_
                                     rotate_left
                                     ·intro hJ1_
                                      have hF_ := FX.start w40 (0, 0, 0)
                                      refine four_ (i := 9) (j := 24) (k := 25) (m := 26) (Ni := some 73) (Nj := some 9) (Nk := some 10) (Nm := some 11) #[true, true, true, true, true, true, true, true, true, true, true, true, true, true, true, true, true, true, true, true, true, true, true, false, false, false, false, false, false, false] #[true, true, true, true, true, true, true, true, true, false, true, true, true, true, true, true, true, true, true, true, true, true, true, false, true, false, false, false, false, false] #[true, true, true, true, true, true, true, true, true, false, true, true, true, true, true, true, true, true, true, true, true, true, true, false, false, true, false, false, false, false] #[true, true, true, true, true, true, true, true, true, false, true, true, true, true, true, true, true, true, true, true, true, true, true, false, false, false, true, false, false, false] rfl rfl rfl rfl rfl rfl rfl rfl (four_of HT_.out (by kernel_rfl)) (by decide) (by decide) (by decide) (by decide) (fun K hK => ?_) (fun K hK => ?_) (fun K hK => ?_) (fun K hK => ?_)
                                      ·skip
                                       refine goes_ Try.func33 (by kernel_rfl) rfl #[.agg #[.int .i64 ((rd_T28 x5_1 (ji31)).f0), .int .i64 ((rd_T28 x5_1 (ji31)).f1)], .agg #[.int .i64 ((rd_T28 x5_1 x8_2).f0), .int .i64 ((rd_T28 x5_1 x8_2).f1)]] (by rfl) rfl rfl (by (try simp only [List.map_toArray, List.map_cons, List.map_nil]); first | done | (simp only [hji31]; rfl) | rfl | (simp only [List.length_drop, List.length_take]; rfl)) ?_
                                       with_reducible refine (QCp.curve_middle.calls ((rd_T28 x5_1 (ji31)).f0) ((rd_T28 x5_1 (ji31)).f1) ((rd_T28 x5_1 x8_2).f0) ((rd_T28 x5_1 x8_2).f1) t127 t128 _ A36.out).mono ?_
                                       rintro e w_ ⟨rfl, hb⟩
                                       refine ⟨_, rfl, ?_⟩
                                       refine hK.out _ _ (SX.of HC_.out (below_step hF_.B hb)) (fun _ => ?_)
                                       clear hK K
                                       refine norm_ (a' := ?_) ?_ ?_
                                       rotate_left
                                       ·show Act.put _ (some 73) _ = _
                                        simp only [Act.put, List.setIfInBounds_toArray, List.set_cons_zero, List.set_cons_succ, i64_w, i32_w]
                                        rfl
                                       exact norm_ (by first | (simp only [putAll, Act.put, List.setIfInBounds_toArray, List.set_cons_zero, List.set_cons_succ]; done) | (simp only [putAll, Act.put, List.setIfInBounds_toArray, List.set_cons_zero, List.set_cons_succ]; rfl)) (hJ1_ (0, 0, 0) _ ⟨SX.of HC_.out (below_step hF_.B hb), hF_.call hb⟩)
                                      ·skip
                                       refine box_step ?hg (N := 9) ?hd (cs := #[.int .i64 0, .int .i64 0]) (t := 28) ?hr ?_; (case hd => rfl); (case hg => rfl); (case hr => first | (go_simp; done) | (go_simp; rfl))
                                       intro g_ hg w_ hbox hb
                                       refine hK.out _ _ (SX.of HC_.out (below_step hF_.B hb)) (fun _ => ?_)
                                       clear hK K
                                       refine norm_ (a' := ?_) ?_ ?_
                                       rotate_left
                                       ·show Act.put _ (some 9) _ = _
                                        simp only [Act.put, List.setIfInBounds_toArray, List.set_cons_zero, List.set_cons_succ, i64_w, i32_w]
                                        rfl
                                       exact norm_ (by first | (simp only [putAll, Act.put, List.setIfInBounds_toArray, List.set_cons_zero, List.set_cons_succ]; done) | (simp only [putAll, Act.put, List.setIfInBounds_toArray, List.set_cons_zero, List.set_cons_succ]; rfl)) (hJ0_1 (g_, (0, 0, 0).2) _ ⟨SX.of HC_.out (below_step hF_.B hb), hF_.new1 hg hbox hb⟩)
                                      ·skip
                                       refine box_step ?hg (N := 10) ?hd (cs := #[.int .i64 0, .int .i64 0]) (t := 28) ?hr ?_; (case hd => rfl); (case hg => rfl); (case hr => first | (go_simp; done) | (go_simp; rfl))
                                       intro g_ hg w_ hbox hb
                                       refine hK.out _ _ (SX.of HC_.out (below_step hF_.B hb)) (fun _ => ?_)
                                       clear hK K
                                       refine norm_ (a' := ?_) ?_ ?_
                                       rotate_left
                                       ·show Act.put _ (some 10) _ = _
                                        simp only [Act.put, List.setIfInBounds_toArray, List.set_cons_zero, List.set_cons_succ, i64_w, i32_w]
                                        rfl
                                       exact norm_ (by first | (simp only [putAll, Act.put, List.setIfInBounds_toArray, List.set_cons_zero, List.set_cons_succ]; done) | (simp only [putAll, Act.put, List.setIfInBounds_toArray, List.set_cons_zero, List.set_cons_succ]; rfl)) (hJ0_2 ((0, 0, 0).1, g_, (0, 0, 0).2.2) _ ⟨SX.of HC_.out (below_step hF_.B hb), hF_.new2 hg hbox hb⟩)
                                      ·skip
                                       refine box_step ?hg (N := 11) ?hd (cs := #[.int .i64 0, .int .i64 0]) (t := 28) ?hr ?_; (case hd => rfl); (case hg => rfl); (case hr => first | (go_simp; done) | (go_simp; rfl))
                                       intro g_ hg w_ hbox hb
                                       refine hK.out _ _ (SX.of HC_.out (below_step hF_.B hb)) (fun _ => ?_)
                                       clear hK K
                                       refine norm_ (a' := ?_) ?_ ?_
                                       rotate_left
                                       ·show Act.put _ (some 11) _ = _
                                        simp only [Act.put, List.setIfInBounds_toArray, List.set_cons_zero, List.set_cons_succ, i64_w, i32_w]
                                        rfl
                                       exact norm_ (by first | (simp only [putAll, Act.put, List.setIfInBounds_toArray, List.set_cons_zero, List.set_cons_succ]; done) | (simp only [putAll, Act.put, List.setIfInBounds_toArray, List.set_cons_zero, List.set_cons_succ]; rfl)) (hJ0_3 ((0, 0, 0).1, (0, 0, 0).2.1, g_) _ ⟨SX.of HC_.out (below_step hF_.B hb), hF_.new3 hg hbox hb⟩)
                                     rintro s_ w1_ ⟨hS_, hF_⟩
                                     refine norm_ (a' := ?_) ?_ ?_
                                     rotate_left
                                     ·simp only [putAll, Act.put, List.setIfInBounds_toArray, List.set_cons_zero, List.set_cons_succ]
                                      rfl
                                     refine four_ (i := 23) (j := 24) (k := 25) (m := 26) (Ni := some 87) (Nj := some 9) (Nk := some 10) (Nm := some 11) #[true, true, true, true, true, true, true, true, true, true, true, true, true, true, true, true, true, true, true, true, true, true, true, true, false, false, false, false, false, false] #[true, true, true, true, true, true, true, true, true, true, true, true, true, true, true, true, true, true, true, true, true, true, true, false, true, false, false, false, false, false] #[true, true, true, true, true, true, true, true, true, true, true, true, true, true, true, true, true, true, true, true, true, true, true, false, false, true, false, false, false, false] #[true, true, true, true, true, true, true, true, true, true, true, true, true, true, true, true, true, true, true, true, true, true, true, false, false, false, true, false, false, false] rfl rfl rfl rfl rfl rfl rfl rfl (four_of HT_.out (by kernel_rfl)) (by decide) (by decide) (by decide) (by decide) (fun K hK => ?_) (fun K hK => ?_) (fun K hK => ?_) (fun K hK => ?_)
                                     ·skip
                                      refine goes_ Try.func33 (by kernel_rfl) rfl #[.agg #[.int .i64 ((rd_T28 x5_1 x8_2).f0), .int .i64 ((rd_T28 x5_1 x8_2).f1)], .agg #[.int .i64 ((rd_T28 x5_1 (ji37)).f0), .int .i64 ((rd_T28 x5_1 (ji37)).f1)]] (by rfl) rfl rfl (by (try simp only [List.map_toArray, List.map_cons, List.map_nil]); first | done | (simp only [hji37]; rfl) | rfl | (simp only [List.length_drop, List.length_take]; rfl)) ?_
                                      with_reducible refine (QCp.curve_middle.calls ((rd_T28 x5_1 x8_2).f0) ((rd_T28 x5_1 x8_2).f1) ((rd_T28 x5_1 (ji37)).f0) ((rd_T28 x5_1 (ji37)).f1) t132 t133 _ A39.out).mono ?_
                                      rintro e w_ ⟨rfl, hb⟩
                                      refine ⟨_, rfl, ?_⟩
                                      refine hK.out _ _ (SX.of HC_.out (below_step hF_.B hb)) (fun _ => ?_)
                                      clear hK K
                                      refine norm_ (a' := ?_) ?_ ?_
                                      rotate_left
                                      ·show Act.put _ (some 87) _ = _
                                       simp only [Act.put, List.setIfInBounds_toArray, List.set_cons_zero, List.set_cons_succ, i64_w, i32_w]
                                       rfl
                                      exact norm_ (by first | (simp only [putAll, Act.put, List.setIfInBounds_toArray, List.set_cons_zero, List.set_cons_succ]; done) | (simp only [putAll, Act.put, List.setIfInBounds_toArray, List.set_cons_zero, List.set_cons_succ]; rfl)) (hJ2_ s_ _ ⟨SX.of HC_.out (below_step hF_.B hb), hF_.call hb⟩)
                                     ·skip
                                      refine box_step ?hg (N := 9) ?hd (cs := #[.int .i64 0, .int .i64 0]) (t := 28) ?hr ?_; (case hd => rfl); (case hg => rfl); (case hr => first | (go_simp; done) | (go_simp; rfl))
                                      intro g_ hg w_ hbox hb
                                      refine hK.out _ _ (SX.of HC_.out (below_step hF_.B hb)) (fun _ => ?_)
                                      clear hK K
                                      refine norm_ (a' := ?_) ?_ ?_
                                      rotate_left
                                      ·show Act.put _ (some 9) _ = _
                                       simp only [Act.put, List.setIfInBounds_toArray, List.set_cons_zero, List.set_cons_succ, i64_w, i32_w]
                                       rfl
                                      exact norm_ (by first | (simp only [putAll, Act.put, List.setIfInBounds_toArray, List.set_cons_zero, List.set_cons_succ]; done) | (simp only [putAll, Act.put, List.setIfInBounds_toArray, List.set_cons_zero, List.set_cons_succ]; rfl)) (hJ1_1 (g_, s_.2) _ ⟨SX.of HC_.out (below_step hF_.B hb), hF_.new1 hg hbox hb⟩)
                                     ·skip
                                      refine box_step ?hg (N := 10) ?hd (cs := #[.int .i64 0, .int .i64 0]) (t := 28) ?hr ?_; (case hd => rfl); (case hg => rfl); (case hr => first | (go_simp; done) | (go_simp; rfl))
                                      intro g_ hg w_ hbox hb
                                      refine hK.out _ _ (SX.of HC_.out (below_step hF_.B hb)) (fun _ => ?_)
                                      clear hK K
                                      refine norm_ (a' := ?_) ?_ ?_
                                      rotate_left
                                      ·show Act.put _ (some 10) _ = _
                                       simp only [Act.put, List.setIfInBounds_toArray, List.set_cons_zero, List.set_cons_succ, i64_w, i32_w]
                                       rfl
                                      exact norm_ (by first | (simp only [putAll, Act.put, List.setIfInBounds_toArray, List.set_cons_zero, List.set_cons_succ]; done) | (simp only [putAll, Act.put, List.setIfInBounds_toArray, List.set_cons_zero, List.set_cons_succ]; rfl)) (hJ1_2 (s_.1, g_, s_.2.2) _ ⟨SX.of HC_.out (below_step hF_.B hb), hF_.new2 hg hbox hb⟩)
                                     ·skip
                                      refine box_step ?hg (N := 11) ?hd (cs := #[.int .i64 0, .int .i64 0]) (t := 28) ?hr ?_; (case hd => rfl); (case hg => rfl); (case hr => first | (go_simp; done) | (go_simp; rfl))
                                      intro g_ hg w_ hbox hb
                                      refine hK.out _ _ (SX.of HC_.out (below_step hF_.B hb)) (fun _ => ?_)
                                      clear hK K
                                      refine norm_ (a' := ?_) ?_ ?_
                                      rotate_left
                                      ·show Act.put _ (some 11) _ = _
                                       simp only [Act.put, List.setIfInBounds_toArray, List.set_cons_zero, List.set_cons_succ, i64_w, i32_w]
                                       rfl
                                      exact norm_ (by first | (simp only [putAll, Act.put, List.setIfInBounds_toArray, List.set_cons_zero, List.set_cons_succ]; done) | (simp only [putAll, Act.put, List.setIfInBounds_toArray, List.set_cons_zero, List.set_cons_succ]; rfl)) (hJ1_3 (s_.1, s_.2.1, g_) _ ⟨SX.of HC_.out (below_step hF_.B hb), hF_.new3 hg hbox hb⟩)
                                    rintro s_ w1_ ⟨hS_, hF_⟩
                                    refine norm_ (a' := ?_) ?_ ?_
                                    rotate_left
                                    ·simp only [putAll, Act.put, List.setIfInBounds_toArray, List.set_cons_zero, List.set_cons_succ]
                                     rfl
                                    refine three_ (i := 9) (j := 24) (k := 25) (Ni := some 73) (Nj := some 9) (Nk := some 10) #[true, true, true, true, true, true, true, true, true, true, true, true, true, true, true, true, true, true, true, true, true, true, true, false, false, false, true, false, false, false] #[true, true, true, true, true, true, true, true, true, false, true, true, true, true, true, true, true, true, true, true, true, true, true, false, true, false, true, false, false, false] #[true, true, true, true, true, true, true, true, true, false, true, true, true, true, true, true, true, true, true, true, true, true, true, false, false, true, true, false, false, false] rfl rfl rfl rfl rfl rfl (three_of HT_.out (by kernel_rfl)) (by decide) (by decide) (by decide) (fun K hK => ?_) (fun K hK => ?_) (fun K hK => ?_)
                                    ·skip
                                     refine goes_ Try.func33 (by kernel_rfl) rfl #[.agg #[.int .i64 ((rd_T28 x5_1 (ji31)).f0), .int .i64 ((rd_T28 x5_1 (ji31)).f1)], .agg #[.int .i64 ((rd_T28 x5_1 x8_2).f0), .int .i64 ((rd_T28 x5_1 x8_2).f1)]] (by rfl) rfl rfl (by (try simp only [List.map_toArray, List.map_cons, List.map_nil]); first | done | (simp only [hji31]; rfl) | rfl | (simp only [List.length_drop, List.length_take]; rfl)) ?_
                                     with_reducible refine (QCp.curve_middle.calls ((rd_T28 x5_1 (ji31)).f0) ((rd_T28 x5_1 (ji31)).f1) ((rd_T28 x5_1 x8_2).f0) ((rd_T28 x5_1 x8_2).f1) t127 t128 _ A36.out).mono ?_
                                     rintro e w_ ⟨rfl, hb⟩
                                     refine ⟨_, rfl, ?_⟩
                                     refine hK.out _ _ (SX.of HC_.out (below_step hF_.B hb)) (fun _ => ?_)
                                     clear hK K
                                     refine norm_ (a' := ?_) ?_ ?_
                                     rotate_left
                                     ·show Act.put _ (some 73) _ = _
                                      simp only [Act.put, List.setIfInBounds_toArray, List.set_cons_zero, List.set_cons_succ, i64_w, i32_w]
                                      rfl
                                     exact norm_ (by first | (simp only [putAll, Act.put, List.setIfInBounds_toArray, List.set_cons_zero, List.set_cons_succ]; done) | (simp only [putAll, Act.put, List.setIfInBounds_toArray, List.set_cons_zero, List.set_cons_succ]; rfl)) (hJ1_3 s_ _ ⟨SX.of HC_.out (below_step hF_.B hb), hF_.call hb⟩)
                                    ·skip
                                     refine box_step ?hg (N := 9) ?hd (cs := #[.int .i64 0, .int .i64 0]) (t := 28) ?hr ?_; (case hd => rfl); (case hg => rfl); (case hr => first | (go_simp; done) | (go_simp; rfl))
                                     intro g_ hg w_ hbox hb
                                     refine hK.out _ _ (SX.of HC_.out (below_step hF_.B hb)) (fun _ => ?_)
                                     clear hK K
                                     refine norm_ (a' := ?_) ?_ ?_
                                     rotate_left
                                     ·show Act.put _ (some 9) _ = _
                                      simp only [Act.put, List.setIfInBounds_toArray, List.set_cons_zero, List.set_cons_succ, i64_w, i32_w]
                                      rfl
                                     exact norm_ (by first | (simp only [putAll, Act.put, List.setIfInBounds_toArray, List.set_cons_zero, List.set_cons_succ]; done) | (simp only [putAll, Act.put, List.setIfInBounds_toArray, List.set_cons_zero, List.set_cons_succ]; rfl)) (hJ0_13 (g_, s_.2) _ ⟨SX.of HC_.out (below_step hF_.B hb), hF_.new1 hg hbox hb⟩)
                                    ·skip
                                     refine box_step ?hg (N := 10) ?hd (cs := #[.int .i64 0, .int .i64 0]) (t := 28) ?hr ?_; (case hd => rfl); (case hg => rfl); (case hr => first | (go_simp; done) | (go_simp; rfl))
                                     intro g_ hg w_ hbox hb
                                     refine hK.out _ _ (SX.of HC_.out (below_step hF_.B hb)) (fun _ => ?_)
                                     clear hK K
                                     refine norm_ (a' := ?_) ?_ ?_
                                     rotate_left
                                     ·show Act.put _ (some 10) _ = _
                                      simp only [Act.put, List.setIfInBounds_toArray, List.set_cons_zero, List.set_cons_succ, i64_w, i32_w]
                                      rfl
                                     exact norm_ (by first | (simp only [putAll, Act.put, List.setIfInBounds_toArray, List.set_cons_zero, List.set_cons_succ]; done) | (simp only [putAll, Act.put, List.setIfInBounds_toArray, List.set_cons_zero, List.set_cons_succ]; rfl)) (hJ0_23 (s_.1, g_, s_.2.2) _ ⟨SX.of HC_.out (below_step hF_.B hb), hF_.new2 hg hbox hb⟩)
                                   rintro s_ w1_ ⟨hS_, hF_⟩
                                   refine norm_ (a' := ?_) ?_ ?_
                                   rotate_left
                                   ·simp only [putAll, Act.put, List.setIfInBounds_toArray, List.set_cons_zero, List.set_cons_succ]
                                    rfl
                                   refine three_ (i := 9) (j := 24) (k := 26) (Ni := some 73) (Nj := some 9) (Nk := some 11) #[true, true, true, true, true, true, true, true, true, true, true, true, true, true, true, true, true, true, true, true, true, true, true, false, false, true, false, false, false, false] #[true, true, true, true, true, true, true, true, true, false, true, true, true, true, true, true, true, true, true, true, true, true, true, false, true, true, false, false, false, false] #[true, true, true, true, true, true, true, true, true, false, true, true, true, true, true, true, true, true, true, true, true, true, true, false, false, true, true, false, false, false] rfl rfl rfl rfl rfl rfl (three_of HT_.out (by kernel_rfl)) (by decide) (by decide) (by decide) (fun K hK => ?_) (fun K hK => ?_) (fun K hK => ?_)
                                   ·skip
                                    refine goes_ Try.func33 (by kernel_rfl) rfl #[.agg #[.int .i64 ((rd_T28 x5_1 (ji31)).f0), .int .i64 ((rd_T28 x5_1 (ji31)).f1)], .agg #[.int .i64 ((rd_T28 x5_1 x8_2).f0), .int .i64 ((rd_T28 x5_1 x8_2).f1)]] (by rfl) rfl rfl (by (try simp only [List.map_toArray, List.map_cons, List.map_nil]); first | done | (simp only [hji31]; rfl) | rfl | (simp only [List.length_drop, List.length_take]; rfl)) ?_
                                    with_reducible refine (QCp.curve_middle.calls ((rd_T28 x5_1 (ji31)).f0) ((rd_T28 x5_1 (ji31)).f1) ((rd_T28 x5_1 x8_2).f0) ((rd_T28 x5_1 x8_2).f1) t127 t128 _ A36.out).mono ?_
                                    rintro e w_ ⟨rfl, hb⟩
                                    refine ⟨_, rfl, ?_⟩
                                    refine hK.out _ _ (SX.of HC_.out (below_step hF_.B hb)) (fun _ => ?_)
                                    clear hK K
                                    refine norm_ (a' := ?_) ?_ ?_
                                    rotate_left
                                    ·show Act.put _ (some 73) _ = _
                                     simp only [Act.put, List.setIfInBounds_toArray, List.set_cons_zero, List.set_cons_succ, i64_w, i32_w]
                                     rfl
                                    exact norm_ (by first | (simp only [putAll, Act.put, List.setIfInBounds_toArray, List.set_cons_zero, List.set_cons_succ]; done) | (simp only [putAll, Act.put, List.setIfInBounds_toArray, List.set_cons_zero, List.set_cons_succ]; rfl)) (hJ1_2 s_ _ ⟨SX.of HC_.out (below_step hF_.B hb), hF_.call hb⟩)
                                   ·skip
                                    refine box_step ?hg (N := 9) ?hd (cs := #[.int .i64 0, .int .i64 0]) (t := 28) ?hr ?_; (case hd => rfl); (case hg => rfl); (case hr => first | (go_simp; done) | (go_simp; rfl))
                                    intro g_ hg w_ hbox hb
                                    refine hK.out _ _ (SX.of HC_.out (below_step hF_.B hb)) (fun _ => ?_)
                                    clear hK K
                                    refine norm_ (a' := ?_) ?_ ?_
                                    rotate_left
                                    ·show Act.put _ (some 9) _ = _
                                     simp only [Act.put, List.setIfInBounds_toArray, List.set_cons_zero, List.set_cons_succ, i64_w, i32_w]
                                     rfl
                                    exact norm_ (by first | (simp only [putAll, Act.put, List.setIfInBounds_toArray, List.set_cons_zero, List.set_cons_succ]; done) | (simp only [putAll, Act.put, List.setIfInBounds_toArray, List.set_cons_zero, List.set_cons_succ]; rfl)) (hJ0_12 (g_, s_.2) _ ⟨SX.of HC_.out (below_step hF_.B hb), hF_.new1 hg hbox hb⟩)
                                   ·skip
                                    refine box_step ?hg (N := 11) ?hd (cs := #[.int .i64 0, .int .i64 0]) (t := 28) ?hr ?_; (case hd => rfl); (case hg => rfl); (case hr => first | (go_simp; done) | (go_simp; rfl))
                                    intro g_ hg w_ hbox hb
                                    refine hK.out _ _ (SX.of HC_.out (below_step hF_.B hb)) (fun _ => ?_)
                                    clear hK K
                                    refine norm_ (a' := ?_) ?_ ?_
                                    rotate_left
                                    ·show Act.put _ (some 11) _ = _
                                     simp only [Act.put, List.setIfInBounds_toArray, List.set_cons_zero, List.set_cons_succ, i64_w, i32_w]
                                     rfl
                                    exact norm_ (by first | (simp only [putAll, Act.put, List.setIfInBounds_toArray, List.set_cons_zero, List.set_cons_succ]; done) | (simp only [putAll, Act.put, List.setIfInBounds_toArray, List.set_cons_zero, List.set_cons_succ]; rfl)) (hJ0_23 (s_.1, s_.2.1, g_) _ ⟨SX.of HC_.out (below_step hF_.B hb), hF_.new3 hg hbox hb⟩)
                                  rintro s_ w1_ ⟨hS_, hF_⟩
                                  refine norm_ (a' := ?_) ?_ ?_
                                  rotate_left
                                  ·simp only [putAll, Act.put, List.setIfInBounds_toArray, List.set_cons_zero, List.set_cons_succ]
                                   rfl
                                  refine three_ (i := 9) (j := 25) (k := 26) (Ni := some 73) (Nj := some 10) (Nk := some 11) #[true, true, true, true, true, true, true, true, true, true, true, true, true, true, true, true, true, true, true, true, true, true, true, false, true, false, false, false, false, false] #[true, true, true, true, true, true, true, true, true, false, true, true, true, true, true, true, true, true, true, true, true, true, true, false, true, true, false, false, false, false] #[true, true, true, true, true, true, true, true, true, false, true, true, true, true, true, true, true, true, true, true, true, true, true, false, true, false, true, false, false, false] rfl rfl rfl rfl rfl rfl (three_of HT_.out (by kernel_rfl)) (by decide) (by decide) (by decide) (fun K hK => ?_) (fun K hK => ?_) (fun K hK => ?_)
                                  ·skip
                                   refine goes_ Try.func33 (by kernel_rfl) rfl #[.agg #[.int .i64 ((rd_T28 x5_1 (ji31)).f0), .int .i64 ((rd_T28 x5_1 (ji31)).f1)], .agg #[.int .i64 ((rd_T28 x5_1 x8_2).f0), .int .i64 ((rd_T28 x5_1 x8_2).f1)]] (by rfl) rfl rfl (by (try simp only [List.map_toArray, List.map_cons, List.map_nil]); first | done | (simp only [hji31]; rfl) | rfl | (simp only [List.length_drop, List.length_take]; rfl)) ?_
                                   with_reducible refine (QCp.curve_middle.calls ((rd_T28 x5_1 (ji31)).f0) ((rd_T28 x5_1 (ji31)).f1) ((rd_T28 x5_1 x8_2).f0) ((rd_T28 x5_1 x8_2).f1) t127 t128 _ A36.out).mono ?_
                                   rintro e w_ ⟨rfl, hb⟩
                                   refine ⟨_, rfl, ?_⟩
                                   refine hK.out _ _ (SX.of HC_.out (below_step hF_.B hb)) (fun _ => ?_)
                                   clear hK K
                                   refine norm_ (a' := ?_) ?_ ?_
                                   rotate_left
                                   ·show Act.put _ (some 73) _ = _
                                    simp only [Act.put, List.setIfInBounds_toArray, List.set_cons_zero, List.set_cons_succ, i64_w, i32_w]
                                    rfl
                                   exact norm_ (by first | (simp only [putAll, Act.put, List.setIfInBounds_toArray, List.set_cons_zero, List.set_cons_succ]; done) | (simp only [putAll, Act.put, List.setIfInBounds_toArray, List.set_cons_zero, List.set_cons_succ]; rfl)) (hJ1_1 s_ _ ⟨SX.of HC_.out (below_step hF_.B hb), hF_.call hb⟩)
                                  ·skip
                                   refine box_step ?hg (N := 10) ?hd (cs := #[.int .i64 0, .int .i64 0]) (t := 28) ?hr ?_; (case hd => rfl); (case hg => rfl); (case hr => first | (go_simp; done) | (go_simp; rfl))
                                   intro g_ hg w_ hbox hb
                                   refine hK.out _ _ (SX.of HC_.out (below_step hF_.B hb)) (fun _ => ?_)
                                   clear hK K
                                   refine norm_ (a' := ?_) ?_ ?_
                                   rotate_left
                                   ·show Act.put _ (some 10) _ = _
                                    simp only [Act.put, List.setIfInBounds_toArray, List.set_cons_zero, List.set_cons_succ, i64_w, i32_w]
                                    rfl
                                   exact norm_ (by first | (simp only [putAll, Act.put, List.setIfInBounds_toArray, List.set_cons_zero, List.set_cons_succ]; done) | (simp only [putAll, Act.put, List.setIfInBounds_toArray, List.set_cons_zero, List.set_cons_succ]; rfl)) (hJ0_12 (s_.1, g_, s_.2.2) _ ⟨SX.of HC_.out (below_step hF_.B hb), hF_.new2 hg hbox hb⟩)
                                  ·skip
                                   refine box_step ?hg (N := 11) ?hd (cs := #[.int .i64 0, .int .i64 0]) (t := 28) ?hr ?_; (case hd => rfl); (case hg => rfl); (case hr => first | (go_simp; done) | (go_simp; rfl))
                                   intro g_ hg w_ hbox hb
                                   refine hK.out _ _ (SX.of HC_.out (below_step hF_.B hb)) (fun _ => ?_)
                                   clear hK K
                                   refine norm_ (a' := ?_) ?_ ?_
                                   rotate_left
                                   ·show Act.put _ (some 11) _ = _
                                    simp only [Act.put, List.setIfInBounds_toArray, List.set_cons_zero, List.set_cons_succ, i64_w, i32_w]
                                    rfl
                                   exact norm_ (by first | (simp only [putAll, Act.put, List.setIfInBounds_toArray, List.set_cons_zero, List.set_cons_succ]; done) | (simp only [putAll, Act.put, List.setIfInBounds_toArray, List.set_cons_zero, List.set_cons_succ]; rfl)) (hJ0_13 (s_.1, s_.2.1, g_) _ ⟨SX.of HC_.out (below_step hF_.B hb), hF_.new3 hg hbox hb⟩)
                                 rintro s_ w1_ ⟨hS_, hF_⟩
                                 refine norm_ (a' := ?_) ?_ ?_
                                 rotate_left
                                 ·simp only [putAll, Act.put, List.setIfInBounds_toArray, List.set_cons_zero, List.set_cons_succ]
                                  rfl
                                 refine three_ (i := 24) (j := 25) (k := 26) (Ni := some 9) (Nj := some 10) (Nk := some 11) #[true, true, true, true, true, true, true, true, true, true, true, true, true, true, true, true, true, true, true, true, true, true, true, true, true, false, false, false, false, false] #[true, true, true, true, true, true, true, true, true, true, true, true, true, true, true, true, true, true, true, true, true, true, true, true, false, true, false, false, false, false] #[true, true, true, true, true, true, true, true, true, true, true, true, true, true, true, true, true, true, true, true, true, true, true, true, false, false, true, false, false, false] rfl rfl rfl rfl rfl rfl (three_of HT_.out (by kernel_rfl)) (by decide) (by decide) (by decide) (fun K hK => ?_) (fun K hK => ?_) (fun K hK => ?_)
                                 ·skip
                                  refine box_step ?hg (N := 9) ?hd (cs := #[.int .i64 0, .int .i64 0]) (t := 28) ?hr ?_; (case hd => rfl); (case hg => rfl); (case hr => first | (go_simp; done) | (go_simp; rfl))
                                  intro g_ hg w_ hbox hb
                                  refine hK.out _ _ (SX.of HC_.out (below_step hF_.B hb)) (fun _ => ?_)
                                  clear hK K
                                  refine norm_ (a' := ?_) ?_ ?_
                                  rotate_left
                                  ·show Act.put _ (some 9) _ = _
                                   simp only [Act.put, List.setIfInBounds_toArray, List.set_cons_zero, List.set_cons_succ, i64_w, i32_w]
                                   rfl
                                  exact norm_ (by first | (simp only [putAll, Act.put, List.setIfInBounds_toArray, List.set_cons_zero, List.set_cons_succ]; done) | (simp only [putAll, Act.put, List.setIfInBounds_toArray, List.set_cons_zero, List.set_cons_succ]; rfl)) (hJ2_1 (g_, s_.2) _ ⟨SX.of HC_.out (below_step hF_.B hb), hF_.new1 hg hbox hb⟩)
                                 ·skip
                                  refine box_step ?hg (N := 10) ?hd (cs := #[.int .i64 0, .int .i64 0]) (t := 28) ?hr ?_; (case hd => rfl); (case hg => rfl); (case hr => first | (go_simp; done) | (go_simp; rfl))
                                  intro g_ hg w_ hbox hb
                                  refine hK.out _ _ (SX.of HC_.out (below_step hF_.B hb)) (fun _ => ?_)
                                  clear hK K
                                  refine norm_ (a' := ?_) ?_ ?_
                                  rotate_left
                                  ·show Act.put _ (some 10) _ = _
                                   simp only [Act.put, List.setIfInBounds_toArray, List.set_cons_zero, List.set_cons_succ, i64_w, i32_w]
                                   rfl
                                  exact norm_ (by first | (simp only [putAll, Act.put, List.setIfInBounds_toArray, List.set_cons_zero, List.set_cons_succ]; done) | (simp only [putAll, Act.put, List.setIfInBounds_toArray, List.set_cons_zero, List.set_cons_succ]; rfl)) (hJ2_2 (s_.1, g_, s_.2.2) _ ⟨SX.of HC_.out (below_step hF_.B hb), hF_.new2 hg hbox hb⟩)
                                 ·skip
                                  refine box_step ?hg (N := 11) ?hd (cs := #[.int .i64 0, .int .i64 0]) (t := 28) ?hr ?_; (case hd => rfl); (case hg => rfl); (case hr => first | (go_simp; done) | (go_simp; rfl))
                                  intro g_ hg w_ hbox hb
                                  refine hK.out _ _ (SX.of HC_.out (below_step hF_.B hb)) (fun _ => ?_)
                                  clear hK K
                                  refine norm_ (a' := ?_) ?_ ?_
                                  rotate_left
                                  ·show Act.put _ (some 11) _ = _
                                   simp only [Act.put, List.setIfInBounds_toArray, List.set_cons_zero, List.set_cons_succ, i64_w, i32_w]
                                   rfl
                                  exact norm_ (by first | (simp only [putAll, Act.put, List.setIfInBounds_toArray, List.set_cons_zero, List.set_cons_succ]; done) | (simp only [putAll, Act.put, List.setIfInBounds_toArray, List.set_cons_zero, List.set_cons_succ]; rfl)) (hJ2_3 (s_.1, s_.2.1, g_) _ ⟨SX.of HC_.out (below_step hF_.B hb), hF_.new3 hg hbox hb⟩)
                                rintro s_ w1_ ⟨hS_, hF_⟩
                                refine norm_ (a' := ?_) ?_ ?_
                                rotate_left
                                ·simp only [putAll, Act.put, List.setIfInBounds_toArray, List.set_cons_zero, List.set_cons_succ]
                                 rfl
                                refine three_ (i := 23) (j := 24) (k := 25) (Ni := some 87) (Nj := some 9) (Nk := some 10) #[true, true, true, true, true, true, true, true, true, true, true, true, true, true, true, true, true, true, true, true, true, true, true, true, false, false, true, false, false, false] #[true, true, true, true, true, true, true, true, true, true, true, true, true, true, true, true, true, true, true, true, true, true, true, false, true, false, true, false, false, false] #[true, true, true, true, true, true, true, true, true, true, true, true, true, true, true, true, true, true, true, true, true, true, true, false, false, true, true, false, false, false] rfl rfl rfl rfl rfl rfl (three_of HT_.out (by kernel_rfl)) (by decide) (by decide) (by decide) (fun K hK => ?_) (fun K hK => ?_) (fun K hK => ?_)
                                ·skip
                                 refine goes_ Try.func33 (by kernel_rfl) rfl #[.agg #[.int .i64 ((rd_T28 x5_1 x8_2).f0), .int .i64 ((rd_T28 x5_1 x8_2).f1)], .agg #[.int .i64 ((rd_T28 x5_1 (ji37)).f0), .int .i64 ((rd_T28 x5_1 (ji37)).f1)]] (by rfl) rfl rfl (by (try simp only [List.map_toArray, List.map_cons, List.map_nil]); first | done | (simp only [hji37]; rfl) | rfl | (simp only [List.length_drop, List.length_take]; rfl)) ?_
                                 with_reducible refine (QCp.curve_middle.calls ((rd_T28 x5_1 x8_2).f0) ((rd_T28 x5_1 x8_2).f1) ((rd_T28 x5_1 (ji37)).f0) ((rd_T28 x5_1 (ji37)).f1) t132 t133 _ A39.out).mono ?_
                                 rintro e w_ ⟨rfl, hb⟩
                                 refine ⟨_, rfl, ?_⟩
                                 refine hK.out _ _ (SX.of HC_.out (below_step hF_.B hb)) (fun _ => ?_)
                                 clear hK K
                                 refine norm_ (a' := ?_) ?_ ?_
                                 rotate_left
                                 ·show Act.put _ (some 87) _ = _
                                  simp only [Act.put, List.setIfInBounds_toArray, List.set_cons_zero, List.set_cons_succ, i64_w, i32_w]
                                  rfl
                                 exact norm_ (by first | (simp only [putAll, Act.put, List.setIfInBounds_toArray, List.set_cons_zero, List.set_cons_succ]; done) | (simp only [putAll, Act.put, List.setIfInBounds_toArray, List.set_cons_zero, List.set_cons_succ]; rfl)) (hJ2_3 s_ _ ⟨SX.of HC_.out (below_step hF_.B hb), hF_.call hb⟩)
                                ·skip
                                 refine box_step ?hg (N := 9) ?hd (cs := #[.int .i64 0, .int .i64 0]) (t := 28) ?hr ?_; (case hd => rfl); (case hg => rfl); (case hr => first | (go_simp; done) | (go_simp; rfl))
                                 intro g_ hg w_ hbox hb
                                 refine hK.out _ _ (SX.of HC_.out (below_step hF_.B hb)) (fun _ => ?_)
                                 clear hK K
                                 refine norm_ (a' := ?_) ?_ ?_
                                 rotate_left
                                 ·show Act.put _ (some 9) _ = _
                                  simp only [Act.put, List.setIfInBounds_toArray, List.set_cons_zero, List.set_cons_succ, i64_w, i32_w]
                                  rfl
                                 exact norm_ (by first | (simp only [putAll, Act.put, List.setIfInBounds_toArray, List.set_cons_zero, List.set_cons_succ]; done) | (simp only [putAll, Act.put, List.setIfInBounds_toArray, List.set_cons_zero, List.set_cons_succ]; rfl)) (hJ1_13 (g_, s_.2) _ ⟨SX.of HC_.out (below_step hF_.B hb), hF_.new1 hg hbox hb⟩)
                                ·skip
                                 refine box_step ?hg (N := 10) ?hd (cs := #[.int .i64 0, .int .i64 0]) (t := 28) ?hr ?_; (case hd => rfl); (case hg => rfl); (case hr => first | (go_simp; done) | (go_simp; rfl))
                                 intro g_ hg w_ hbox hb
                                 refine hK.out _ _ (SX.of HC_.out (below_step hF_.B hb)) (fun _ => ?_)
                                 clear hK K
                                 refine norm_ (a' := ?_) ?_ ?_
                                 rotate_left
                                 ·show Act.put _ (some 10) _ = _
                                  simp only [Act.put, List.setIfInBounds_toArray, List.set_cons_zero, List.set_cons_succ, i64_w, i32_w]
                                  rfl
                                 exact norm_ (by first | (simp only [putAll, Act.put, List.setIfInBounds_toArray, List.set_cons_zero, List.set_cons_succ]; done) | (simp only [putAll, Act.put, List.setIfInBounds_toArray, List.set_cons_zero, List.set_cons_succ]; rfl)) (hJ1_23 (s_.1, g_, s_.2.2) _ ⟨SX.of HC_.out (below_step hF_.B hb), hF_.new2 hg hbox hb⟩)
                               rintro s_ w1_ ⟨hS_, hF_⟩
                               refine norm_ (a' := ?_) ?_ ?_
                               rotate_left
                               ·simp only [putAll, Act.put, List.setIfInBounds_toArray, List.set_cons_zero, List.set_cons_succ]
                                rfl
                               refine three_ (i := 23) (j := 24) (k := 26) (Ni := some 87) (Nj := some 9) (Nk := some 11) #[true, true, true, true, true, true, true, true, true, true, true, true, true, true, true, true, true, true, true, true, true, true, true, true, false, true, false, false, false, false] #[true, true, true, true, true, true, true, true, true, true, true, true, true, true, true, true, true, true, true, true, true, true, true, false, true, true, false, false, false, false] #[true, true, true, true, true, true, true, true, true, true, true, true, true, true, true, true, true, true, true, true, true, true, true, false, false, true, true, false, false, false] rfl rfl rfl rfl rfl rfl (three_of HT_.out (by kernel_rfl)) (by decide) (by decide) (by decide) (fun K hK => ?_) (fun K hK => ?_) (fun K hK => ?_)
                               ·skip
                                refine goes_ Try.func33 (by kernel_rfl) rfl #[.agg #[.int .i64 ((rd_T28 x5_1 x8_2).f0), .int .i64 ((rd_T28 x5_1 x8_2).f1)], .agg #[.int .i64 ((rd_T28 x5_1 (ji37)).f0), .int .i64 ((rd_T28 x5_1 (ji37)).f1)]] (by rfl) rfl rfl (by (try simp only [List.map_toArray, List.map_cons, List.map_nil]); first | done | (simp only [hji37]; rfl) | rfl | (simp only [List.length_drop, List.length_take]; rfl)) ?_
                                with_reducible refine (QCp.curve_middle.calls ((rd_T28 x5_1 x8_2).f0) ((rd_T28 x5_1 x8_2).f1) ((rd_T28 x5_1 (ji37)).f0) ((rd_T28 x5_1 (ji37)).f1) t132 t133 _ A39.out).mono ?_
                                rintro e w_ ⟨rfl, hb⟩
                                refine ⟨_, rfl, ?_⟩
                                refine hK.out _ _ (SX.of HC_.out (below_step hF_.B hb)) (fun _ => ?_)
                                clear hK K
                                refine norm_ (a' := ?_) ?_ ?_
                                rotate_left
                                ·show Act.put _ (some 87) _ = _
                                 simp only [Act.put, List.setIfInBounds_toArray, List.set_cons_zero, List.set_cons_succ, i64_w, i32_w]
                                 rfl
                                exact norm_ (by first | (simp only [putAll, Act.put, List.setIfInBounds_toArray, List.set_cons_zero, List.set_cons_succ]; done) | (simp only [putAll, Act.put, List.setIfInBounds_toArray, List.set_cons_zero, List.set_cons_succ]; rfl)) (hJ2_2 s_ _ ⟨SX.of HC_.out (below_step hF_.B hb), hF_.call hb⟩)
                               ·skip
                                refine box_step ?hg (N := 9) ?hd (cs := #[.int .i64 0, .int .i64 0]) (t := 28) ?hr ?_; (case hd => rfl); (case hg => rfl); (case hr => first | (go_simp; done) | (go_simp; rfl))
                                intro g_ hg w_ hbox hb
                                refine hK.out _ _ (SX.of HC_.out (below_step hF_.B hb)) (fun _ => ?_)
                                clear hK K
                                refine norm_ (a' := ?_) ?_ ?_
                                rotate_left
                                ·show Act.put _ (some 9) _ = _
                                 simp only [Act.put, List.setIfInBounds_toArray, List.set_cons_zero, List.set_cons_succ, i64_w, i32_w]
                                 rfl
                                exact norm_ (by first | (simp only [putAll, Act.put, List.setIfInBounds_toArray, List.set_cons_zero, List.set_cons_succ]; done) | (simp only [putAll, Act.put, List.setIfInBounds_toArray, List.set_cons_zero, List.set_cons_succ]; rfl)) (hJ1_12 (g_, s_.2) _ ⟨SX.of HC_.out (below_step hF_.B hb), hF_.new1 hg hbox hb⟩)
                               ·skip
                                refine box_step ?hg (N := 11) ?hd (cs := #[.int .i64 0, .int .i64 0]) (t := 28) ?hr ?_; (case hd => rfl); (case hg => rfl); (case hr => first | (go_simp; done) | (go_simp; rfl))
                                intro g_ hg w_ hbox hb
                                refine hK.out _ _ (SX.of HC_.out (below_step hF_.B hb)) (fun _ => ?_)
                                clear hK K
                                refine norm_ (a' := ?_) ?_ ?_
                                rotate_left
                                ·show Act.put _ (some 11) _ = _
                                 simp only [Act.put, List.setIfInBounds_toArray, List.set_cons_zero, List.set_cons_succ, i64_w, i32_w]
                                 rfl
                                exact norm_ (by first | (simp only [putAll, Act.put, List.setIfInBounds_toArray, List.set_cons_zero, List.set_cons_succ]; done) | (simp only [putAll, Act.put, List.setIfInBounds_toArray, List.set_cons_zero, List.set_cons_succ]; rfl)) (hJ1_23 (s_.1, s_.2.1, g_) _ ⟨SX.of HC_.out (below_step hF_.B hb), hF_.new3 hg hbox hb⟩)
                              rintro s_ w1_ ⟨hS_, hF_⟩
                              refine norm_ (a' := ?_) ?_ ?_
                              rotate_left
                              ·simp only [putAll, Act.put, List.setIfInBounds_toArray, List.set_cons_zero, List.set_cons_succ]
                               rfl
                              refine three_ (i := 23) (j := 25) (k := 26) (Ni := some 87) (Nj := some 10) (Nk := some 11) #[true, true, true, true, true, true, true, true, true, true, true, true, true, true, true, true, true, true, true, true, true, true, true, true, true, false, false, false, false, false] #[true, true, true, true, true, true, true, true, true, true, true, true, true, true, true, true, true, true, true, true, true, true, true, false, true, true, false, false, false, false] #[true, true, true, true, true, true, true, true, true, true, true, true, true, true, true, true, true, true, true, true, true, true, true, false, true, false, true, false, false, false] rfl rfl rfl rfl rfl rfl (three_of HT_.out (by kernel_rfl)) (by decide) (by decide) (by decide) (fun K hK => ?_) (fun K hK => ?_) (fun K hK => ?_)
                              ·skip
                               refine goes_ Try.func33 (by kernel_rfl) rfl #[.agg #[.int .i64 ((rd_T28 x5_1 x8_2).f0), .int .i64 ((rd_T28 x5_1 x8_2).f1)], .agg #[.int .i64 ((rd_T28 x5_1 (ji37)).f0), .int .i64 ((rd_T28 x5_1 (ji37)).f1)]] (by rfl) rfl rfl (by (try simp only [List.map_toArray, List.map_cons, List.map_nil]); first | done | (simp only [hji37]; rfl) | rfl | (simp only [List.length_drop, List.length_take]; rfl)) ?_
                               with_reducible refine (QCp.curve_middle.calls ((rd_T28 x5_1 x8_2).f0) ((rd_T28 x5_1 x8_2).f1) ((rd_T28 x5_1 (ji37)).f0) ((rd_T28 x5_1 (ji37)).f1) t132 t133 _ A39.out).mono ?_
                               rintro e w_ ⟨rfl, hb⟩
                               refine ⟨_, rfl, ?_⟩
                               refine hK.out _ _ (SX.of HC_.out (below_step hF_.B hb)) (fun _ => ?_)
                               clear hK K
                               refine norm_ (a' := ?_) ?_ ?_
                               rotate_left
                               ·show Act.put _ (some 87) _ = _
                                simp only [Act.put, List.setIfInBounds_toArray, List.set_cons_zero, List.set_cons_succ, i64_w, i32_w]
                                rfl
                               exact norm_ (by first | (simp only [putAll, Act.put, List.setIfInBounds_toArray, List.set_cons_zero, List.set_cons_succ]; done) | (simp only [putAll, Act.put, List.setIfInBounds_toArray, List.set_cons_zero, List.set_cons_succ]; rfl)) (hJ2_1 s_ _ ⟨SX.of HC_.out (below_step hF_.B hb), hF_.call hb⟩)
                              ·skip
                               refine box_step ?hg (N := 10) ?hd (cs := #[.int .i64 0, .int .i64 0]) (t := 28) ?hr ?_; (case hd => rfl); (case hg => rfl); (case hr => first | (go_simp; done) | (go_simp; rfl))
                               intro g_ hg w_ hbox hb
                               refine hK.out _ _ (SX.of HC_.out (below_step hF_.B hb)) (fun _ => ?_)
                               clear hK K
                               refine norm_ (a' := ?_) ?_ ?_
                               rotate_left
                               ·show Act.put _ (some 10) _ = _
                                simp only [Act.put, List.setIfInBounds_toArray, List.set_cons_zero, List.set_cons_succ, i64_w, i32_w]
                                rfl
                               exact norm_ (by first | (simp only [putAll, Act.put, List.setIfInBounds_toArray, List.set_cons_zero, List.set_cons_succ]; done) | (simp only [putAll, Act.put, List.setIfInBounds_toArray, List.set_cons_zero, List.set_cons_succ]; rfl)) (hJ1_12 (s_.1, g_, s_.2.2) _ ⟨SX.of HC_.out (below_step hF_.B hb), hF_.new2 hg hbox hb⟩)
                              ·skip
                               refine box_step ?hg (N := 11) ?hd (cs := #[.int .i64 0, .int .i64 0]) (t := 28) ?hr ?_; (case hd => rfl); (case hg => rfl); (case hr => first | (go_simp; done) | (go_simp; rfl))
                               intro g_ hg w_ hbox hb
                               refine hK.out _ _ (SX.of HC_.out (below_step hF_.B hb)) (fun _ => ?_)
                               clear hK K
                               refine norm_ (a' := ?_) ?_ ?_
                               rotate_left
                               ·show Act.put _ (some 11) _ = _
                                simp only [Act.put, List.setIfInBounds_toArray, List.set_cons_zero, List.set_cons_succ, i64_w, i32_w]
                                rfl
                               exact norm_ (by first | (simp only [putAll, Act.put, List.setIfInBounds_toArray, List.set_cons_zero, List.set_cons_succ]; done) | (simp only [putAll, Act.put, List.setIfInBounds_toArray, List.set_cons_zero, List.set_cons_succ]; rfl)) (hJ1_13 (s_.1, s_.2.1, g_) _ ⟨SX.of HC_.out (below_step hF_.B hb), hF_.new3 hg hbox hb⟩)
                             rintro s_ w1_ ⟨hS_, hF_⟩
                             refine norm_ (a' := ?_) ?_ ?_
                             rotate_left
                             ·simp only [putAll, Act.put, List.setIfInBounds_toArray, List.set_cons_zero, List.set_cons_succ]
                              rfl
                             refine two_ (i := 9) (j := 24) (Ni := some 73) (Nj := some 9) #[true, true, true, true, true, true, true, true, true, true, true, true, true, true, true, true, true, true, true, true, true, true, true, false, false, true, true, false, false, false] #[true, true, true, true, true, true, true, true, true, false, true, true, true, true, true, true, true, true, true, true, true, true, true, false, true, true, true, false, false, false] rfl rfl rfl rfl (two_of HT_.out (by kernel_rfl)) (by decide) (by decide) (fun K hK => ?_) (fun K hK => ?_)
                             ·skip
                              refine goes_ Try.func33 (by kernel_rfl) rfl #[.agg #[.int .i64 ((rd_T28 x5_1 (ji31)).f0), .int .i64 ((rd_T28 x5_1 (ji31)).f1)], .agg #[.int .i64 ((rd_T28 x5_1 x8_2).f0), .int .i64 ((rd_T28 x5_1 x8_2).f1)]] (by rfl) rfl rfl (by (try simp only [List.map_toArray, List.map_cons, List.map_nil]); first | done | (simp only [hji31]; rfl) | rfl | (simp only [List.length_drop, List.length_take]; rfl)) ?_
                              with_reducible refine (QCp.curve_middle.calls ((rd_T28 x5_1 (ji31)).f0) ((rd_T28 x5_1 (ji31)).f1) ((rd_T28 x5_1 x8_2).f0) ((rd_T28 x5_1 x8_2).f1) t127 t128 _ A36.out).mono ?_
                              rintro e w_ ⟨rfl, hb⟩
                              refine ⟨_, rfl, ?_⟩
                              refine hK.out _ _ (SX.of HC_.out (below_step hF_.B hb)) (fun _ => ?_)
                              clear hK K
                              refine norm_ (a' := ?_) ?_ ?_
                              rotate_left
                              ·show Act.put _ (some 73) _ = _
                               simp only [Act.put, List.setIfInBounds_toArray, List.set_cons_zero, List.set_cons_succ, i64_w, i32_w]
                               rfl
                              exact norm_ (by first | (simp only [putAll, Act.put, List.setIfInBounds_toArray, List.set_cons_zero, List.set_cons_succ]; done) | (simp only [putAll, Act.put, List.setIfInBounds_toArray, List.set_cons_zero, List.set_cons_succ]; rfl)) (hJ1_23 s_ _ ⟨SX.of HC_.out (below_step hF_.B hb), hF_.call hb⟩)
                             ·skip
                              refine box_step ?hg (N := 9) ?hd (cs := #[.int .i64 0, .int .i64 0]) (t := 28) ?hr ?_; (case hd => rfl); (case hg => rfl); (case hr => first | (go_simp; done) | (go_simp; rfl))
                              intro g_ hg w_ hbox hb
                              refine hK.out _ _ (SX.of HC_.out (below_step hF_.B hb)) (fun _ => ?_)
                              clear hK K
                              refine norm_ (a' := ?_) ?_ ?_
                              rotate_left
                              ·show Act.put _ (some 9) _ = _
                               simp only [Act.put, List.setIfInBounds_toArray, List.set_cons_zero, List.set_cons_succ, i64_w, i32_w]
                               rfl
                              exact norm_ (by first | (simp only [putAll, Act.put, List.setIfInBounds_toArray, List.set_cons_zero, List.set_cons_succ]; done) | (simp only [putAll, Act.put, List.setIfInBounds_toArray, List.set_cons_zero, List.set_cons_succ]; rfl)) (hJ0_123 (g_, s_.2) _ ⟨SX.of HC_.out (below_step hF_.B hb), hF_.new1 hg hbox hb⟩)
                            rintro s_ w1_ ⟨hS_, hF_⟩
                            refine norm_ (a' := ?_) ?_ ?_
                            rotate_left
                            ·simp only [putAll, Act.put, List.setIfInBounds_toArray, List.set_cons_zero, List.set_cons_succ]
                             rfl
                            refine two_ (i := 9) (j := 25) (Ni := some 73) (Nj := some 10) #[true, true, true, true, true, true, true, true, true, true, true, true, true, true, true, true, true, true, true, true, true, true, true, false, true, false, true, false, false, false] #[true, true, true, true, true, true, true, true, true, false, true, true, true, true, true, true, true, true, true, true, true, true, true, false, true, true, true, false, false, false] rfl rfl rfl rfl (two_of HT_.out (by kernel_rfl)) (by decide) (by decide) (fun K hK => ?_) (fun K hK => ?_)
                            ·skip
                             refine goes_ Try.func33 (by kernel_rfl) rfl #[.agg #[.int .i64 ((rd_T28 x5_1 (ji31)).f0), .int .i64 ((rd_T28 x5_1 (ji31)).f1)], .agg #[.int .i64 ((rd_T28 x5_1 x8_2).f0), .int .i64 ((rd_T28 x5_1 x8_2).f1)]] (by rfl) rfl rfl (by (try simp only [List.map_toArray, List.map_cons, List.map_nil]); first | done | (simp only [hji31]; rfl) | rfl | (simp only [List.length_drop, List.length_take]; rfl)) ?_
                             with_reducible refine (QCp.curve_middle.calls ((rd_T28 x5_1 (ji31)).f0) ((rd_T28 x5_1 (ji31)).f1) ((rd_T28 x5_1 x8_2).f0) ((rd_T28 x5_1 x8_2).f1) t127 t128 _ A36.out).mono ?_
                             rintro e w_ ⟨rfl, hb⟩
                             refine ⟨_, rfl, ?_⟩
                             refine hK.out _ _ (SX.of HC_.out (below_step hF_.B hb)) (fun _ => ?_)
                             clear hK K
                             refine norm_ (a' := ?_) ?_ ?_
                             rotate_left
                             ·show Act.put _ (some 73) _ = _
                              simp only [Act.put, List.setIfInBounds_toArray, List.set_cons_zero, List.set_cons_succ, i64_w, i32_w]
                              rfl
                             exact norm_ (by first | (simp only [putAll, Act.put, List.setIfInBounds_toArray, List.set_cons_zero, List.set_cons_succ]; done) | (simp only [putAll, Act.put, List.setIfInBounds_toArray, List.set_cons_zero, List.set_cons_succ]; rfl)) (hJ1_13 s_ _ ⟨SX.of HC_.out (below_step hF_.B hb), hF_.call hb⟩)
                            ·skip
                             refine box_step ?hg (N := 10) ?hd (cs := #[.int .i64 0, .int .i64 0]) (t := 28) ?hr ?_; (case hd => rfl); (case hg => rfl); (case hr => first | (go_simp; done) | (go_simp; rfl))
                             intro g_ hg w_ hbox hb
                             refine hK.out _ _ (SX.of HC_.out (below_step hF_.B hb)) (fun _ => ?_)
                             clear hK K
                             refine norm_ (a' := ?_) ?_ ?_
                             rotate_left
                             ·show Act.put _ (some 10) _ = _
                              simp only [Act.put, List.setIfInBounds_toArray, List.set_cons_zero, List.set_cons_succ, i64_w, i32_w]
                              rfl
                             exact norm_ (by first | (simp only [putAll, Act.put, List.setIfInBounds_toArray, List.set_cons_zero, List.set_cons_succ]; done) | (simp only [putAll, Act.put, List.setIfInBounds_toArray, List.set_cons_zero, List.set_cons_succ]; rfl)) (hJ0_123 (s_.1, g_, s_.2.2) _ ⟨SX.of HC_.out (below_step hF_.B hb), hF_.new2 hg hbox hb⟩)
                           rintro s_ w1_ ⟨hS_, hF_⟩
                           refine norm_ (a' := ?_) ?_ ?_
                           rotate_left
                           ·simp only [putAll, Act.put, List.setIfInBounds_toArray, List.set_cons_zero, List.set_cons_succ]
                            rfl
                           refine two_ (i := 9) (j := 26) (Ni := some 73) (Nj := some 11) #[true, true, true, true, true, true, true, true, true, true, true, true, true, true, true, true, true, true, true, true, true, true, true, false, true, true, false, false, false, false] #[true, true, true, true, true, true, true, true, true, false, true, true, true, true, true, true, true, true, true, true, true, true, true, false, true, true, true, false, false, false] rfl rfl rfl rfl (two_of HT_.out (by kernel_rfl)) (by decide) (by decide) (fun K hK => ?_) (fun K hK => ?_)
                           ·skip
                            refine goes_ Try.func33 (by kernel_rfl) rfl #[.agg #[.int .i64 ((rd_T28 x5_1 (ji31)).f0), .int .i64 ((rd_T28 x5_1 (ji31)).f1)], .agg #[.int .i64 ((rd_T28 x5_1 x8_2).f0), .int .i64 ((rd_T28 x5_1 x8_2).f1)]] (by rfl) rfl rfl (by (try simp only [List.map_toArray, List.map_cons, List.map_nil]); first | done | (simp only [hji31]; rfl) | rfl | (simp only [List.length_drop, List.length_take]; rfl)) ?_
                            with_reducible refine (QCp.curve_middle.calls ((rd_T28 x5_1 (ji31)).f0) ((rd_T28 x5_1 (ji31)).f1) ((rd_T28 x5_1 x8_2).f0) ((rd_T28 x5_1 x8_2).f1) t127 t128 _ A36.out).mono ?_
                            rintro e w_ ⟨rfl, hb⟩
                            refine ⟨_, rfl, ?_⟩
                            refine hK.out _ _ (SX.of HC_.out (below_step hF_.B hb)) (fun _ => ?_)
                            clear hK K
                            refine norm_ (a' := ?_) ?_ ?_
                            rotate_left
                            ·show Act.put _ (some 73) _ = _
                             simp only [Act.put, List.setIfInBounds_toArray, List.set_cons_zero, List.set_cons_succ, i64_w, i32_w]
                             rfl
                            exact norm_ (by first | (simp only [putAll, Act.put, List.setIfInBounds_toArray, List.set_cons_zero, List.set_cons_succ]; done) | (simp only [putAll, Act.put, List.setIfInBounds_toArray, List.set_cons_zero, List.set_cons_succ]; rfl)) (hJ1_12 s_ _ ⟨SX.of HC_.out (below_step hF_.B hb), hF_.call hb⟩)
                           ·skip
                            refine box_step ?hg (N := 11) ?hd (cs := #[.int .i64 0, .int .i64 0]) (t := 28) ?hr ?_; (case hd => rfl); (case hg => rfl); (case hr => first | (go_simp; done) | (go_simp; rfl))
                            intro g_ hg w_ hbox hb
                            refine hK.out _ _ (SX.of HC_.out (below_step hF_.B hb)) (fun _ => ?_)
                            clear hK K
                            refine norm_ (a' := ?_) ?_ ?_
                            rotate_left
                            ·show Act.put _ (some 11) _ = _
                             simp only [Act.put, List.setIfInBounds_toArray, List.set_cons_zero, List.set_cons_succ, i64_w, i32_w]
                             rfl
                            exact norm_ (by first | (simp only [putAll, Act.put, List.setIfInBounds_toArray, List.set_cons_zero, List.set_cons_succ]; done) | (simp only [putAll, Act.put, List.setIfInBounds_toArray, List.set_cons_zero, List.set_cons_succ]; rfl)) (hJ0_123 (s_.1, s_.2.1, g_) _ ⟨SX.of HC_.out (below_step hF_.B hb), hF_.new3 hg hbox hb⟩)
                          rintro s_ w1_ ⟨hS_, hF_⟩
                          refine norm_ (a' := ?_) ?_ ?_
                          rotate_left
                          ·simp only [putAll, Act.put, List.setIfInBounds_toArray, List.set_cons_zero, List.set_cons_succ]
                           rfl
                          refine two_ (i := 24) (j := 25) (Ni := some 9) (Nj := some 10) #[true, true, true, true, true, true, true, true, true, true, true, true, true, true, true, true, true, true, true, true, true, true, true, true, true, false, true, false, false, false] #[true, true, true, true, true, true, true, true, true, true, true, true, true, true, true, true, true, true, true, true, true, true, true, true, false, true, true, false, false, false] rfl rfl rfl rfl (two_of HT_.out (by kernel_rfl)) (by decide) (by decide) (fun K hK => ?_) (fun K hK => ?_)
                          ·skip
                           refine box_step ?hg (N := 9) ?hd (cs := #[.int .i64 0, .int .i64 0]) (t := 28) ?hr ?_; (case hd => rfl); (case hg => rfl); (case hr => first | (go_simp; done) | (go_simp; rfl))
                           intro g_ hg w_ hbox hb
                           refine hK.out _ _ (SX.of HC_.out (below_step hF_.B hb)) (fun _ => ?_)
                           clear hK K
                           refine norm_ (a' := ?_) ?_ ?_
                           rotate_left
                           ·show Act.put _ (some 9) _ = _
                            simp only [Act.put, List.setIfInBounds_toArray, List.set_cons_zero, List.set_cons_succ, i64_w, i32_w]
                            rfl
                           exact norm_ (by first | (simp only [putAll, Act.put, List.setIfInBounds_toArray, List.set_cons_zero, List.set_cons_succ]; done) | (simp only [putAll, Act.put, List.setIfInBounds_toArray, List.set_cons_zero, List.set_cons_succ]; rfl)) (hJ2_13 (g_, s_.2) _ ⟨SX.of HC_.out (below_step hF_.B hb), hF_.new1 hg hbox hb⟩)
                          ·skip
                           refine box_step ?hg (N := 10) ?hd (cs := #[.int .i64 0, .int .i64 0]) (t := 28) ?hr ?_; (case hd => rfl); (case hg => rfl); (case hr => first | (go_simp; done) | (go_simp; rfl))
                           intro g_ hg w_ hbox hb
                           refine hK.out _ _ (SX.of HC_.out (below_step hF_.B hb)) (fun _ => ?_)
                           clear hK K
                           refine norm_ (a' := ?_) ?_ ?_
                           rotate_left
                           ·show Act.put _ (some 10) _ = _
                            simp only [Act.put, List.setIfInBounds_toArray, List.set_cons_zero, List.set_cons_succ, i64_w, i32_w]
                            rfl
                           exact norm_ (by first | (simp only [putAll, Act.put, List.setIfInBounds_toArray, List.set_cons_zero, List.set_cons_succ]; done) | (simp only [putAll, Act.put, List.setIfInBounds_toArray, List.set_cons_zero, List.set_cons_succ]; rfl)) (hJ2_23 (s_.1, g_, s_.2.2) _ ⟨SX.of HC_.out (below_step hF_.B hb), hF_.new2 hg hbox hb⟩)
                         rintro s_ w1_ ⟨hS_, hF_⟩
                         refine norm_ (a' := ?_) ?_ ?_
                         rotate_left
                         ·simp only [putAll, Act.put, List.setIfInBounds_toArray, List.set_cons_zero, List.set_cons_succ]
                          rfl
                         refine two_ (i := 24) (j := 26) (Ni := some 9) (Nj := some 11) #[true, true, true, true, true, true, true, true, true, true, true, true, true, true, true, true, true, true, true, true, true, true, true, true, true, true, false, false, false, false] #[true, true, true, true, true, true, true, true, true, true, true, true, true, true, true, true, true, true, true, true, true, true, true, true, false, true, true, false, false, false] rfl rfl rfl rfl (two_of HT_.out (by kernel_rfl)) (by decide) (by decide) (fun K hK => ?_) (fun K hK => ?_)
                         ·skip
                          refine box_step ?hg (N := 9) ?hd (cs := #[.int .i64 0, .int .i64 0]) (t := 28) ?hr ?_; (case hd => rfl); (case hg => rfl); (case hr => first | (go_simp; done) | (go_simp; rfl))
                          intro g_ hg w_ hbox hb
                          refine hK.out _ _ (SX.of HC_.out (below_step hF_.B hb)) (fun _ => ?_)
                          clear hK K
                          refine norm_ (a' := ?_) ?_ ?_
                          rotate_left
                          ·show Act.put _ (some 9) _ = _
                           simp only [Act.put, List.setIfInBounds_toArray, List.set_cons_zero, List.set_cons_succ, i64_w, i32_w]
                           rfl
                          exact norm_ (by first | (simp only [putAll, Act.put, List.setIfInBounds_toArray, List.set_cons_zero, List.set_cons_succ]; done) | (simp only [putAll, Act.put, List.setIfInBounds_toArray, List.set_cons_zero, List.set_cons_succ]; rfl)) (hJ2_12 (g_, s_.2) _ ⟨SX.of HC_.out (below_step hF_.B hb), hF_.new1 hg hbox hb⟩)
                         ·skip
                          refine box_step ?hg (N := 11) ?hd (cs := #[.int .i64 0, .int .i64 0]) (t := 28) ?hr ?_; (case hd => rfl); (case hg => rfl); (case hr => first | (go_simp; done) | (go_simp; rfl))
                          intro g_ hg w_ hbox hb
                          refine hK.out _ _ (SX.of HC_.out (below_step hF_.B hb)) (fun _ => ?_)
                          clear hK K
                          refine norm_ (a' := ?_) ?_ ?_
                          rotate_left
                          ·show Act.put _ (some 11) _ = _
                           simp only [Act.put, List.setIfInBounds_toArray, List.set_cons_zero, List.set_cons_succ, i64_w, i32_w]
                           rfl
                          exact norm_ (by first | (simp only [putAll, Act.put, List.setIfInBounds_toArray, List.set_cons_zero, List.set_cons_succ]; done) | (simp only [putAll, Act.put, List.setIfInBounds_toArray, List.set_cons_zero, List.set_cons_succ]; rfl)) (hJ2_23 (s_.1, s_.2.1, g_) _ ⟨SX.of HC_.out (below_step hF_.B hb), hF_.new3 hg hbox hb⟩)
                        rintro s_ w1_ ⟨hS_, hF_⟩
                        refine norm_ (a' := ?_) ?_ ?_
                        rotate_left
                        ·simp only [putAll, Act.put, List.setIfInBounds_toArray, List.set_cons_zero, List.set_cons_succ]
                         rfl
                        refine two_ (i := 25) (j := 26) (Ni := some 10) (Nj := some 11) #[true, true, true, true, true, true, true, true, true, true, true, true, true, true, true, true, true, true, true, true, true, true, true, true, true, true, false, false, false, false] #[true, true, true, true, true, true, true, true, true, true, true, true, true, true, true, true, true, true, true, true, true, true, true, true, true, false, true, false, false, false] rfl rfl rfl rfl (two_of HT_.out (by kernel_rfl)) (by decide) (by decide) (fun K hK => ?_) (fun K hK => ?_)
                        ·skip
                         refine box_step ?hg (N := 10) ?hd (cs := #[.int .i64 0, .int .i64 0]) (t := 28) ?hr ?_; (case hd => rfl); (case hg => rfl); (case hr => first | (go_simp; done) | (go_simp; rfl))
                         intro g_ hg w_ hbox hb
                         refine hK.out _ _ (SX.of HC_.out (below_step hF_.B hb)) (fun _ => ?_)
                         clear hK K
                         refine norm_ (a' := ?_) ?_ ?_
                         rotate_left
                         ·show Act.put _ (some 10) _ = _
                          simp only [Act.put, List.setIfInBounds_toArray, List.set_cons_zero, List.set_cons_succ, i64_w, i32_w]
                          rfl
                         exact norm_ (by first | (simp only [putAll, Act.put, List.setIfInBounds_toArray, List.set_cons_zero, List.set_cons_succ]; done) | (simp only [putAll, Act.put, List.setIfInBounds_toArray, List.set_cons_zero, List.set_cons_succ]; rfl)) (hJ2_12 (s_.1, g_, s_.2.2) _ ⟨SX.of HC_.out (below_step hF_.B hb), hF_.new2 hg hbox hb⟩)
                        ·skip
                         refine box_step ?hg (N := 11) ?hd (cs := #[.int .i64 0, .int .i64 0]) (t := 28) ?hr ?_; (case hd => rfl); (case hg => rfl); (case hr => first | (go_simp; done) | (go_simp; rfl))
                         intro g_ hg w_ hbox hb
                         refine hK.out _ _ (SX.of HC_.out (below_step hF_.B hb)) (fun _ => ?_)
                         clear hK K
                         refine norm_ (a' := ?_) ?_ ?_
                         rotate_left
                         ·show Act.put _ (some 11) _ = _
                          simp only [Act.put, List.setIfInBounds_toArray, List.set_cons_zero, List.set_cons_succ, i64_w, i32_w]
                          rfl
                         exact norm_ (by first | (simp only [putAll, Act.put, List.setIfInBounds_toArray, List.set_cons_zero, List.set_cons_succ]; done) | (simp only [putAll, Act.put, List.setIfInBounds_toArray, List.set_cons_zero, List.set_cons_succ]; rfl)) (hJ2_13 (s_.1, s_.2.1, g_) _ ⟨SX.of HC_.out (below_step hF_.B hb), hF_.new3 hg hbox hb⟩)
                       rintro s_ w1_ ⟨hS_, hF_⟩
                       refine norm_ (a' := ?_) ?_ ?_
                       rotate_left
                       ·simp only [putAll, Act.put, List.setIfInBounds_toArray, List.set_cons_zero, List.set_cons_succ]
                        rfl
                       refine two_ (i := 23) (j := 24) (Ni := some 87) (Nj := some 9) #[true, true, true, true, true, true, true, true, true, true, true, true, true, true, true, true, true, true, true, true, true, true, true, true, false, true, true, false, false, false] #[true, true, true, true, true, true, true, true, true, true, true, true, true, true, true, true, true, true, true, true, true, true, true, false, true, true, true, false, false, false] rfl rfl rfl rfl (two_of HT_.out (by kernel_rfl)) (by decide) (by decide) (fun K hK => ?_) (fun K hK => ?_)
                       ·skip
                        refine goes_ Try.func33 (by kernel_rfl) rfl #[.agg #[.int .i64 ((rd_T28 x5_1 x8_2).f0), .int .i64 ((rd_T28 x5_1 x8_2).f1)], .agg #[.int .i64 ((rd_T28 x5_1 (ji37)).f0), .int .i64 ((rd_T28 x5_1 (ji37)).f1)]] (by rfl) rfl rfl (by (try simp only [List.map_toArray, List.map_cons, List.map_nil]); first | done | (simp only [hji37]; rfl) | rfl | (simp only [List.length_drop, List.length_take]; rfl)) ?_
                        with_reducible refine (QCp.curve_middle.calls ((rd_T28 x5_1 x8_2).f0) ((rd_T28 x5_1 x8_2).f1) ((rd_T28 x5_1 (ji37)).f0) ((rd_T28 x5_1 (ji37)).f1) t132 t133 _ A39.out).mono ?_
                        rintro e w_ ⟨rfl, hb⟩
                        refine ⟨_, rfl, ?_⟩
                        refine hK.out _ _ (SX.of HC_.out (below_step hF_.B hb)) (fun _ => ?_)
                        clear hK K
                        refine norm_ (a' := ?_) ?_ ?_
                        rotate_left
                        ·show Act.put _ (some 87) _ = _
                         simp only [Act.put, List.setIfInBounds_toArray, List.set_cons_zero, List.set_cons_succ, i64_w, i32_w]
                         rfl
                        exact norm_ (by first | (simp only [putAll, Act.put, List.setIfInBounds_toArray, List.set_cons_zero, List.set_cons_succ]; done) | (simp only [putAll, Act.put, List.setIfInBounds_toArray, List.set_cons_zero, List.set_cons_succ]; rfl)) (hJ2_23 s_ _ ⟨SX.of HC_.out (below_step hF_.B hb), hF_.call hb⟩)
                       ·skip
                        refine box_step ?hg (N := 9) ?hd (cs := #[.int .i64 0, .int .i64 0]) (t := 28) ?hr ?_; (case hd => rfl); (case hg => rfl); (case hr => first | (go_simp; done) | (go_simp; rfl))
                        intro g_ hg w_ hbox hb
                        refine hK.out _ _ (SX.of HC_.out (below_step hF_.B hb)) (fun _ => ?_)
                        clear hK K
                        refine norm_ (a' := ?_) ?_ ?_
                        rotate_left
                        ·show Act.put _ (some 9) _ = _
                         simp only [Act.put, List.setIfInBounds_toArray, List.set_cons_zero, List.set_cons_succ, i64_w, i32_w]
                         rfl
                        exact norm_ (by first | (simp only [putAll, Act.put, List.setIfInBounds_toArray, List.set_cons_zero, List.set_cons_succ]; done) | (simp only [putAll, Act.put, List.setIfInBounds_toArray, List.set_cons_zero, List.set_cons_succ]; rfl)) (hJ1_123 (g_, s_.2) _ ⟨SX.of HC_.out (below_step hF_.B hb), hF_.new1 hg hbox hb⟩)
                      rintro s_ w1_ ⟨hS_, hF_⟩
                      refine norm_ (a' := ?_) ?_ ?_
                      rotate_left
                      ·simp only [putAll, Act.put, List.setIfInBounds_toArray, List.set_cons_zero, List.set_cons_succ]
                       rfl
                      refine two_ (i := 23) (j := 25) (Ni := some 87) (Nj := some 10) #[true, true, true, true, true, true, true, true, true, true, true, true, true, true, true, true, true, true, true, true, true, true, true, true, true, false, true, false, false, false] #[true, true, true, true, true, true, true, true, true, true, true, true, true, true, true, true, true, true, true, true, true, true, true, false, true, true, true, false, false, false] rfl rfl rfl rfl (two_of HT_.out (by kernel_rfl)) (by decide) (by decide) (fun K hK => ?_) (fun K hK => ?_)
                      ·skip
                       refine goes_ Try.func33 (by kernel_rfl) rfl #[.agg #[.int .i64 ((rd_T28 x5_1 x8_2).f0), .int .i64 ((rd_T28 x5_1 x8_2).f1)], .agg #[.int .i64 ((rd_T28 x5_1 (ji37)).f0), .int .i64 ((rd_T28 x5_1 (ji37)).f1)]] (by rfl) rfl rfl (by (try simp only [List.map_toArray, List.map_cons, List.map_nil]); first | done | (simp only [hji37]; rfl) | rfl | (simp only [List.length_drop, List.length_take]; rfl)) ?_
                       with_reducible refine (QCp.curve_middle.calls ((rd_T28 x5_1 x8_2).f0) ((rd_T28 x5_1 x8_2).f1) ((rd_T28 x5_1 (ji37)).f0) ((rd_T28 x5_1 (ji37)).f1) t132 t133 _ A39.out).mono ?_
                       rintro e w_ ⟨rfl, hb⟩
                       refine ⟨_, rfl, ?_⟩
                       refine hK.out _ _ (SX.of HC_.out (below_step hF_.B hb)) (fun _ => ?_)
                       clear hK K
                       refine norm_ (a' := ?_) ?_ ?_
                       rotate_left
                       ·show Act.put _ (some 87) _ = _
                        simp only [Act.put, List.setIfInBounds_toArray, List.set_cons_zero, List.set_cons_succ, i64_w, i32_w]
                        rfl
                       exact norm_ (by first | (simp only [putAll, Act.put, List.setIfInBounds_toArray, List.set_cons_zero, List.set_cons_succ]; done) | (simp only [putAll, Act.put, List.setIfInBounds_toArray, List.set_cons_zero, List.set_cons_succ]; rfl)) (hJ2_13 s_ _ ⟨SX.of HC_.out (below_step hF_.B hb), hF_.call hb⟩)
                      ·skip
                       refine box_step ?hg (N := 10) ?hd (cs := #[.int .i64 0, .int .i64 0]) (t := 28) ?hr ?_; (case hd => rfl); (case hg => rfl); (case hr => first | (go_simp; done) | (go_simp; rfl))
                       intro g_ hg w_ hbox hb
                       refine hK.out _ _ (SX.of HC_.out (below_step hF_.B hb)) (fun _ => ?_)
                       clear hK K
                       refine norm_ (a' := ?_) ?_ ?_
                       rotate_left
                       ·show Act.put _ (some 10) _ = _
                        simp only [Act.put, List.setIfInBounds_toArray, List.set_cons_zero, List.set_cons_succ, i64_w, i32_w]
                        rfl
                       exact norm_ (by first | (simp only [putAll, Act.put, List.setIfInBounds_toArray, List.set_cons_zero, List.set_cons_succ]; done) | (simp only [putAll, Act.put, List.setIfInBounds_toArray, List.set_cons_zero, List.set_cons_succ]; rfl)) (hJ1_123 (s_.1, g_, s_.2.2) _ ⟨SX.of HC_.out (below_step hF_.B hb), hF_.new2 hg hbox hb⟩)
                     rintro s_ w1_ ⟨hS_, hF_⟩
                     refine norm_ (a' := ?_) ?_ ?_
                     rotate_left
                     ·simp only [putAll, Act.put, List.setIfInBounds_toArray, List.set_cons_zero, List.set_cons_succ]
                      rfl
                     refine two_ (i := 23) (j := 26) (Ni := some 87) (Nj := some 11) #[true, true, true, true, true, true, true, true, true, true, true, true, true, true, true, true, true, true, true, true, true, true, true, true, true, true, false, false, false, false] #[true, true, true, true, true, true, true, true, true, true, true, true, true, true, true, true, true, true, true, true, true, true, true, false, true, true, true, false, false, false] rfl rfl rfl rfl (two_of HT_.out (by kernel_rfl)) (by decide) (by decide) (fun K hK => ?_) (fun K hK => ?_)
                     ·skip
                      refine goes_ Try.func33 (by kernel_rfl) rfl #[.agg #[.int .i64 ((rd_T28 x5_1 x8_2).f0), .int .i64 ((rd_T28 x5_1 x8_2).f1)], .agg #[.int .i64 ((rd_T28 x5_1 (ji37)).f0), .int .i64 ((rd_T28 x5_1 (ji37)).f1)]] (by rfl) rfl rfl (by (try simp only [List.map_toArray, List.map_cons, List.map_nil]); first | done | (simp only [hji37]; rfl) | rfl | (simp only [List.length_drop, List.length_take]; rfl)) ?_
                      with_reducible refine (QCp.curve_middle.calls ((rd_T28 x5_1 x8_2).f0) ((rd_T28 x5_1 x8_2).f1) ((rd_T28 x5_1 (ji37)).f0) ((rd_T28 x5_1 (ji37)).f1) t132 t133 _ A39.out).mono ?_
                      rintro e w_ ⟨rfl, hb⟩
                      refine ⟨_, rfl, ?_⟩
                      refine hK.out _ _ (SX.of HC_.out (below_step hF_.B hb)) (fun _ => ?_)
                      clear hK K
                      refine norm_ (a' := ?_) ?_ ?_
                      rotate_left
                      ·show Act.put _ (some 87) _ = _
                       simp only [Act.put, List.setIfInBounds_toArray, List.set_cons_zero, List.set_cons_succ, i64_w, i32_w]
                       rfl
                      exact norm_ (by first | (simp only [putAll, Act.put, List.setIfInBounds_toArray, List.set_cons_zero, List.set_cons_succ]; done) | (simp only [putAll, Act.put, List.setIfInBounds_toArray, List.set_cons_zero, List.set_cons_succ]; rfl)) (hJ2_12 s_ _ ⟨SX.of HC_.out (below_step hF_.B hb), hF_.call hb⟩)
                     ·skip
                      refine box_step ?hg (N := 11) ?hd (cs := #[.int .i64 0, .int .i64 0]) (t := 28) ?hr ?_; (case hd => rfl); (case hg => rfl); (case hr => first | (go_simp; done) | (go_simp; rfl))
                      intro g_ hg w_ hbox hb
                      refine hK.out _ _ (SX.of HC_.out (below_step hF_.B hb)) (fun _ => ?_)
                      clear hK K
                      refine norm_ (a' := ?_) ?_ ?_
                      rotate_left
                      ·show Act.put _ (some 11) _ = _
                       simp only [Act.put, List.setIfInBounds_toArray, List.set_cons_zero, List.set_cons_succ, i64_w, i32_w]
                       rfl
                      exact norm_ (by first | (simp only [putAll, Act.put, List.setIfInBounds_toArray, List.set_cons_zero, List.set_cons_succ]; done) | (simp only [putAll, Act.put, List.setIfInBounds_toArray, List.set_cons_zero, List.set_cons_succ]; rfl)) (hJ1_123 (s_.1, s_.2.1, g_) _ ⟨SX.of HC_.out (below_step hF_.B hb), hF_.new3 hg hbox hb⟩)
                    rintro s_ w1_ ⟨hS_, hF_⟩
                    refine norm_ (a' := ?_) ?_ ?_
                    rotate_left
                    ·simp only [putAll, Act.put, List.setIfInBounds_toArray, List.set_cons_zero, List.set_cons_succ]
                     rfl
                    refine one_ (i := 9) (N := some 73) #[true, true, true, true, true, true, true, true, true, true, true, true, true, true, true, true, true, true, true, true, true, true, true, false, true, true, true, false, false, false] rfl rfl (one_of HT_.out (by kernel_rfl)) (by decide) (fun K hK => ?_)
                    refine goes_ Try.func33 (by kernel_rfl) rfl #[.agg #[.int .i64 ((rd_T28 x5_1 (ji31)).f0), .int .i64 ((rd_T28 x5_1 (ji31)).f1)], .agg #[.int .i64 ((rd_T28 x5_1 x8_2).f0), .int .i64 ((rd_T28 x5_1 x8_2).f1)]] (by rfl) rfl rfl (by (try simp only [List.map_toArray, List.map_cons, List.map_nil]); first | done | (simp only [hji31]; rfl) | rfl | (simp only [List.length_drop, List.length_take]; rfl)) ?_
                    with_reducible refine (QCp.curve_middle.calls ((rd_T28 x5_1 (ji31)).f0) ((rd_T28 x5_1 (ji31)).f1) ((rd_T28 x5_1 x8_2).f0) ((rd_T28 x5_1 x8_2).f1) t127 t128 _ A36.out).mono ?_
                    rintro e w_ ⟨rfl, hb⟩
                    refine ⟨_, rfl, ?_⟩
                    refine hK.out _ _ (SX.of HC_.out (below_step hF_.B hb)) (fun _ => ?_)
                    clear hK K
                    refine norm_ (a' := ?_) ?_ ?_
                    rotate_left
                    ·show Act.put _ (some 73) _ = _
                     simp only [Act.put, List.setIfInBounds_toArray, List.set_cons_zero, List.set_cons_succ, i64_w, i32_w]
                     rfl
                    exact norm_ (by first | (simp only [putAll, Act.put, List.setIfInBounds_toArray, List.set_cons_zero, List.set_cons_succ]; done) | (simp only [putAll, Act.put, List.setIfInBounds_toArray, List.set_cons_zero, List.set_cons_succ]; rfl)) (hJ1_123 s_ _ ⟨SX.of HC_.out (below_step hF_.B hb), hF_.call hb⟩)
                   rintro s_ w1_ ⟨hS_, hF_⟩
                   refine norm_ (a' := ?_) ?_ ?_
                   rotate_left
                   ·simp only [putAll, Act.put, List.setIfInBounds_toArray, List.set_cons_zero, List.set_cons_succ]
                    rfl
                   refine one_ (i := 24) (N := some 9) #[true, true, true, true, true, true, true, true, true, true, true, true, true, true, true, true, true, true, true, true, true, true, true, true, true, true, true, false, false, false] rfl rfl (one_of HT_.out (by kernel_rfl)) (by decide) (fun K hK => ?_)
                   refine box_step ?hg (N := 9) ?hd (cs := #[.int .i64 0, .int .i64 0]) (t := 28) ?hr ?_; (case hd => rfl); (case hg => rfl); (case hr => first | (go_simp; done) | (go_simp; rfl))
                   intro g_ hg w_ hbox hb
                   refine hK.out _ _ (SX.of HC_.out (below_step hF_.B hb)) (fun _ => ?_)
                   clear hK K
                   refine norm_ (a' := ?_) ?_ ?_
                   rotate_left
                   ·show Act.put _ (some 9) _ = _
                    simp only [Act.put, List.setIfInBounds_toArray, List.set_cons_zero, List.set_cons_succ, i64_w, i32_w]
                    rfl
                   exact norm_ (by first | (simp only [putAll, Act.put, List.setIfInBounds_toArray, List.set_cons_zero, List.set_cons_succ]; done) | (simp only [putAll, Act.put, List.setIfInBounds_toArray, List.set_cons_zero, List.set_cons_succ]; rfl)) (hJ2_123 (g_, s_.2) _ ⟨SX.of HC_.out (below_step hF_.B hb), hF_.new1 hg hbox hb⟩)
                  rintro s_ w1_ ⟨hS_, hF_⟩
                  refine norm_ (a' := ?_) ?_ ?_
                  rotate_left
                  ·simp only [putAll, Act.put, List.setIfInBounds_toArray, List.set_cons_zero, List.set_cons_succ]
                   rfl
                  refine one_ (i := 25) (N := some 10) #[true, true, true, true, true, true, true, true, true, true, true, true, true, true, true, true, true, true, true, true, true, true, true, true, true, true, true, false, false, false] rfl rfl (one_of HT_.out (by kernel_rfl)) (by decide) (fun K hK => ?_)
                  refine box_step ?hg (N := 10) ?hd (cs := #[.int .i64 0, .int .i64 0]) (t := 28) ?hr ?_; (case hd => rfl); (case hg => rfl); (case hr => first | (go_simp; done) | (go_simp; rfl))
                  intro g_ hg w_ hbox hb
                  refine hK.out _ _ (SX.of HC_.out (below_step hF_.B hb)) (fun _ => ?_)
                  clear hK K
                  refine norm_ (a' := ?_) ?_ ?_
                  rotate_left
                  ·show Act.put _ (some 10) _ = _
                   simp only [Act.put, List.setIfInBounds_toArray, List.set_cons_zero, List.set_cons_succ, i64_w, i32_w]
                   rfl
                  exact norm_ (by first | (simp only [putAll, Act.put, List.setIfInBounds_toArray, List.set_cons_zero, List.set_cons_succ]; done) | (simp only [putAll, Act.put, List.setIfInBounds_toArray, List.set_cons_zero, List.set_cons_succ]; rfl)) (hJ2_123 (s_.1, g_, s_.2.2) _ ⟨SX.of HC_.out (below_step hF_.B hb), hF_.new2 hg hbox hb⟩)
                 rintro s_ w1_ ⟨hS_, hF_⟩
                 refine norm_ (a' := ?_) ?_ ?_
                 rotate_left
                 ·simp only [putAll, Act.put, List.setIfInBounds_toArray, List.set_cons_zero, List.set_cons_succ]
                  rfl
                 refine one_ (i := 26) (N := some 11) #[true, true, true, true, true, true, true, true, true, true, true, true, true, true, true, true, true, true, true, true, true, true, true, true, true, true, true, false, false, false] rfl rfl (one_of HT_.out (by kernel_rfl)) (by decide) (fun K hK => ?_)
                 refine box_step ?hg (N := 11) ?hd (cs := #[.int .i64 0, .int .i64 0]) (t := 28) ?hr ?_; (case hd => rfl); (case hg => rfl); (case hr => first | (go_simp; done) | (go_simp; rfl))
                 intro g_ hg w_ hbox hb
                 refine hK.out _ _ (SX.of HC_.out (below_step hF_.B hb)) (fun _ => ?_)
                 clear hK K
                 refine norm_ (a' := ?_) ?_ ?_
                 rotate_left
                 ·show Act.put _ (some 11) _ = _
                  simp only [Act.put, List.setIfInBounds_toArray, List.set_cons_zero, List.set_cons_succ, i64_w, i32_w]
                  rfl
                 exact norm_ (by first | (simp only [putAll, Act.put, List.setIfInBounds_toArray, List.set_cons_zero, List.set_cons_succ]; done) | (simp only [putAll, Act.put, List.setIfInBounds_toArray, List.set_cons_zero, List.set_cons_succ]; rfl)) (hJ2_123 (s_.1, s_.2.1, g_) _ ⟨SX.of HC_.out (below_step hF_.B hb), hF_.new3 hg hbox hb⟩)
                rintro s_ w1_ ⟨hS_, hF_⟩
                refine norm_ (a' := ?_) ?_ ?_
                rotate_left
                ·simp only [putAll, Act.put, List.setIfInBounds_toArray, List.set_cons_zero, List.set_cons_succ]
                 rfl
                refine one_ (i := 23) (N := some 87) #[true, true, true, true, true, true, true, true, true, true, true, true, true, true, true, true, true, true, true, true, true, true, true, true, true, true, true, false, false, false] rfl rfl (one_of HT_.out (by kernel_rfl)) (by decide) (fun K hK => ?_)
                refine goes_ Try.func33 (by kernel_rfl) rfl #[.agg #[.int .i64 ((rd_T28 x5_1 x8_2).f0), .int .i64 ((rd_T28 x5_1 x8_2).f1)], .agg #[.int .i64 ((rd_T28 x5_1 (ji37)).f0), .int .i64 ((rd_T28 x5_1 (ji37)).f1)]] (by rfl) rfl rfl (by (try simp only [List.map_toArray, List.map_cons, List.map_nil]); first | done | (simp only [hji37]; rfl) | rfl | (simp only [List.length_drop, List.length_take]; rfl)) ?_
                with_reducible refine (QCp.curve_middle.calls ((rd_T28 x5_1 x8_2).f0) ((rd_T28 x5_1 x8_2).f1) ((rd_T28 x5_1 (ji37)).f0) ((rd_T28 x5_1 (ji37)).f1) t132 t133 _ A39.out).mono ?_
                rintro e w_ ⟨rfl, hb⟩
                refine ⟨_, rfl, ?_⟩
                refine hK.out _ _ (SX.of HC_.out (below_step hF_.B hb)) (fun _ => ?_)
                clear hK K
                refine norm_ (a' := ?_) ?_ ?_
                rotate_left
                ·show Act.put _ (some 87) _ = _
                 simp only [Act.put, List.setIfInBounds_toArray, List.set_cons_zero, List.set_cons_succ, i64_w, i32_w]
                 rfl
                exact norm_ (by first | (simp only [putAll, Act.put, List.setIfInBounds_toArray, List.set_cons_zero, List.set_cons_succ]; done) | (simp only [putAll, Act.put, List.setIfInBounds_toArray, List.set_cons_zero, List.set_cons_succ]; rfl)) (hJ2_123 s_ _ ⟨SX.of HC_.out (below_step hF_.B hb), hF_.call hb⟩)
               rintro ⟨gb134, gb135, gb136⟩ w46 ⟨hS_, hF_⟩
               refine norm_ (a' := ?_) ?_ ?_
               rotate_left
               ·simp only [putAll, Act.put, List.setIfInBounds_toArray, List.set_cons_zero, List.set_cons_succ]
                rfl
               have B_ := hF_.B
               obtain ⟨k1_, g1_⟩ := hF_.k1 rfl
               obtain ⟨k2_, g2_⟩ := hF_.k2 rfl
               obtain ⟨k3_, g3_⟩ := hF_.k3 rfl
               have n12_ := hF_.n12 rfl rfl
               have n13_ := hF_.n13 rfl rfl
               have n23_ := hF_.n23 rfl rfl
               dsimp only at k1_ k2_ k3_ g1_ g2_ g3_ n12_ n13_ n23_
               clear hS_ hF_
               refine one_ (i := 27) (N := none) #[true, true, true, true, true, true, true, true, true, true, true, true, true, true, true, true, true, true, true, true, true, true, true, true, true, true, true, true, false, false] rfl rfl (one_of HT_.out (by kernel_rfl)) (by decide) (fun K hK => ?_)
               have hs_0 : w46.cell? ⟨gb134, 0, none⟩ = some (.int .i64 0) := (blk_cell k1_ 0).trans rfl
               have hs_1 : w46.cell? ⟨gb134, 1, none⟩ = some (.int .i64 0) := (blk_cell k1_ 1).trans rfl
               have hf_0 := blk_frozen k1_ 0
               have hf_1 := blk_frozen k1_ 1
               refine skip_ (w1 := ?_) (by rfl) rfl ?_ ?_
               rotate_left
               ·go_simp
                rfl
               refine hK.out _ _ (SX.of HC_.out (below_set (below_set B_ g1_) g1_)) (fun _ => ?_)
               clear hK K hs_0 hs_1 hf_0 hf_1
               generalize hw_ : (w46.setCell ⟨gb134, 0, none⟩ (.int .i64 t127)).setCell ⟨gb134, 1, none⟩ (.int .i64 t128) = w47
               replace B_ : Below w40.heap.size w40 w47 := by rw [← hw_]; exact below_set (below_set B_ g1_) g1_
               replace k1_ : w47.heap[gb134]? = some (.cells #[.int .i64 t127, .int .i64 t128] 28 (0, 0)) := by rw [← hw_]; exact blk_put (cs := #[.int .i64 t127, .int .i64 0]) (blk_put (cs := #[.int .i64 0, .int .i64 0]) k1_ 0 _ rfl) 1 _ rfl
               replace k2_ := blk_far (p := ⟨gb134, 1, none⟩) (blk_far (p := ⟨gb134, 0, none⟩) k2_ n12_.symm (.int .i64 t127)) n12_.symm (.int .i64 t128)
               rw [hw_] at k2_
               replace k3_ := blk_far (p := ⟨gb134, 1, none⟩) (blk_far (p := ⟨gb134, 0, none⟩) k3_ n13_.symm (.int .i64 t127)) n13_.symm (.int .i64 t128)
               rw [hw_] at k3_
               clear hw_
               refine one_ (i := 28) (N := none) #[true, true, true, true, true, true, true, true, true, true, true, true, true, true, true, true, true, true, true, true, true, true, true, true, true, true, true, true, true, false] rfl rfl (one_of HT_.out (by kernel_rfl)) (by decide) (fun K hK => ?_)
               have hs_0 : w47.cell? ⟨gb135, 0, none⟩ = some (.int .i64 0) := (blk_cell k2_ 0).trans rfl
               have hs_1 : w47.cell? ⟨gb135, 1, none⟩ = some (.int .i64 0) := (blk_cell k2_ 1).trans rfl
               have hf_0 := blk_frozen k2_ 0
               have hf_1 := blk_frozen k2_ 1
               refine skip_ (w1 := ?_) (by rfl) rfl ?_ ?_
               rotate_left
               ·go_simp
                rfl
               refine hK.out _ _ (SX.of HC_.out (below_set (below_set B_ g2_) g2_)) (fun _ => ?_)
               clear hK K hs_0 hs_1 hf_0 hf_1
               generalize hw_ : (w47.setCell ⟨gb135, 0, none⟩ (.int .i64 ((rd_T28 x5_1 x8_2).f0))).setCell ⟨gb135, 1, none⟩ (.int .i64 ((rd_T28 x5_1 x8_2).f1)) = w48
               replace B_ : Below w40.heap.size w40 w48 := by rw [← hw_]; exact below_set (below_set B_ g2_) g2_
               replace k2_ : w48.heap[gb135]? = some (.cells #[.int .i64 ((rd_T28 x5_1 x8_2).f0), .int .i64 ((rd_T28 x5_1 x8_2).f1)] 28 (0, 0)) := by rw [← hw_]; exact blk_put (cs := #[.int .i64 ((rd_T28 x5_1 x8_2).f0), .int .i64 0]) (blk_put (cs := #[.int .i64 0, .int .i64 0]) k2_ 0 _ rfl) 1 _ rfl
               replace k1_ := blk_far (p := ⟨gb135, 1, none⟩) (blk_far (p := ⟨gb135, 0, none⟩) k1_ n12_ (.int .i64 ((rd_T28 x5_1 x8_2).f0))) n12_ (.int .i64 ((rd_T28 x5_1 x8_2).f1))
               rw [hw_] at k1_
               replace k3_ := blk_far (p := ⟨gb135, 1, none⟩) (blk_far (p := ⟨gb135, 0, none⟩) k3_ n23_.symm (.int .i64 ((rd_T28 x5_1 x8_2).f0))) n23_.symm (.int .i64 ((rd_T28 x5_1 x8_2).f1))
               rw [hw_] at k3_
               clear hw_
               refine one_ (i := 29) (N := none) #[true, true, true, true, true, true, true, true, true, true, true, true, true, true, true, true, true, true, true, true, true, true, true, true, true, true, true, true, true, true] rfl rfl (one_of HT_.out (by kernel_rfl)) (by decide) (fun K hK => ?_)
               have hs_0 : w48.cell? ⟨gb136, 0, none⟩ = some (.int .i64 0) := (blk_cell k3_ 0).trans rfl
               have hs_1 : w48.cell? ⟨gb136, 1, none⟩ = some (.int .i64 0) := (blk_cell k3_ 1).trans rfl
               have hf_0 := blk_frozen k3_ 0
               have hf_1 := blk_frozen k3_ 1
               refine skip_ (w1 := ?_) (by rfl) rfl ?_ ?_
               rotate_left
               ·go_simp
                rfl
               refine hK.out _ _ (SX.of HC_.out (below_set (below_set B_ g3_) g3_)) (fun _ => ?_)
               clear hK K hs_0 hs_1 hf_0 hf_1
               generalize hw_ : (w48.setCell ⟨gb136, 0, none⟩ (.int .i64 t132)).setCell ⟨gb136, 1, none⟩ (.int .i64 t133) = w49
               replace B_ : Below w40.heap.size w40 w49 := by rw [← hw_]; exact below_set (below_set B_ g3_) g3_
               replace k3_ : w49.heap[gb136]? = some (.cells #[.int .i64 t132, .int .i64 t133] 28 (0, 0)) := by rw [← hw_]; exact blk_put (cs := #[.int .i64 t132, .int .i64 0]) (blk_put (cs := #[.int .i64 0, .int .i64 0]) k3_ 0 _ rfl) 1 _ rfl
               replace k1_ := blk_far (p := ⟨gb136, 1, none⟩) (blk_far (p := ⟨gb136, 0, none⟩) k1_ n13_ (.int .i64 t132)) n13_ (.int .i64 t133)
               rw [hw_] at k1_
               replace k2_ := blk_far (p := ⟨gb136, 1, none⟩) (blk_far (p := ⟨gb136, 0, none⟩) k2_ n23_ (.int .i64 t132)) n23_ (.int .i64 t133)
               rw [hw_] at k2_
               clear hw_
               refine done_ (done_of HT_.out (by kernel_rfl)) ?_
               have HS := Aside0.mk (show SI w w49 gb101 gb134 gb135 gb136 a1 t127 t128 ((rd_T28 x5_1 x8_2).f0) ((rd_T28 x5_1 x8_2).f1) t132 t133 (.slice (some ad113) x5_1.length co25) u7 x5_1 x7_2 from ⟨Kd.R_mono (Kd.R_below (Kd.R_bound HO_5.out) B_) (fun k hk => ⟨hk.1, by have := hk.2.2.1; omega, by have := hk.2.2.1; omega, by have := hk.2.2.1; omega⟩), Kd.R_mono (Kd.R_below (Kd.R_bound HO_7.out) B_) (fun k hk => ⟨hk.1, by have := hk.2.2.1; omega, by have := hk.2.2.1; omega, by have := hk.2.2.1; omega⟩), blk_below BK101.out B_, k1_, k2_, k3_, below_step HB.out B_⟩)
               clear HO_5 HO_7 BK101 HB B_ k1_ k2_ k3_ g1_ g2_ g3_ n12_ n13_ n23_ HC_
               try go_wp2_with (first | ((with_reducible refine gate_dst (N := 12) rfl ?_); refine box_event ?hg (N := 12) ?hd (cs := #[.int .i64 0]) (t := 3) ?hr ?_; (case hd => rfl); (case hg => rfl); (case hr => first | (go_simp; done) | (go_simp; rfl)); intro gi_ hg w53 hbox hb; have n0_ := Aside0.mk (SI.below HS.out hb); have BI := Aside0.mk hbox; have NI := Aside0.mk (show gb101 ≠ gi_ from hg ▸ Nat.ne_of_lt (blk_lt HS.out.bf)); have GI := Aside0.mk (show w.heap.size ≤ gi_ from hg ▸ below_size HS.out.B); clear HS; have HS := n0_; clear n0_ hb hbox hg; have hcz58_0 : w53.cell? ⟨gi_, 0, none⟩ = some (.int .i64 0) := (blk_cell BI.out 0).trans rfl; have hfz58_0 := blk_frozen BI.out 0))
               go_loopg [7, 12] k2 (fun kq v7 v12 w' => ∃ (x7_3 : List (S28)) (gi_ : Nat) (x138000_3 : Int), v12 = .pointer (some ⟨gi_, 0, none⟩) ∧ Aside0 (curve_spline.l2 kq x5_1 x7_3 x8_2 a1 t127 t128 ((rd_T28 x5_1 x8_2).f0) ((rd_T28 x5_1 x8_2).f1) t132 t133 x138000_3 = some r) ∧ Aside0 (kq ≤ k2) ∧ Aside0 (SI w w' gb101 gb134 gb135 gb136 a1 t127 t128 ((rd_T28 x5_1 x8_2).f0) ((rd_T28 x5_1 x8_2).f1) t132 t133 (.slice (some ad113) x5_1.length co25) v7 x5_1 x7_3) ∧ Aside0 (w'.heap[gi_]? = some (.cells #[.int .i64 x138000_3] 3 (0, 0))) ∧ Aside0 (gb101 ≠ gi_) ∧ Aside0 (w.heap.size ≤ gi_))
               case atStart => exact ⟨(x7_2), gi_, (1), rfl, H', ⟨Nat.le_refl _⟩, ⟨SI.setI HS.out BI.out NI.out GI.out _⟩, ⟨blk_put BI.out 0 _ rfl⟩, NI, GI⟩
               case round =>
                clear H'
                try clear p2
                try clear c3
                try clear c5
                try clear c33
                try clear c54
                try clear c55
                try clear c56
                try clear c57
                try clear hcz58_0
                try clear hfz58_0
                obtain ⟨x7_3, gi_, x138000_3, rfl, HA, HK3, HS, BI, NI, GI⟩ := hrel
                cases gk with
                | zero => exact absurd HA.out (by simp [curve_spline.l2])
                | succ k3 =>
                 have H := HA.out
                 clear HA
                 simp only [curve_spline.l2] at H
                 by_cases c59 : x138000_3 ≤ a1
                 ·rw [if_pos c59] at H
                  have c59b0 : decide (x138000_3 ≤ a1) = true := decide_eq_true c59
                  clear c59
                  replace H := Option.bind_eq_some_iff.mp H
                  obtain ⟨t138, A600, H⟩ := H
                  replace H : ((curve_spline_1.f 1 a1 x138000_3 t127 t128 ((rd_T28 x5_1 x8_2).f0) ((rd_T28 x5_1 x8_2).f1) t132 t133).bind fun t139 => (if x7_3.length < 8796093022208 then (curve_spline.l2 k3 x5_1 (x7_3 ++ [(⟨t138, t139⟩ : S28)]) x8_2 a1 t127 t128 ((rd_T28 x5_1 x8_2).f0) ((rd_T28 x5_1 x8_2).f1) t132 t133 (wrap64 (x138000_3 + 1))) else (none))) = some r := H
                  have A60 := Aside0.mk A600
                  clear A600
                  replace H := Option.bind_eq_some_iff.mp H
                  obtain ⟨t139, A610, H⟩ := H
                  replace H : (if x7_3.length < 8796093022208 then (curve_spline.l2 k3 x5_1 (x7_3 ++ [(⟨t138, t139⟩ : S28)]) x8_2 a1 t127 t128 ((rd_T28 x5_1 x8_2).f0) ((rd_T28 x5_1 x8_2).f1) t132 t133 (wrap64 (x138000_3 + 1))) else (none)) = some r := H
                  have A61 := Aside0.mk A610
                  clear A610
                  by_cases c62 : x7_3.length < 8796093022208
                  ·rw [if_pos c62] at H
                   have LMc62 := Aside0.mk c62
                   clear c62
                   obtain ⟨y140, hy140⟩ : ∃ y_ : List (S28), y_ = (x7_3 ++ [(⟨t138, t139⟩ : S28)]) := ⟨_, rfl⟩
                   replace H : (curve_spline.l2 k3 x5_1 y140 x8_2 a1 t127 t128 ((rd_T28 x5_1 x8_2).f0) ((rd_T28 x5_1 x8_2).f1) t132 t133 (wrap64 (x138000_3 + 1))) = some r := by first | (rw [hy140]; with_reducible exact H) | (have H2_ := (Option.bind_some _ _).symm.trans H; rw [hy140]; with_reducible exact H2_) | (have H2_ := (Option.bind_some _ _).symm.trans H; with_reducible exact H2_) | with_reducible exact H | (rw [hy140]; exact H) | exact H
                   have Ny140 := Aside0.mk hy140
                   clear hy140
                   have H' := Aside0.mk H
                   clear H
                   have hcz67_0 : wr.cell? ⟨gi_, 0, none⟩ = some (.int .i64 x138000_3) := (blk_cell BI.out 0).trans rfl
                   have hfz67_0 := blk_frozen BI.out 0
                   have hcz71_0 : wr.cell? ⟨gb101, 0, none⟩ = some (.int .i64 a1) := (blk_cell HS.out.bf 0).trans rfl
                   have hfz71_0 := blk_frozen HS.out.bf 0
                   go_wp2_with (first | ((with_reducible refine gate_dst (N := 96) rfl ?_); refine Go.Proofs.Ytfpcejkjabmeeaa.FnVal.goesV_ (some 96) rfl rfl (o := .tmp 95) rfl (f := 34) (fst := #[]) (caps := #[.pointer (some ⟨gb101, 0, none⟩), .pointer (some ⟨gi_, 0, none⟩), .pointer (some ⟨gb134, 0, none⟩), .pointer (some ⟨gb135, 0, none⟩), .pointer (some ⟨gb136, 0, none⟩)]) rfl Try.func34 (by kernel_rfl) rfl #[.int .i64 0, .pointer (some ⟨gb101, 0, none⟩), .pointer (some ⟨gi_, 0, none⟩), .pointer (some ⟨gb134, 0, none⟩), .pointer (some ⟨gb135, 0, none⟩), .pointer (some ⟨gb136, 0, none⟩)] (by first | rfl | (go_simp; done) | (go_simp; rfl)) ?_; refine (mix_calls 0 gb101 gi_ gb134 gb135 gb136 a1 x138000_3 t127 t128 ((rd_T28 x5_1 x8_2).f0) ((rd_T28 x5_1 x8_2).f1) t132 t133 t138 _ A60.out HS.out.bf BI.out HS.out.ba HS.out.bb HS.out.bc).mono ?_; rintro e w_ ⟨rfl, hb⟩; refine ⟨_, rfl, ?_⟩; have n0_ := Aside0.mk (SI.below HS.out hb); have n1_ := Aside0.mk (blk_below BI.out hb); clear HS BI; have HS := n0_; have BI := n1_; clear n0_ n1_ hb) | ((with_reducible refine gate_dst (N := 98) rfl ?_); refine Go.Proofs.Ytfpcejkjabmeeaa.FnVal.goesV_ (some 98) rfl rfl (o := .tmp 97) rfl (f := 34) (fst := #[]) (caps := #[.pointer (some ⟨gb101, 0, none⟩), .pointer (some ⟨gi_, 0, none⟩), .pointer (some ⟨gb134, 0, none⟩), .pointer (some ⟨gb135, 0, none⟩), .pointer (some ⟨gb136, 0, none⟩)]) rfl Try.func34 (by kernel_rfl) rfl #[.int .i64 1, .pointer (some ⟨gb101, 0, none⟩), .pointer (some ⟨gi_, 0, none⟩), .pointer (some ⟨gb134, 0, none⟩), .pointer (some ⟨gb135, 0, none⟩), .pointer (some ⟨gb136, 0, none⟩)] (by first | rfl | (go_simp; done) | (go_simp; rfl)) ?_; refine (mix_calls 1 gb101 gi_ gb134 gb135 gb136 a1 x138000_3 t127 t128 ((rd_T28 x5_1 x8_2).f0) ((rd_T28 x5_1 x8_2).f1) t132 t133 t139 _ A61.out HS.out.bf BI.out HS.out.ba HS.out.bb HS.out.bc).mono ?_; rintro e w_ ⟨rfl, hb⟩; refine ⟨_, rfl, ?_⟩; have n0_ := Aside0.mk (SI.below HS.out hb); have n1_ := Aside0.mk (blk_below BI.out hb); clear HS BI; have HS := n0_; have BI := n1_; clear n0_ n1_ hb) | ((with_reducible refine gate_builtin (b := .append) (xs := #[.tmp 94, .tmp 100]) rfl ?_); at_builtin; refine Kd.R_append k28 (w0 := w) w.heap.size rfl (.tmp 94) (.tmp 100) 23 28 (.agg #[(.int .i64 0), (.int .i64 0)]) 16 rfl Try.underlying23 info28 rfl (by decide) (by omega) u7 x7_3 (⟨t138, t139⟩ : S28) [.int .i64 t138, .int .i64 t139] (fun k_ => some k_ ≠ (.slice (some ad113) x5_1.length co25 : Value).ownBlock ∧ k_ ≠ gb134 ∧ k_ ≠ gb135 ∧ k_ ≠ gb136) (fun _ => False) rfl rfl ?aP (fun _ hk => hk.elim) ?aF ?aO ?aB ?aS ?aL ?_; (case aP => exact k28_mkM _ _ _ (⟨t138, t139⟩ : S28)); (case aB => exact HS.out.B); (case aF => exact HS.out.fresh); (case aO => exact HS.out.o7); (case aS => exact below_size HS.out.B); (case aL => have := LMc62.out; omega); intro v149 w85 ho hb hg hat; rw [← Ny140.out] at ho; have n0_ := Aside0.mk (SI.app HS.out hg hat ho hb); have n1_ := Aside0.mk (blk_grown BI.out hg (Kd.R_ne HS.out.o7 BI.out (by decide))); clear HS BI ho hb hg hat; have HS := n0_; have BI := n1_; clear n0_ n1_; have hcz86_0 : w85.cell? ⟨gi_, 0, none⟩ = some (.int .i64 x138000_3) := (blk_cell BI.out 0).trans rfl; have hfz86_0 := blk_frozen BI.out 0) | ((with_reducible refine gate_dst (N := 12) rfl ?_); refine box_event ?hg (N := 12) ?hd (cs := #[.int .i64 0]) (t := 3) ?hr ?_; (case hd => rfl); (case hg => rfl); (case hr => first | (go_simp; done) | (go_simp; rfl)); intro gj_ hg w90 hbox hb; have n0_ := Aside0.mk (SI.below HS.out hb); have BJ := Aside0.mk hbox; have NJ := Aside0.mk (show gb101 ≠ gj_ from hg ▸ Nat.ne_of_lt (blk_lt HS.out.bf)); have GJ := Aside0.mk (show w.heap.size ≤ gj_ from hg ▸ below_size HS.out.B); clear HS; have HS := n0_; clear n0_ hb hbox hg; have hcz88_0 : w90.cell? ⟨gj_, 0, none⟩ = some (.int .i64 0) := (blk_cell BJ.out 0).trans rfl; have hfz88_0 := blk_frozen BJ.out 0))
                   go_roundg k3
                   case measure => have := HK1.out; have := HK2.out; have := HK3.out; omega
                   case rel => exact ⟨(y140), gj_, (wrap64 (x138000_3 + 1)), rfl, H', ⟨by have := HK1.out; have := HK2.out; have := HK3.out; omega⟩, ⟨SI.setI (SI.setI HS.out BJ.out NJ.out GJ.out _) (blk_put BJ.out 0 _ rfl) NJ.out GJ.out _⟩, ⟨blk_put (blk_put BJ.out 0 _ rfl) 0 _ rfl⟩, NJ, GJ⟩
                  ·rw [if_neg c62] at H
                   exact absurd H (by simp)
                 ·rw [if_neg c59] at H
                  have c59b0 : decide (x138000_3 ≤ a1) = false := decide_eq_false c59
                  clear c59
                  have H' := Aside0.mk H
                  clear H
                  have hcz67_0 : wr.cell? ⟨gi_, 0, none⟩ = some (.int .i64 x138000_3) := (blk_cell BI.out 0).trans rfl
                  have hfz67_0 := blk_frozen BI.out 0
                  have hcz71_0 : wr.cell? ⟨gb101, 0, none⟩ = some (.int .i64 a1) := (blk_cell HS.out.bf 0).trans rfl
                  have hfz71_0 := blk_frozen HS.out.bf 0
                  go_wp2
                  go_roundg k3
                  case measure => have := HK1.out; have := HK2.out; have := HK3.out; omega
                  case rel => exact ⟨(x7_3), (wrap64 (x8_2 + 1)), (by first | rfl | (simp; done) | (simp [*]; done)), H', ⟨by have := HK1.out; have := HK2.out; have := HK3.out; omega⟩, ⟨Kd.R_mono HS.out.o5 (fun _ hk => hk.1)⟩, ⟨Kd.R_mono HS.out.o7 (fun _ hk => hk.1)⟩, ⟨HS.out.bf⟩, ⟨HS.out.B⟩⟩
              ·rw [if_neg c38] at H
               exact absurd H (by simp)
             ·rw [if_neg c35] at H
              exact absurd H (by simp)
            ·rw [if_neg c34] at H
             exact absurd H (by simp)
           ·rw [if_neg c33] at H
            exact absurd H (by simp)
          ·rw [if_neg c32] at H
           exact absurd H (by simp)
         ·rw [if_neg c30] at H
          have c30b0 : decide ((wrap64 (x8_2 + 1)) < (x5_1.length : Int)) = false := decide_eq_false c30
          clear c30
          obtain ⟨ji96, hji96⟩ : ∃ j_ : Int, (wrap64 ((x5_1.length : Int) - 1)) = j_ := ⟨_, rfl⟩
          replace H : (if 0 ≤ (ji96) then (if (ji96) < (x5_1.length : Int) then (if x7_2.length < 8796093022208 then (some (x7_2 ++ [(⟨(rd_T28 x5_1 (ji96)).f0, (rd_T28 x5_1 (ji96)).f1⟩ : S28)])) else (none)) else (none)) else (none)) = some r := by first | (rw [hji96] at H; exact H) | (simp only [hji96] at H ⊢; exact H)
          have hji96w : (IntKind.i64.wrap ((x5_1.length : Int) - 1)) = ji96 := (i64_w _).trans hji96
          by_cases c97 : 0 ≤ (ji96)
          ·rw [if_pos c97] at H
           have c97b0 : decide (0 ≤ (ji96)) = true := decide_eq_true c97
           clear c97
           by_cases c98 : (ji96) < (x5_1.length : Int)
           ·rw [if_pos c98] at H
            have c98b0 : decide ((ji96) < (x5_1.length : Int)) = true := decide_eq_true c98
            clear c98
            by_cases c99 : x7_2.length < 8796093022208
            ·rw [if_pos c99] at H
             have LMc99 := Aside0.mk c99
             clear c99
             obtain ⟨y122, hy122⟩ : ∃ y_ : List (S28), y_ = (x7_2 ++ [(⟨(rd_T28 x5_1 (ji96)).f0, (rd_T28 x5_1 (ji96)).f1⟩ : S28)]) := ⟨_, rfl⟩
             replace H : (some y122) = some r := by first | (rw [hy122]; with_reducible exact H) | (have H2_ := (Option.bind_some _ _).symm.trans H; rw [hy122]; with_reducible exact H2_) | (have H2_ := (Option.bind_some _ _).symm.trans H; with_reducible exact H2_) | with_reducible exact H | (rw [hy122]; exact H) | exact H
             have Ny122 := Aside0.mk hy122
             clear hy122
             obtain rfl := Option.some.inj H
             have p121 : 0 ≤ ((ji96) : Int) := of_decide_eq_true (by first | (with_reducible assumption) | assumption)
             have q121 : (ji96) < (x5_1.length : Int) := of_decide_eq_true (by first | (with_reducible assumption) | assumption)
             obtain ⟨ad121, e121, hx121_0, hx121_1⟩ := at_T28 (Kd.R_reads' HO_5.out).2.2 (ji96) p121 q121
             obtain rfl : ad113 = ad121 := (by injection e121)
             replace p121 := eq_true p121
             replace q121 := eq_true q121
             go_wp2_with (first | ((with_reducible refine gate_builtin (b := .append) (xs := #[.tmp 103, .tmp 110]) rfl ?_); at_builtin; refine Kd.R_append k28 (w0 := w) w.heap.size rfl (.tmp 103) (.tmp 110) 23 28 (.agg #[(.int .i64 0), (.int .i64 0)]) 16 rfl Try.underlying23 info28 rfl (by decide) (by omega) u7 x7_2 (⟨(rd_T28 x5_1 (ji96)).f0, (rd_T28 x5_1 (ji96)).f1⟩ : S28) [.int .i64 ((rd_T28 x5_1 (ji96)).f0), .int .i64 ((rd_T28 x5_1 (ji96)).f1)] (fun k_ => some k_ ≠ (.slice (some ad113) x5_1.length co25 : Value).ownBlock) (fun _ => False) rfl rfl ?aP (fun _ hk => hk.elim) ?aF ?aO ?aB ?aS ?aL ?_; (case aP => exact k28_mkM _ _ _ (⟨(rd_T28 x5_1 (ji96)).f0, (rd_T28 x5_1 (ji96)).f1⟩ : S28)); (case aB => exact (by repeat (first | (with_reducible first | exact HB.out | apply below_alloc | apply pw_below_drewN | apply below_drew1 | refine below_set ?_ GE101.out) | exact HB.out))); (case aF => exact (fun k_ hk => Kd.fresh' (Kd.R_lt (by (with_reducible repeat (first | apply Kd.R_alloc | apply Kd.R_drewN | apply Kd.R_drew)); exact HO_5.out)) k_ hk)); (case aO => exact (by (with_reducible repeat (first | apply Kd.R_alloc | apply Kd.R_drewN | apply Kd.R_drew)); exact HO_7.out)); (case aS => exact (below_size (by repeat (first | (with_reducible first | exact HB.out | apply below_alloc | apply pw_below_drewN | apply below_drew1 | refine below_set ?_ GE101.out) | exact HB.out)))); (case aL => have := LMc99.out; omega); intro v123 w100 ho hb hg hat; rw [← Ny122.out] at ho; have n0_ := Aside0.mk (Kd.R_after (ok := (fun _ => True)) (by (with_reducible repeat (first | apply Kd.R_alloc | apply Kd.R_drewN | apply Kd.R_drew)); exact Kd.R_mono HO_5.out (fun _ hk => ⟨trivial, hk⟩)) hg hat); have n1_ := Aside0.mk (blk_grown (g := gb101) (o := .cells #[.int .i64 a1] 3 (0, 0)) (by (with_reducible repeat (first | refine blk_drewN ?_ _ | refine blk_drew ?_ | refine blk_alloc ?_ _)); exact BK101.out) hg (Kd.R_ne HO_7.out BK101.out (by decide))); have n2_ := Aside0.mk (hb); have n3_ := Aside0.mk (ho); clear HO_5; clear BK101; clear HB; clear HO_7; have HO_5 := n0_; have BK101 := n1_; have HB := n2_; have HO124 := n3_; clear n0_ n1_ n2_ n3_; clear ho hb hg hat))
             go_ret
             exact ⟨_, by first | rfl | (simp [errW_none, errW_some] <;> rfl) | (simp only [← hji96]; first | rfl | (simp [errW_none, errW_some] <;> rfl)) | (simp [*, errW_none, errW_some] <;> rfl), by (with_reducible repeat (first | apply Kd.R_alloc | apply Kd.R_drewN | apply Kd.R_drew)); exact Kd.R_mono HO124.out (fun _ hk => trivial), by repeat (first | (with_reducible first | exact HB.out | apply below_alloc | apply pw_below_drewN | apply below_drew1 | refine below_set ?_ GE101.out) | exact HB.out)⟩
            ·rw [if_neg c99] at H
             exact absurd H (by simp)
           ·rw [if_neg c98] at H
            exact absurd H (by simp)
          ·rw [if_neg c97] at H
           exact absurd H (by simp)
      ·rw [if_neg c23] at H
       exact absurd H (by simp)
     ·rw [if_neg c22] at H
      exact absurd H (by simp)

end Go.Proofs.Ytfpcejkjabmeeaa.QCI
