import Derived.Lib.SliceRun
import Derived.Test.YtgjmljjnminefaaQCompareAppliesx0
import Derived.Test.YtgjmljjnminefaaQCompareAppliesx5
import Derived.Test.YtgjmljjnminefaaArrEq
import Derived.Test.YtgjmljjnminefaaZip
import Derived.Test.YtgjmljjnminefaaZip2
namespace Go.Proofs.Ytgjmljjnminefaa.QCompareApplies
open Go.Proofs.Ytgjmljjnminefaa.Zip2 Go.Proofs.Ytgjmljjnminefaa.Zip Go.RowKit Go.Proofs.YtgjmljjnminefaaW.PrintWords Go.Proofs.YtgjmljjnminefaaW.PrintLast Go.Proofs.YtgjmljjnminefaaW.PrintMore
attribute [local go_sem] max2_int min2_int max_two min_two max_three min_three max_four min_four   -- for this text's walks alone
set_option linter.unusedVariables false
set_option linter.unusedSimpArgs false

def compare_fits.j0 : Nat → List (S24) → List (S24) → Int → Int → Bool → Int → Int → Int → Option (Bool)
 | 0, _, _, _, _, _, _, _, _ => none
 | k + 1, x1, x2, x3, x4, x11, x253000, x253001, x253002 => if x253000 = 0 then (if x11 = true then (if 0 ≤ x3 then (if x3 < (x1.length : Int) then (if 0 ≤ x4 then (if x4 < (x2.length : Int) then ((compare_Same.f k ((rd_T24 x1 x3).f0) ((rd_T24 x1 x3).f1) ((rd_T24 x2 x4).f0) ((rd_T24 x2 x4).f1)).bind fun t255 => (some t255)) else (none)) else (none)) else (none)) else (none)) else (some false)) else (if x253000 = 3 then (if x11 = true then (if 0 ≤ x3 then (if x3 < (x1.length : Int) then (if 0 ≤ x4 then (if x4 < (x2.length : Int) then (if ((rd_T24 x1 x3).f0) = ((rd_T24 x2 x4).f0) then ((compare_Same.f k ((rd_T24 x1 x3).f0) ((rd_T24 x1 x3).f1) ((rd_T24 x2 x4).f0) ((rd_T24 x2 x4).f1)).bind fun t260 => (some (!t260))) else (some false)) else (none)) else (none)) else (none)) else (none)) else (some false)) else (if x253000 = 1 then (if x253001 = x3 then (if x253002 = 0 then (some (decide (x3 < (x1.length : Int)))) else (some false)) else (some false)) else (if x253000 = 2 then (if x253002 = x4 then (if x253001 = 0 then (some (decide (x4 < (x2.length : Int)))) else (some false)) else (some false)) else (some false))))
def compare_fits.f (k : Nat) (a0_0 : Int) (a0_1 : Int) (a0_2 : Int) (l1 : List (S24)) (l2 : List (S24)) (a3 : Int) (a4 : Int) : Option (Bool) := if a0_1 = a3 then (if a0_2 = a4 then (if a3 < (l1.length : Int) then (compare_fits.j0 k l1 l2 a3 a4 (decide (a4 < (l2.length : Int))) a0_0 a0_1 a0_2) else (compare_fits.j0 k l1 l2 a3 a4 false a0_0 a0_1 a0_2)) else (compare_fits.j0 k l1 l2 a3 a4 false a0_0 a0_1 a0_2)) else (compare_fits.j0 k l1 l2 a3 a4 false a0_0 a0_1 a0_2)
theorem compare_fits.mono_l : ∀ k, (∀ y0 y1 y2 y3 y4 y5 y6 y7, LeO (compare_fits.j0 k y0 y1 y2 y3 y4 y5 y6 y7) (compare_fits.j0 (k + 1) y0 y1 y2 y3 y4 y5 y6 y7))
 | 0 => fun _ _ _ _ _ _ _ _ r h => by simp [compare_fits.j0] at h
 | k + 1 => by
  have ih0 := compare_fits.mono_l k
  ·intro y0 y1 y2 y3 y4 y5 y6 y7
   unfold compare_fits.j0
   repeat' first
   | (with_reducible exact ih0 _ _ _ _ _ _ _ _)
   | (with_reducible exact compare_Same.mono _ _ _ _ _)
   | (with_reducible exact LeO.refl _)
   | (with_reducible exact LeO.none _)
   | (with_reducible refine LeO.ite ?_ ?_)
   | (with_reducible refine LeO.bind ?_ (fun _ => ?_))
   | exact ih0 _ _ _ _ _ _ _ _
   | exact compare_Same.mono _ _ _ _ _
   | exact LeO.none _
   | refine LeO.ite ?_ ?_
   | refine LeO.bind ?_ (fun _ => ?_)
theorem compare_fits.mono : ∀ a0 a1 a2 a3 a4 a5 a6 k, LeO (compare_fits.f k a0 a1 a2 a3 a4 a5 a6) (compare_fits.f (k + 1) a0 a1 a2 a3 a4 a5 a6) := by
 intro a0 a1 a2 a3 a4 a5 a6 k
 have ih0 := compare_fits.mono_l k
 unfold compare_fits.f
 repeat' first
   | (with_reducible exact ih0 _ _ _ _ _ _ _ _)
   | (with_reducible exact compare_Same.mono _ _ _ _ _)
   | (with_reducible exact LeO.refl _)
   | (with_reducible exact LeO.none _)
   | (with_reducible refine LeO.ite ?_ ?_)
   | (with_reducible refine LeO.bind ?_ (fun _ => ?_))
   | exact ih0 _ _ _ _ _ _ _ _
   | exact compare_Same.mono _ _ _ _ _
   | exact LeO.none _
   | refine LeO.ite ?_ ?_
   | refine LeO.bind ?_ (fun _ => ?_)
def compare_fits.T4 : Bool × List (List Nat × List Nat) := (true, [([], []), ([0], [0]), ([1], [1]), ([1], [1]), ([2, 3, 1], [1, 2, 3]), ([4, 1], [1, 4]), ([1], [1]), ([1], [1]), ([6, 7, 1], [1, 6, 7]), ([8, 1], [1, 8]), ([5, 9, 1, 1], [1, 5, 9]), ([1, 10], [1, 10]), ([11, 10, 0, 1, 2, 3, 4, 5, 6, 7, 8, 9, 10, 11], [11])])
def compare_fits.B4 : List Nat := [0, 1, 3, 3, 15, 31, 3, 3, 195, 451, 1023, 2047, 4095]
theorem compare_fits.tab4 : rtab .any (opsOf Try.f35 4) = compare_fits.T4 := by kernel_rfl
theorem compare_fits.bits4 : waitsOk compare_fits.T4.2 compare_fits.B4 = true := by kernel_rfl
def compare_fits.T6 : Bool × List (List Nat × List Nat) := (true, [([], []), ([0], [0]), ([1], [1]), ([1], [1]), ([2, 3, 1], [1, 2, 3]), ([4, 1], [1, 4]), ([5, 1], [1, 5]), ([1], [1]), ([1], [1]), ([7, 8, 1], [1, 7, 8]), ([9, 1], [1, 9]), ([10, 1], [1, 10]), ([6, 11, 1], [1, 6, 11]), ([1, 12], [1, 12]), ([13, 1], [13]), ([14], [14]), ([14], [14]), ([15, 16, 14], [14, 15, 16]), ([17, 14], [14, 17]), ([14], [14]), ([14], [14]), ([19, 20, 14], [14, 19, 20]), ([21, 14], [14, 21]), ([18, 22, 14, 14], [14, 18, 22]), ([23, 14], [14, 23]), ([14, 24], [14, 24]), ([25, 23, 0, 1, 2, 3, 4, 5, 6, 7, 8, 9, 10, 11, 12, 13, 14, 15, 16, 17, 18, 19, 20, 21, 22, 23, 24, 25], [25])])
def compare_fits.B6 : List Nat := [0, 1, 3, 3, 15, 31, 63, 3, 3, 387, 899, 1923, 4095, 8191, 16383, 32767, 32767, 131071, 262143, 32767, 32767, 1605631, 3702783, 8388607, 16777215, 33554431, 67108863]
theorem compare_fits.tab6 : rtab .any (opsOf Try.f35 6) = compare_fits.T6 := by kernel_rfl
theorem compare_fits.bits6 : waitsOk compare_fits.T6.2 compare_fits.B6 = true := by kernel_rfl
set_option maxHeartbeats 8000000 in
set_option maxRecDepth 100000 in
theorem compare_fits.calls (k : Nat) (a0_0 : Int) (a0_1 : Int) (a0_2 : Int) (A1 : Option Addr) (c1 : Nat) (l1 : List (S24)) (A2 : Option Addr) (c2 : Nat) (l2 : List (S24)) (a3 : Int) (a4 : Int) (r : Bool) (w : World) (hr1 : Kd.C k24 w A1 l1.length l1) (hc1 : l1.length ≤ c1) (hr2 : Kd.C k24 w A2 l2.length l2) (hc2 : l2.length ≤ c2) (h : compare_fits.f k a0_0 a0_1 a0_2 l1 l2 a3 a4 = some r) :
  Calls Try.prog 35 #[.agg #[.int .i64 a0_0, .int .i64 a0_1, .int .i64 a0_2], .slice A1 l1.length c1, .slice A2 l2.length c2, .int .i64 a3, .int .i64 a4] w fun e w' => e = .returned (.bool r) ∧ Below w.heap.size w w' := by
 have hu54 := Try.underlying54
 have hu24 := Try.underlying24
 have HR1 := q13 hr1
 have HC1 := q13 hc1
 clear hr1 hc1
 have HR2 := q13 hr2
 have HC2 := q13 hc2
 clear hr2 hc2
 have HB := q13 (Below.refl w.heap.size w)
 have H : (if a0_1 = a3 then (if a0_2 = a4 then (if a3 < (l1.length : Int) then (compare_fits.j0 k l1 l2 a3 a4 (decide (a4 < (l2.length : Int))) a0_0 a0_1 a0_2) else (compare_fits.j0 k l1 l2 a3 a4 false a0_0 a0_1 a0_2)) else (compare_fits.j0 k l1 l2 a3 a4 false a0_0 a0_1 a0_2)) else (compare_fits.j0 k l1 l2 a3 a4 false a0_0 a0_1 a0_2)) = some r := h
 clear h
 have HC6 := q13 H
 clear H
 go_enter Try.func35, Try.ntmps35
 go_upto_region 1 with (first | ((with_reducible refine gate_dst (N := 5) rfl ?_); (try (refine gate_guard (by rfl) ?_; dsimp only)); refine box_event ?hg (N := 5) ?hd (cs := #[.int .i64 a0_0, .int .i64 a0_1, .int .i64 a0_2]) (t := 54) ?hr ?_; (case hd => rfl); (case hg => rfl); (case hr => first | (go_simp; done) | (go_simp; rfl)); intro gb252 hg w7 hbox hb; have n0_ := q13 (q12 (gB HB) hb); have n1_ := q13 (hbox); have n2_ := q13 ((by rw [hg]; exact (q7 (gB HB)) : w.heap.size ≤ gb252)); have n3_ := q13 ((by rw [hg]; exact (q7 (gB HB)) : w.heap.size ≤ gb252)); clear HB; have HB := n0_; have BK252 := n1_; have GW252 := n2_; have GE252 := n3_; clear n0_ n1_ n2_ n3_; clear hb hbox hg))
 (try simp only [Act.put, List.setIfInBounds_toArray, List.set_cons_zero, List.set_cons_succ])
 go_cut [11] (fun v11 wc => ∃ (kq : Nat) (x11_5 : Bool), v11 = .bool x11_5 ∧ Aside0 (compare_fits.j0 kq l1 l2 a3 a4 x11_5 a0_0 a0_1 a0_2 = some r) ∧ Aside0 (kq ≤ k) ∧ Aside0 (wc.heap[gb252]? = some (.cells #[.int .i64 a0_0, .int .i64 a0_1, .int .i64 a0_2] 54 (0, 0))) ∧ Aside0 (Below w.heap.size w wc))
 case first =>
  have H := HC6.out
  clear HC6
  by_cases c8 : a0_1 = a3
  ·rw [if_pos c8] at H
   have c8b0 : (a0_1 == a3) = true := beq_iff_eq.mpr c8
   have c8b1 : (a0_1 != a3) = false := bne_eq_false_iff_eq.mpr c8
   clear c8
   (first | rw [c8b0] | (simp only [i64_w, i32_w]; rw [c8b0]) | skip)
   by_cases c9 : a0_2 = a4
   ·rw [if_pos c9] at H
    have c9b0 : (a0_2 == a4) = true := beq_iff_eq.mpr c9
    have c9b1 : (a0_2 != a4) = false := bne_eq_false_iff_eq.mpr c9
    clear c9
    by_cases c10 : a3 < (l1.length : Int)
    ·rw [if_pos c10] at H
     have c10b0 : decide (a3 < (l1.length : Int)) = true := decide_eq_true c10
     clear c10
     have H' := q13 H
     clear H
     have hcz11_0 : w7.cell? ⟨gb252, 0, none⟩ = some (.int .i64 a0_0) := (q9 BK252.out 0).trans rfl
     have hcz11_1 : w7.cell? ⟨gb252, 1, none⟩ = some (.int .i64 a0_1) := (q9 BK252.out 1).trans rfl
     have hcz11_2 : w7.cell? ⟨gb252, 2, none⟩ = some (.int .i64 a0_2) := (q9 BK252.out 2).trans rfl
     have hfz11_0 := q11 BK252.out 0
     have hfz11_1 := q11 BK252.out 1
     have hfz11_2 := q11 BK252.out 2
     go_wp2
     go_meet
     case rel => exact ⟨_, (decide (a4 < (l2.length : Int))), (by first | rfl | (simp; done) | (simp [*]; done)), H', ⟨by first | omega | exact q17 _⟩, ⟨by (with_reducible repeat (first | refine q0 ?_ _ | refine q1 ?_ | refine q2 ?_ _)); exact BK252.out⟩, ⟨by repeat (first | (with_reducible first | exact HB.out | apply q3 | apply q4 | apply q5 | refine q6 ?_ GE252.out) | exact HB.out)⟩⟩
    ·rw [if_neg c10] at H
     have c10b0 : decide (a3 < (l1.length : Int)) = false := decide_eq_false c10
     clear c10
     have H' := q13 H
     clear H
     have hcz12_0 : w7.cell? ⟨gb252, 0, none⟩ = some (.int .i64 a0_0) := (q9 BK252.out 0).trans rfl
     have hcz12_1 : w7.cell? ⟨gb252, 1, none⟩ = some (.int .i64 a0_1) := (q9 BK252.out 1).trans rfl
     have hcz12_2 : w7.cell? ⟨gb252, 2, none⟩ = some (.int .i64 a0_2) := (q9 BK252.out 2).trans rfl
     have hfz12_0 := q11 BK252.out 0
     have hfz12_1 := q11 BK252.out 1
     have hfz12_2 := q11 BK252.out 2
     go_wp2
     go_meet
     case rel => exact ⟨_, (false), (by first | rfl | (simp; done) | (simp [*]; done)), H', ⟨by first | omega | exact q17 _⟩, ⟨by (with_reducible repeat (first | refine q0 ?_ _ | refine q1 ?_ | refine q2 ?_ _)); exact BK252.out⟩, ⟨by repeat (first | (with_reducible first | exact HB.out | apply q3 | apply q4 | apply q5 | refine q6 ?_ GE252.out) | exact HB.out)⟩⟩
   ·rw [if_neg c9] at H
    have c9b0 : (a0_2 == a4) = false := beq_eq_false_iff_ne.mpr c9
    have c9b1 : (a0_2 != a4) = true := bne_iff_ne.mpr c9
    have H' := q13 H
    clear H
    have hcz13_0 : w7.cell? ⟨gb252, 0, none⟩ = some (.int .i64 a0_0) := (q9 BK252.out 0).trans rfl
    have hcz13_1 : w7.cell? ⟨gb252, 1, none⟩ = some (.int .i64 a0_1) := (q9 BK252.out 1).trans rfl
    have hcz13_2 : w7.cell? ⟨gb252, 2, none⟩ = some (.int .i64 a0_2) := (q9 BK252.out 2).trans rfl
    have hfz13_0 := q11 BK252.out 0
    have hfz13_1 := q11 BK252.out 1
    have hfz13_2 := q11 BK252.out 2
    go_wp2
    go_meet
    case rel => exact ⟨_, (false), (by first | rfl | (simp; done) | (simp [*]; done)), H', ⟨by first | omega | exact q17 _⟩, ⟨by (with_reducible repeat (first | refine q0 ?_ _ | refine q1 ?_ | refine q2 ?_ _)); exact BK252.out⟩, ⟨by repeat (first | (with_reducible first | exact HB.out | apply q3 | apply q4 | apply q5 | refine q6 ?_ GE252.out) | exact HB.out)⟩⟩
  ·rw [if_neg c8] at H
   have c8b0 : (a0_1 == a3) = false := beq_eq_false_iff_ne.mpr c8
   have c8b1 : (a0_1 != a3) = true := bne_iff_ne.mpr c8
   (first | rw [c8b0] | (simp only [i64_w, i32_w]; rw [c8b0]) | skip)
   have H' := q13 H
   clear H
   have hcz14_0 : w7.cell? ⟨gb252, 0, none⟩ = some (.int .i64 a0_0) := (q9 BK252.out 0).trans rfl
   have hcz14_1 : w7.cell? ⟨gb252, 1, none⟩ = some (.int .i64 a0_1) := (q9 BK252.out 1).trans rfl
   have hcz14_2 : w7.cell? ⟨gb252, 2, none⟩ = some (.int .i64 a0_2) := (q9 BK252.out 2).trans rfl
   have hfz14_0 := q11 BK252.out 0
   have hfz14_1 := q11 BK252.out 1
   have hfz14_2 := q11 BK252.out 2
   go_wp2
   go_meet
   case rel => exact ⟨_, (false), (by first | rfl | (simp; done) | (simp [*]; done)), H', ⟨by first | omega | exact q17 _⟩, ⟨by (with_reducible repeat (first | refine q0 ?_ _ | refine q1 ?_ | refine q2 ?_ _)); exact BK252.out⟩, ⟨by repeat (first | (with_reducible first | exact HB.out | apply q3 | apply q4 | apply q5 | refine q6 ?_ GE252.out) | exact HB.out)⟩⟩
 case rest =>
  clear HC6
  try clear c1
  try clear c2
  try clear p2
  try clear c3
  try clear c8
  try clear c8b0
  try clear c8b1
  try clear c9
  try clear c9b0
  try clear c9b1
  try clear c10
  try clear c10b0
  obtain ⟨kq, x11_5, rfl, HA, HJ5, BK252, HB⟩ := hcut
  cases kq with
  | zero => exact absurd HA.out (by simp [compare_fits.j0])
  | succ kj5 =>
   have H := HA.out
   clear HA
   simp only [compare_fits.j0] at H
   by_cases c15 : a0_0 = 0
   ·rw [if_pos c15] at H
    have c15b0 : (a0_0 == 0) = true := beq_iff_eq.mpr c15
    have c15b1 : (a0_0 != 0) = false := bne_eq_false_iff_eq.mpr c15
    clear c15
    by_cases c16 : x11_5 = true
    ·subst c16
     have H1 : (if 0 ≤ a3 then (if a3 < (l1.length : Int) then (if 0 ≤ a4 then (if a4 < (l2.length : Int) then ((compare_Same.f kj5 ((rd_T24 l1 a3).f0) ((rd_T24 l1 a3).f1) ((rd_T24 l2 a4).f0) ((rd_T24 l2 a4).f1)).bind fun t255 => (some t255)) else (none)) else (none)) else (none)) else (none)) = some r := by rw [if_pos rfl] at H; exact H
     clear H
     have H := H1
     clear H1
     by_cases c17 : 0 ≤ a3
     ·rw [if_pos c17] at H
      have c17b0 : decide (0 ≤ a3) = true := decide_eq_true c17
      clear c17
      by_cases c18 : a3 < (l1.length : Int)
      ·rw [if_pos c18] at H
       have c18b0 : decide (a3 < (l1.length : Int)) = true := decide_eq_true c18
       clear c18
       by_cases c19 : 0 ≤ a4
       ·rw [if_pos c19] at H
        have c19b0 : decide (0 ≤ a4) = true := decide_eq_true c19
        clear c19
        by_cases c20 : a4 < (l2.length : Int)
        ·rw [if_pos c20] at H
         have c20b0 : decide (a4 < (l2.length : Int)) = true := decide_eq_true c20
         clear c20
         replace H := Option.bind_eq_some_iff.mp H
         obtain ⟨t255, A210, H⟩ := H
         replace H : (some t255) = some r := H
         have A21 := q13 A210
         clear A210
         obtain rfl := Option.some.inj H
         have hcz22_0 : wc.cell? ⟨gb252, 0, none⟩ = some (.int .i64 a0_0) := (q9 BK252.out 0).trans rfl
         have hcz22_1 : wc.cell? ⟨gb252, 1, none⟩ = some (.int .i64 a0_1) := (q9 BK252.out 1).trans rfl
         have hcz22_2 : wc.cell? ⟨gb252, 2, none⟩ = some (.int .i64 a0_2) := (q9 BK252.out 2).trans rfl
         have hfz22_0 := q11 BK252.out 0
         have hfz22_1 := q11 BK252.out 1
         have hfz22_2 := q11 BK252.out 2
         try go_wp2
         have n0_ := q13 (q1 BK252.out)
         have n1_ := q13 (q5 HB.out)
         clear BK252
         clear HB
         have BK252 := n0_
         have HB := n1_
         clear n0_ n1_
         have p253 : 0 ≤ (a3 : Int) := q15 (by assumption)
         have q253 : a3 < (l1.length : Int) := q15 (by assumption)
         obtain ⟨ad253, A253_1, c253_1, e253, hx253_0, hx253_1, hl253_1, hi253_1⟩ := at_T24 HR1.out a3 p253 q253
         have hw253_1 := hx253_1
         have hw253_0 := hx253_0
         cases e253
         replace hx253_0 := cl HB.out hx253_0
         replace hx253_1 := cl HB.out hx253_1
         have HR253_1 := q13 hi253_1
         have HC253_1 := q13 hl253_1
         clear hi253_1 hl253_1
         replace p253 := eq_true p253
         replace q253 := eq_true q253
         have p254 : 0 ≤ (a4 : Int) := q15 (by assumption)
         have q254 : a4 < (l2.length : Int) := q15 (by assumption)
         obtain ⟨ad254, A254_1, c254_1, e254, hx254_0, hx254_1, hl254_1, hi254_1⟩ := at_T24 HR2.out a4 p254 q254
         have hw254_1 := hx254_1
         have hw254_0 := hx254_0
         cases e254
         replace hx254_0 := cl HB.out hx254_0
         replace hx254_1 := cl HB.out hx254_1
         have HR254_1 := q13 hi254_1
         have HC254_1 := q13 hl254_1
         clear hi254_1 hl254_1
         replace p254 := eq_true p254
         replace q254 := eq_true q254
         refine start_ (n := 13) (S := fun w' => w'.cell? (ad253.add ((a3).toNat * 2)) = some (.int .i64 ((rd_T24 l1 a3).f0)) ∧ w'.cell? ⟨(ad253.add ((a3).toNat * 2)).block, (ad253.add ((a3).toNat * 2)).off + 1, none⟩ = some (.slice A253_1 ((rd_T24 l1 a3).f1).length c253_1) ∧ w'.cell? (ad254.add ((a4).toNat * 2)) = some (.int .i64 ((rd_T24 l2 a4).f0)) ∧ w'.cell? ⟨(ad254.add ((a4).toNat * 2)).block, (ad254.add ((a4).toNat * 2)).off + 1, none⟩ = some (.slice A254_1 ((rd_T24 l2 a4).f1).length c254_1)) (ds := []) (Array.replicate 13 false) (by kernel_rfl) rfl rfl ⟨(cl HB.out hw253_0), (cl HB.out hw253_1), (cl HB.out hw254_0), (cl HB.out hw254_1)⟩ (fun hHeld => ?_); refine with_tabW compare_fits.tab4 compare_fits.bits4 (fun HT_ HW_ => ?_)
         generalize wc.drew = w23 at BK252 HB HR253_1 HR254_1 hx253_0 hx253_1 hx254_0 hx254_1 hHeld ⊢
         refine go_in [0, 1, 2, 3, 4, 6, 7, 8, 5, 9] ?_
         repeat (first | (refine pz (v := ?_) (a' := ?_) HT_ rfl rfl (by kernel_rfl) (fun _ _ _ h => h) (Or.inl ⟨by rfl, ?_⟩) ?_ ?_; rotate_left; (focus intro w'; go_simp; with_reducible rfl); rotate_left; (focus simp only [Act.put, List.setIfInBounds_toArray, List.set_cons_zero, List.set_cons_succ, i64_w, i32_w, u8_w, u8_tm, u8_c, u8_cm]; rfl)) | (refine tz (v := ?_) (a' := ?_) HT_ HW_ rfl rfl hHeld (by kernel_rfl) (fun _ _ _ h => h) (Or.inl ⟨by rfl, ?_⟩) ?_ ?_; rotate_left; (focus rintro w' ⟨s0, s1, s2, s3⟩; go_simp; with_reducible rfl); rotate_left; (focus simp only [Act.put, List.setIfInBounds_toArray, List.set_cons_zero, List.set_cons_succ, i64_w, i32_w, u8_w, u8_tm, u8_c, u8_cm]; rfl)))
         refine go_out ?_
         refine one_ (i := 10) (N := some 48) (fl 13 11 []) rfl rfl (one_of HT_.out (by kernel_rfl)) (by decide) (fun K hK => ?_)
         refine goes_ Try.func13 (by kernel_rfl) rfl #[.agg #[.int .i64 ((rd_T24 l1 a3).f0), .slice A253_1 ((rd_T24 l1 a3).f1).length c253_1], .agg #[.int .i64 ((rd_T24 l2 a4).f0), .slice A254_1 ((rd_T24 l2 a4).f1).length c254_1]] (by rfl) rfl rfl (by (try simp only [List.map_toArray, List.map_cons, List.map_nil]); first | done | rfl | (simp only [List.length_drop, List.length_take]; rfl)) ?_
         with_reducible refine (compare_Same.calls kj5 ((rd_T24 l1 a3).f0) _ _ ((rd_T24 l1 a3).f1) ((rd_T24 l2 a4).f0) _ _ ((rd_T24 l2 a4).f1) t255 _ ?side1 ?side2 ?side3 ?side4 A21.out).mono ?_
         (case side1 => repeat (first | exact (Kd.C_below HR253_1.out HB.out) | (with_reducible refine q18 ?_ _) | (with_reducible refine q19 ?_ _) | (with_reducible refine q20 ?_)))
         (case side2 => exact HC253_1.out)
         (case side3 => repeat (first | exact (Kd.C_below HR254_1.out HB.out) | (with_reducible refine q18 ?_ _) | (with_reducible refine q19 ?_ _) | (with_reducible refine q20 ?_)))
         (case side4 => exact HC254_1.out)
         rintro e w24 ⟨rfl, hb⟩
         refine ⟨_, rfl, ?_⟩
         have n0_ := q13 (q8 (g := gb252) (o := .cells #[.int .i64 a0_0, .int .i64 a0_1, .int .i64 a0_2] 54 (0, 0)) (gK BK252) hb)
         have n1_ := q13 (q12 (by repeat (first | (with_reducible first | exact HB.out | apply q3 | apply q4 | apply q5 | refine q6 ?_ GE252.out) | exact HB.out)) hb)
         clear BK252
         clear HB
         have BK252 := n0_
         have HB := n1_
         clear n0_ n1_
         (try clear hb)
         (try clear hb2)
         (try clear hk)
         (try clear hi)
         refine hK.out _ _ ⟨(cl HB.out hw253_0), (cl HB.out hw253_1), (cl HB.out hw254_0), (cl HB.out hw254_1)⟩ (fun hHeld => ?_)
         clear hK K
         refine norm_ (a' := ?_) ?_ ?_
         rotate_left
         ·show Act.put _ (some 48) _ = _
          simp only [Act.put, List.setIfInBounds_toArray, List.set_cons_zero, List.set_cons_succ, i64_w, i32_w]
          rfl
         refine go_in [11, 12] ?_
         repeat (first | (refine pz (v := ?_) (a' := ?_) HT_ rfl rfl (by kernel_rfl) (fun _ _ _ h => h) (Or.inl ⟨by rfl, ?_⟩) ?_ ?_; rotate_left; (focus intro w'; go_simp; with_reducible rfl); rotate_left; (focus simp only [Act.put, List.setIfInBounds_toArray, List.set_cons_zero, List.set_cons_succ, i64_w, i32_w, u8_w, u8_tm, u8_c, u8_cm]; rfl)))
         refine go_out ?_
         refine done_ (done_of HT_.out (by kernel_rfl)) ?_
         try go_wp2
         go_ret
         exact ⟨by first | rfl | (simp [errW_none, errW_some] <;> rfl) | (simp [*, errW_none, errW_some] <;> rfl), by repeat (first | (with_reducible first | exact HB.out | apply q3 | apply q4 | apply q5 | refine q6 ?_ GE252.out) | exact HB.out)⟩
        ·rw [if_neg c20] at H
         exact absurd H (by simp)
       ·rw [if_neg c19] at H
        exact absurd H (by simp)
      ·rw [if_neg c18] at H
       exact absurd H (by simp)
     ·rw [if_neg c17] at H
      exact absurd H (by simp)
    ·replace c16 := Bool.eq_false_iff.mpr c16
     subst c16
     have H1 : (some false) = some r := by rw [if_neg (show ¬ (false = true) by decide)] at H; exact H
     clear H
     have H := H1
     clear H1
     obtain rfl := Option.some.inj H
     have hcz25_0 : wc.cell? ⟨gb252, 0, none⟩ = some (.int .i64 a0_0) := (q9 BK252.out 0).trans rfl
     have hcz25_1 : wc.cell? ⟨gb252, 1, none⟩ = some (.int .i64 a0_1) := (q9 BK252.out 1).trans rfl
     have hcz25_2 : wc.cell? ⟨gb252, 2, none⟩ = some (.int .i64 a0_2) := (q9 BK252.out 2).trans rfl
     have hfz25_0 := q11 BK252.out 0
     have hfz25_1 := q11 BK252.out 1
     have hfz25_2 := q11 BK252.out 2
     try go_wp2
     have n0_ := q13 (q1 BK252.out)
     have n1_ := q13 (q5 HB.out)
     clear BK252
     clear HB
     have BK252 := n0_
     have HB := n1_
     clear n0_ n1_
     refine start_ (n := 13) (S := fun w' => True) (ds := []) (Array.replicate 13 false) (by kernel_rfl) rfl rfl trivial (fun hHeld => ?_); refine with_tabW compare_fits.tab4 compare_fits.bits4 (fun HT_ HW_ => ?_)
     generalize wc.drew = w26 at BK252 HB hHeld ⊢
     refine go_in [0, 1, 2, 3, 4, 5, 6, 7, 8, 9, 10, 11, 12] ?_
     repeat (first | (refine pz (v := ?_) (a' := ?_) HT_ rfl rfl (by kernel_rfl) (fun _ _ _ h => h) (Or.inl ⟨by rfl, ?_⟩) ?_ ?_; rotate_left; (focus intro w'; go_simp; with_reducible rfl); rotate_left; (focus simp only [Act.put, List.setIfInBounds_toArray, List.set_cons_zero, List.set_cons_succ, i64_w, i32_w, u8_w, u8_tm, u8_c, u8_cm]; rfl)) | (refine pz (v := undef) (a' := ?_) HT_ rfl rfl (by kernel_rfl) (fun _ _ _ h => h) (Or.inr ⟨by rfl, rfl⟩) ?_ ?_; rotate_left; (focus simp only [Act.put, List.setIfInBounds_toArray, List.set_cons_zero, List.set_cons_succ, i64_w, i32_w, u8_w, u8_tm, u8_c, u8_cm]; rfl)))
     refine go_out ?_
     refine done_ (done_of HT_.out (by kernel_rfl)) ?_
     try go_wp2
     go_ret
     exact ⟨by first | rfl | (simp [errW_none, errW_some] <;> rfl) | (simp [*, errW_none, errW_some] <;> rfl), by repeat (first | (with_reducible first | exact HB.out | apply q3 | apply q4 | apply q5 | refine q6 ?_ GE252.out) | exact HB.out)⟩
   ·rw [if_neg c15] at H
    have c15b0 : (a0_0 == 0) = false := beq_eq_false_iff_ne.mpr c15
    have c15b1 : (a0_0 != 0) = true := bne_iff_ne.mpr c15
    by_cases c27 : a0_0 = 3
    ·rw [if_pos c27] at H
     have c27b0 : (a0_0 == 3) = true := beq_iff_eq.mpr c27
     have c27b1 : (a0_0 != 3) = false := bne_eq_false_iff_eq.mpr c27
     clear c27
     by_cases c28 : x11_5 = true
     ·subst c28
      have H1 : (if 0 ≤ a3 then (if a3 < (l1.length : Int) then (if 0 ≤ a4 then (if a4 < (l2.length : Int) then (if ((rd_T24 l1 a3).f0) = ((rd_T24 l2 a4).f0) then ((compare_Same.f kj5 ((rd_T24 l1 a3).f0) ((rd_T24 l1 a3).f1) ((rd_T24 l2 a4).f0) ((rd_T24 l2 a4).f1)).bind fun t260 => (some (!t260))) else (some false)) else (none)) else (none)) else (none)) else (none)) = some r := by rw [if_pos rfl] at H; exact H
      clear H
      have H := H1
      clear H1
      by_cases c29 : 0 ≤ a3
      ·rw [if_pos c29] at H
       have c29b0 : decide (0 ≤ a3) = true := decide_eq_true c29
       clear c29
       by_cases c30 : a3 < (l1.length : Int)
       ·rw [if_pos c30] at H
        have c30b0 : decide (a3 < (l1.length : Int)) = true := decide_eq_true c30
        clear c30
        by_cases c31 : 0 ≤ a4
        ·rw [if_pos c31] at H
         have c31b0 : decide (0 ≤ a4) = true := decide_eq_true c31
         clear c31
         by_cases c32 : a4 < (l2.length : Int)
         ·rw [if_pos c32] at H
          have c32b0 : decide (a4 < (l2.length : Int)) = true := decide_eq_true c32
          clear c32
          by_cases c33 : ((rd_T24 l1 a3).f0) = ((rd_T24 l2 a4).f0)
          ·rw [if_pos c33] at H
           have c33b0 : (((rd_T24 l1 a3).f0) == ((rd_T24 l2 a4).f0)) = true := beq_iff_eq.mpr c33
           have c33b1 : (((rd_T24 l1 a3).f0) != ((rd_T24 l2 a4).f0)) = false := bne_eq_false_iff_eq.mpr c33
           clear c33
           replace H := Option.bind_eq_some_iff.mp H
           obtain ⟨t260, A340, H⟩ := H
           replace H : (some (!t260)) = some r := H
           have A34 := q13 A340
           clear A340
           obtain rfl := Option.some.inj H
           have hcz35_0 : wc.cell? ⟨gb252, 0, none⟩ = some (.int .i64 a0_0) := (q9 BK252.out 0).trans rfl
           have hcz35_1 : wc.cell? ⟨gb252, 1, none⟩ = some (.int .i64 a0_1) := (q9 BK252.out 1).trans rfl
           have hcz35_2 : wc.cell? ⟨gb252, 2, none⟩ = some (.int .i64 a0_2) := (q9 BK252.out 2).trans rfl
           have hfz35_0 := q11 BK252.out 0
           have hfz35_1 := q11 BK252.out 1
           have hfz35_2 := q11 BK252.out 2
           try go_wp2
           have n0_ := q13 (q1 BK252.out)
           have n1_ := q13 (q5 HB.out)
           clear BK252
           clear HB
           have BK252 := n0_
           have HB := n1_
           clear n0_ n1_
           have p256 : 0 ≤ (a3 : Int) := q15 (by assumption)
           have q256 : a3 < (l1.length : Int) := q15 (by assumption)
           obtain ⟨ad256, A256_1, c256_1, e256, hx256_0, hx256_1, hl256_1, hi256_1⟩ := at_T24 HR1.out a3 p256 q256
           have hw256_1 := hx256_1
           have hw256_0 := hx256_0
           cases e256
           replace hx256_0 := cl HB.out hx256_0
           replace hx256_1 := cl HB.out hx256_1
           have HR256_1 := q13 hi256_1
           have HC256_1 := q13 hl256_1
           clear hi256_1 hl256_1
           replace p256 := eq_true p256
           replace q256 := eq_true q256
           have p257 : 0 ≤ (a4 : Int) := q15 (by assumption)
           have q257 : a4 < (l2.length : Int) := q15 (by assumption)
           obtain ⟨ad257, A257_1, c257_1, e257, hx257_0, hx257_1, hl257_1, hi257_1⟩ := at_T24 HR2.out a4 p257 q257
           have hw257_1 := hx257_1
           have hw257_0 := hx257_0
           cases e257
           replace hx257_0 := cl HB.out hx257_0
           replace hx257_1 := cl HB.out hx257_1
           have HR257_1 := q13 hi257_1
           have HC257_1 := q13 hl257_1
           clear hi257_1 hl257_1
           replace p257 := eq_true p257
           replace q257 := eq_true q257
           have p258 : 0 ≤ (a3 : Int) := q15 (by assumption)
           have q258 : a3 < (l1.length : Int) := q15 (by assumption)
           obtain ⟨ad258, A258_1, c258_1, e258, hx258_0, hx258_1, hl258_1, hi258_1⟩ := at_T24 HR1.out a3 p258 q258
           have hw258_1 := hx258_1
           have hw258_0 := hx258_0
           obtain rfl : ad256 = ad258 := (by injection e258)
           replace hx258_0 := cl HB.out hx258_0
           replace hx258_1 := cl HB.out hx258_1
           have HR258_1 := q13 hi258_1
           have HC258_1 := q13 hl258_1
           clear hi258_1 hl258_1
           replace p258 := eq_true p258
           replace q258 := eq_true q258
           have ea_ := Option.some.inj (hx256_1.symm.trans hx258_1)
           injection ea_ with ea_ en_ ec_
           subst ea_
           subst ec_
           clear en_
           have p259 : 0 ≤ (a4 : Int) := q15 (by assumption)
           have q259 : a4 < (l2.length : Int) := q15 (by assumption)
           obtain ⟨ad259, A259_1, c259_1, e259, hx259_0, hx259_1, hl259_1, hi259_1⟩ := at_T24 HR2.out a4 p259 q259
           have hw259_1 := hx259_1
           have hw259_0 := hx259_0
           obtain rfl : ad257 = ad259 := (by injection e259)
           replace hx259_0 := cl HB.out hx259_0
           replace hx259_1 := cl HB.out hx259_1
           have HR259_1 := q13 hi259_1
           have HC259_1 := q13 hl259_1
           clear hi259_1 hl259_1
           replace p259 := eq_true p259
           replace q259 := eq_true q259
           have ea_ := Option.some.inj (hx257_1.symm.trans hx259_1)
           injection ea_ with ea_ en_ ec_
           subst ea_
           subst ec_
           clear en_
           refine start_ (n := 27) (S := fun w' => w'.cell? (ad256.add ((a3).toNat * 2)) = some (.int .i64 ((rd_T24 l1 a3).f0)) ∧ w'.cell? ⟨(ad256.add ((a3).toNat * 2)).block, (ad256.add ((a3).toNat * 2)).off + 1, none⟩ = some (.slice A256_1 ((rd_T24 l1 a3).f1).length c256_1) ∧ w'.cell? (ad257.add ((a4).toNat * 2)) = some (.int .i64 ((rd_T24 l2 a4).f0)) ∧ w'.cell? ⟨(ad257.add ((a4).toNat * 2)).block, (ad257.add ((a4).toNat * 2)).off + 1, none⟩ = some (.slice A257_1 ((rd_T24 l2 a4).f1).length c257_1) ∧ w'.cell? (ad256.add ((a3).toNat * 2)) = some (.int .i64 ((rd_T24 l1 a3).f0)) ∧ w'.cell? ⟨(ad256.add ((a3).toNat * 2)).block, (ad256.add ((a3).toNat * 2)).off + 1, none⟩ = some (.slice A256_1 ((rd_T24 l1 a3).f1).length c256_1) ∧ w'.cell? (ad257.add ((a4).toNat * 2)) = some (.int .i64 ((rd_T24 l2 a4).f0)) ∧ w'.cell? ⟨(ad257.add ((a4).toNat * 2)).block, (ad257.add ((a4).toNat * 2)).off + 1, none⟩ = some (.slice A257_1 ((rd_T24 l2 a4).f1).length c257_1)) (ds := []) (Array.replicate 27 false) (by kernel_rfl) rfl rfl ⟨(cl HB.out hw256_0), (cl HB.out hw256_1), (cl HB.out hw257_0), (cl HB.out hw257_1), (cl HB.out hw258_0), (cl HB.out hw258_1), (cl HB.out hw259_0), (cl HB.out hw259_1)⟩ (fun hHeld => ?_); refine with_tabW compare_fits.tab6 compare_fits.bits6 (fun HT_ HW_ => ?_)
           generalize wc.drew = w36 at BK252 HB HR256_1 HR257_1 HR258_1 HR259_1 hx256_0 hx256_1 hx257_0 hx257_1 hx258_0 hx258_1 hx259_0 hx259_1 hHeld ⊢
           refine go_in [0, 1, 2, 3, 4, 5, 7, 8, 9, 10, 6, 11, 12, 13, 14, 15, 16, 17, 19, 20, 21, 18, 22] ?_
           repeat (first | (refine pz (v := ?_) (a' := ?_) HT_ rfl rfl (by kernel_rfl) (fun _ _ _ h => h) (Or.inl ⟨by rfl, ?_⟩) ?_ ?_; rotate_left; (focus intro w'; go_simp; with_reducible rfl); rotate_left; (focus simp only [Act.put, List.setIfInBounds_toArray, List.set_cons_zero, List.set_cons_succ, i64_w, i32_w, u8_w, u8_tm, u8_c, u8_cm]; rfl)) | (refine tz (v := ?_) (a' := ?_) HT_ HW_ rfl rfl hHeld (by kernel_rfl) (fun _ _ _ h => h) (Or.inl ⟨by rfl, ?_⟩) ?_ ?_; rotate_left; (focus rintro w' ⟨s0, s1, s2, s3, s4, s5, s6, s7⟩; go_simp; with_reducible rfl); rotate_left; (focus simp only [Act.put, List.setIfInBounds_toArray, List.set_cons_zero, List.set_cons_succ, i64_w, i32_w, u8_w, u8_tm, u8_c, u8_cm]; rfl)))
           refine go_out ?_
           refine one_ (i := 23) (N := some 75) (fl 27 24 []) rfl rfl (one_of HT_.out (by kernel_rfl)) (by decide) (fun K hK => ?_)
           refine goes_ Try.func13 (by kernel_rfl) rfl #[.agg #[.int .i64 ((rd_T24 l1 a3).f0), .slice A256_1 ((rd_T24 l1 a3).f1).length c256_1], .agg #[.int .i64 ((rd_T24 l2 a4).f0), .slice A257_1 ((rd_T24 l2 a4).f1).length c257_1]] (by rfl) rfl rfl (by (try simp only [List.map_toArray, List.map_cons, List.map_nil]); first | done | rfl | (simp only [List.length_drop, List.length_take]; rfl)) ?_
           with_reducible refine (compare_Same.calls kj5 ((rd_T24 l1 a3).f0) _ _ ((rd_T24 l1 a3).f1) ((rd_T24 l2 a4).f0) _ _ ((rd_T24 l2 a4).f1) t260 _ ?side1 ?side2 ?side3 ?side4 A34.out).mono ?_
           (case side1 => repeat (first | exact (Kd.C_below HR258_1.out HB.out) | (with_reducible refine q18 ?_ _) | (with_reducible refine q19 ?_ _) | (with_reducible refine q20 ?_)))
           (case side2 => exact HC258_1.out)
           (case side3 => repeat (first | exact (Kd.C_below HR259_1.out HB.out) | (with_reducible refine q18 ?_ _) | (with_reducible refine q19 ?_ _) | (with_reducible refine q20 ?_)))
           (case side4 => exact HC259_1.out)
           rintro e w37 ⟨rfl, hb⟩
           refine ⟨_, rfl, ?_⟩
           have n0_ := q13 (q8 (g := gb252) (o := .cells #[.int .i64 a0_0, .int .i64 a0_1, .int .i64 a0_2] 54 (0, 0)) (gK BK252) hb)
           have n1_ := q13 (q12 (by repeat (first | (with_reducible first | exact HB.out | apply q3 | apply q4 | apply q5 | refine q6 ?_ GE252.out) | exact HB.out)) hb)
           clear BK252
           clear HB
           have BK252 := n0_
           have HB := n1_
           clear n0_ n1_
           (try clear hb)
           (try clear hb2)
           (try clear hk)
           (try clear hi)
           refine hK.out _ _ ⟨(cl HB.out hw256_0), (cl HB.out hw256_1), (cl HB.out hw257_0), (cl HB.out hw257_1), (cl HB.out hw258_0), (cl HB.out hw258_1), (cl HB.out hw259_0), (cl HB.out hw259_1)⟩ (fun hHeld => ?_)
           clear hK K
           refine norm_ (a' := ?_) ?_ ?_
           rotate_left
           ·show Act.put _ (some 75) _ = _
            simp only [Act.put, List.setIfInBounds_toArray, List.set_cons_zero, List.set_cons_succ, i64_w, i32_w]
            rfl
           refine go_in [24, 25, 26] ?_
           repeat (first | (refine pz (v := ?_) (a' := ?_) HT_ rfl rfl (by kernel_rfl) (fun _ _ _ h => h) (Or.inl ⟨by rfl, ?_⟩) ?_ ?_; rotate_left; (focus intro w'; go_simp; with_reducible rfl); rotate_left; (focus simp only [Act.put, List.setIfInBounds_toArray, List.set_cons_zero, List.set_cons_succ, i64_w, i32_w, u8_w, u8_tm, u8_c, u8_cm]; rfl)))
           refine go_out ?_
           refine done_ (done_of HT_.out (by kernel_rfl)) ?_
           try go_wp2
           go_ret
           exact ⟨by first | rfl | (simp [errW_none, errW_some] <;> rfl) | (simp [*, errW_none, errW_some] <;> rfl), by repeat (first | (with_reducible first | exact HB.out | apply q3 | apply q4 | apply q5 | refine q6 ?_ GE252.out) | exact HB.out)⟩
          ·rw [if_neg c33] at H
           have c33b0 : (((rd_T24 l1 a3).f0) == ((rd_T24 l2 a4).f0)) = false := beq_eq_false_iff_ne.mpr c33
           have c33b1 : (((rd_T24 l1 a3).f0) != ((rd_T24 l2 a4).f0)) = true := bne_iff_ne.mpr c33
           obtain rfl := Option.some.inj H
           have hcz38_0 : wc.cell? ⟨gb252, 0, none⟩ = some (.int .i64 a0_0) := (q9 BK252.out 0).trans rfl
           have hcz38_1 : wc.cell? ⟨gb252, 1, none⟩ = some (.int .i64 a0_1) := (q9 BK252.out 1).trans rfl
           have hcz38_2 : wc.cell? ⟨gb252, 2, none⟩ = some (.int .i64 a0_2) := (q9 BK252.out 2).trans rfl
           have hfz38_0 := q11 BK252.out 0
           have hfz38_1 := q11 BK252.out 1
           have hfz38_2 := q11 BK252.out 2
           try go_wp2
           have n0_ := q13 (q1 BK252.out)
           have n1_ := q13 (q5 HB.out)
           clear BK252
           clear HB
           have BK252 := n0_
           have HB := n1_
           clear n0_ n1_
           have p256 : 0 ≤ (a3 : Int) := q15 (by assumption)
           have q256 : a3 < (l1.length : Int) := q15 (by assumption)
           obtain ⟨ad256, A256_1, c256_1, e256, hx256_0, hx256_1, hl256_1, hi256_1⟩ := at_T24 HR1.out a3 p256 q256
           have hw256_1 := hx256_1
           have hw256_0 := hx256_0
           cases e256
           replace hx256_0 := cl HB.out hx256_0
           replace hx256_1 := cl HB.out hx256_1
           have HR256_1 := q13 hi256_1
           have HC256_1 := q13 hl256_1
           clear hi256_1 hl256_1
           replace p256 := eq_true p256
           replace q256 := eq_true q256
           have p257 : 0 ≤ (a4 : Int) := q15 (by assumption)
           have q257 : a4 < (l2.length : Int) := q15 (by assumption)
           obtain ⟨ad257, A257_1, c257_1, e257, hx257_0, hx257_1, hl257_1, hi257_1⟩ := at_T24 HR2.out a4 p257 q257
           have hw257_1 := hx257_1
           have hw257_0 := hx257_0
           cases e257
           replace hx257_0 := cl HB.out hx257_0
           replace hx257_1 := cl HB.out hx257_1
           have HR257_1 := q13 hi257_1
           have HC257_1 := q13 hl257_1
           clear hi257_1 hl257_1
           replace p257 := eq_true p257
           replace q257 := eq_true q257
           refine start_ (n := 27) (S := fun w' => w'.cell? (ad256.add ((a3).toNat * 2)) = some (.int .i64 ((rd_T24 l1 a3).f0)) ∧ w'.cell? ⟨(ad256.add ((a3).toNat * 2)).block, (ad256.add ((a3).toNat * 2)).off + 1, none⟩ = some (.slice A256_1 ((rd_T24 l1 a3).f1).length c256_1) ∧ w'.cell? (ad257.add ((a4).toNat * 2)) = some (.int .i64 ((rd_T24 l2 a4).f0)) ∧ w'.cell? ⟨(ad257.add ((a4).toNat * 2)).block, (ad257.add ((a4).toNat * 2)).off + 1, none⟩ = some (.slice A257_1 ((rd_T24 l2 a4).f1).length c257_1)) (ds := []) (Array.replicate 27 false) (by kernel_rfl) rfl rfl ⟨(cl HB.out hw256_0), (cl HB.out hw256_1), (cl HB.out hw257_0), (cl HB.out hw257_1)⟩ (fun hHeld => ?_); refine with_tabW compare_fits.tab6 compare_fits.bits6 (fun HT_ HW_ => ?_)
           generalize wc.drew = w39 at BK252 HB HR256_1 HR257_1 hx256_0 hx256_1 hx257_0 hx257_1 hHeld ⊢
           refine go_in [0, 1, 2, 3, 4, 5, 7, 8, 9, 10, 6, 11, 12, 13, 14, 15, 16, 17, 18, 19, 20, 21, 22, 23, 24, 25, 26] ?_
           repeat (first | (refine pz (v := ?_) (a' := ?_) HT_ rfl rfl (by kernel_rfl) (fun _ _ _ h => h) (Or.inl ⟨by rfl, ?_⟩) ?_ ?_; rotate_left; (focus intro w'; go_simp; with_reducible rfl); rotate_left; (focus simp only [Act.put, List.setIfInBounds_toArray, List.set_cons_zero, List.set_cons_succ, i64_w, i32_w, u8_w, u8_tm, u8_c, u8_cm]; rfl)) | (refine tz (v := ?_) (a' := ?_) HT_ HW_ rfl rfl hHeld (by kernel_rfl) (fun _ _ _ h => h) (Or.inl ⟨by rfl, ?_⟩) ?_ ?_; rotate_left; (focus rintro w' ⟨s0, s1, s2, s3⟩; go_simp; with_reducible rfl); rotate_left; (focus simp only [Act.put, List.setIfInBounds_toArray, List.set_cons_zero, List.set_cons_succ, i64_w, i32_w, u8_w, u8_tm, u8_c, u8_cm]; rfl)) | (refine pz (v := undef) (a' := ?_) HT_ rfl rfl (by kernel_rfl) (fun _ _ _ h => h) (Or.inr ⟨by rfl, rfl⟩) ?_ ?_; rotate_left; (focus simp only [Act.put, List.setIfInBounds_toArray, List.set_cons_zero, List.set_cons_succ, i64_w, i32_w, u8_w, u8_tm, u8_c, u8_cm]; rfl)))
           refine go_out ?_
           refine done_ (done_of HT_.out (by kernel_rfl)) ?_
           try go_wp2
           go_ret
           exact ⟨by first | rfl | (simp [errW_none, errW_some] <;> rfl) | (simp [*, errW_none, errW_some] <;> rfl), by repeat (first | (with_reducible first | exact HB.out | apply q3 | apply q4 | apply q5 | refine q6 ?_ GE252.out) | exact HB.out)⟩
         ·rw [if_neg c32] at H
          exact absurd H (by simp)
        ·rw [if_neg c31] at H
         exact absurd H (by simp)
       ·rw [if_neg c30] at H
        exact absurd H (by simp)
      ·rw [if_neg c29] at H
       exact absurd H (by simp)
     ·replace c28 := Bool.eq_false_iff.mpr c28
      subst c28
      have H1 : (some false) = some r := by rw [if_neg (show ¬ (false = true) by decide)] at H; exact H
      clear H
      have H := H1
      clear H1
      obtain rfl := Option.some.inj H
      have hcz40_0 : wc.cell? ⟨gb252, 0, none⟩ = some (.int .i64 a0_0) := (q9 BK252.out 0).trans rfl
      have hcz40_1 : wc.cell? ⟨gb252, 1, none⟩ = some (.int .i64 a0_1) := (q9 BK252.out 1).trans rfl
      have hcz40_2 : wc.cell? ⟨gb252, 2, none⟩ = some (.int .i64 a0_2) := (q9 BK252.out 2).trans rfl
      have hfz40_0 := q11 BK252.out 0
      have hfz40_1 := q11 BK252.out 1
      have hfz40_2 := q11 BK252.out 2
      try go_wp2
      have n0_ := q13 (q1 BK252.out)
      have n1_ := q13 (q5 HB.out)
      clear BK252
      clear HB
      have BK252 := n0_
      have HB := n1_
      clear n0_ n1_
      refine start_ (n := 27) (S := fun w' => True) (ds := []) (Array.replicate 27 false) (by kernel_rfl) rfl rfl trivial (fun hHeld => ?_); refine with_tabW compare_fits.tab6 compare_fits.bits6 (fun HT_ HW_ => ?_)
      generalize wc.drew = w41 at BK252 HB hHeld ⊢
      refine go_in [0, 1, 2, 3, 4, 5, 6, 7, 8, 9, 10, 11, 12, 13, 14, 15, 16, 17, 18, 19, 20, 21, 22, 23, 24, 25, 26] ?_
      repeat (first | (refine pz (v := ?_) (a' := ?_) HT_ rfl rfl (by kernel_rfl) (fun _ _ _ h => h) (Or.inl ⟨by rfl, ?_⟩) ?_ ?_; rotate_left; (focus intro w'; go_simp; with_reducible rfl); rotate_left; (focus simp only [Act.put, List.setIfInBounds_toArray, List.set_cons_zero, List.set_cons_succ, i64_w, i32_w, u8_w, u8_tm, u8_c, u8_cm]; rfl)) | (refine pz (v := undef) (a' := ?_) HT_ rfl rfl (by kernel_rfl) (fun _ _ _ h => h) (Or.inr ⟨by rfl, rfl⟩) ?_ ?_; rotate_left; (focus simp only [Act.put, List.setIfInBounds_toArray, List.set_cons_zero, List.set_cons_succ, i64_w, i32_w, u8_w, u8_tm, u8_c, u8_cm]; rfl)))
      refine go_out ?_
      refine done_ (done_of HT_.out (by kernel_rfl)) ?_
      try go_wp2
      go_ret
      exact ⟨by first | rfl | (simp [errW_none, errW_some] <;> rfl) | (simp [*, errW_none, errW_some] <;> rfl), by repeat (first | (with_reducible first | exact HB.out | apply q3 | apply q4 | apply q5 | refine q6 ?_ GE252.out) | exact HB.out)⟩
    ·rw [if_neg c27] at H
     have c27b0 : (a0_0 == 3) = false := beq_eq_false_iff_ne.mpr c27
     have c27b1 : (a0_0 != 3) = true := bne_iff_ne.mpr c27
     by_cases c42 : a0_0 = 1
     ·rw [if_pos c42] at H
      have c42b0 : (a0_0 == 1) = true := beq_iff_eq.mpr c42
      have c42b1 : (a0_0 != 1) = false := bne_eq_false_iff_eq.mpr c42
      clear c42
      by_cases c43 : a0_1 = a3
      ·rw [if_pos c43] at H
       have c43b0 : (a0_1 == a3) = true := beq_iff_eq.mpr c43
       have c43b1 : (a0_1 != a3) = false := bne_eq_false_iff_eq.mpr c43
       clear c43
       by_cases c44 : a0_2 = 0
       ·rw [if_pos c44] at H
        have c44b0 : (a0_2 == 0) = true := beq_iff_eq.mpr c44
        have c44b1 : (a0_2 != 0) = false := bne_eq_false_iff_eq.mpr c44
        clear c44
        obtain rfl := Option.some.inj H
        have hcz45_0 : wc.cell? ⟨gb252, 0, none⟩ = some (.int .i64 a0_0) := (q9 BK252.out 0).trans rfl
        have hcz45_1 : wc.cell? ⟨gb252, 1, none⟩ = some (.int .i64 a0_1) := (q9 BK252.out 1).trans rfl
        have hcz45_2 : wc.cell? ⟨gb252, 2, none⟩ = some (.int .i64 a0_2) := (q9 BK252.out 2).trans rfl
        have hfz45_0 := q11 BK252.out 0
        have hfz45_1 := q11 BK252.out 1
        have hfz45_2 := q11 BK252.out 2
        go_wp2
        go_ret
        exact ⟨by first | rfl | (simp [errW_none, errW_some] <;> rfl) | (simp [*, errW_none, errW_some] <;> rfl), by repeat (first | (with_reducible first | exact HB.out | apply q3 | apply q4 | apply q5 | refine q6 ?_ GE252.out) | exact HB.out)⟩
       ·rw [if_neg c44] at H
        have c44b0 : (a0_2 == 0) = false := beq_eq_false_iff_ne.mpr c44
        have c44b1 : (a0_2 != 0) = true := bne_iff_ne.mpr c44
        obtain rfl := Option.some.inj H
        have hcz46_0 : wc.cell? ⟨gb252, 0, none⟩ = some (.int .i64 a0_0) := (q9 BK252.out 0).trans rfl
        have hcz46_1 : wc.cell? ⟨gb252, 1, none⟩ = some (.int .i64 a0_1) := (q9 BK252.out 1).trans rfl
        have hcz46_2 : wc.cell? ⟨gb252, 2, none⟩ = some (.int .i64 a0_2) := (q9 BK252.out 2).trans rfl
        have hfz46_0 := q11 BK252.out 0
        have hfz46_1 := q11 BK252.out 1
        have hfz46_2 := q11 BK252.out 2
        go_wp2
        go_ret
        exact ⟨by first | rfl | (simp [errW_none, errW_some] <;> rfl) | (simp [*, errW_none, errW_some] <;> rfl), by repeat (first | (with_reducible first | exact HB.out | apply q3 | apply q4 | apply q5 | refine q6 ?_ GE252.out) | exact HB.out)⟩
      ·rw [if_neg c43] at H
       have c43b0 : (a0_1 == a3) = false := beq_eq_false_iff_ne.mpr c43
       have c43b1 : (a0_1 != a3) = true := bne_iff_ne.mpr c43
       obtain rfl := Option.some.inj H
       have hcz47_0 : wc.cell? ⟨gb252, 0, none⟩ = some (.int .i64 a0_0) := (q9 BK252.out 0).trans rfl
       have hcz47_1 : wc.cell? ⟨gb252, 1, none⟩ = some (.int .i64 a0_1) := (q9 BK252.out 1).trans rfl
       have hcz47_2 : wc.cell? ⟨gb252, 2, none⟩ = some (.int .i64 a0_2) := (q9 BK252.out 2).trans rfl
       have hfz47_0 := q11 BK252.out 0
       have hfz47_1 := q11 BK252.out 1
       have hfz47_2 := q11 BK252.out 2
       go_wp2
       go_ret
       exact ⟨by first | rfl | (simp [errW_none, errW_some] <;> rfl) | (simp [*, errW_none, errW_some] <;> rfl), by repeat (first | (with_reducible first | exact HB.out | apply q3 | apply q4 | apply q5 | refine q6 ?_ GE252.out) | exact HB.out)⟩
     ·rw [if_neg c42] at H
      have c42b0 : (a0_0 == 1) = false := beq_eq_false_iff_ne.mpr c42
      have c42b1 : (a0_0 != 1) = true := bne_iff_ne.mpr c42
      by_cases c48 : a0_0 = 2
      ·rw [if_pos c48] at H
       have c48b0 : (a0_0 == 2) = true := beq_iff_eq.mpr c48
       have c48b1 : (a0_0 != 2) = false := bne_eq_false_iff_eq.mpr c48
       clear c48
       by_cases c49 : a0_2 = a4
       ·rw [if_pos c49] at H
        have c49b0 : (a0_2 == a4) = true := beq_iff_eq.mpr c49
        have c49b1 : (a0_2 != a4) = false := bne_eq_false_iff_eq.mpr c49
        clear c49
        by_cases c50 : a0_1 = 0
        ·rw [if_pos c50] at H
         have c50b0 : (a0_1 == 0) = true := beq_iff_eq.mpr c50
         have c50b1 : (a0_1 != 0) = false := bne_eq_false_iff_eq.mpr c50
         clear c50
         obtain rfl := Option.some.inj H
         have hcz51_0 : wc.cell? ⟨gb252, 0, none⟩ = some (.int .i64 a0_0) := (q9 BK252.out 0).trans rfl
         have hcz51_1 : wc.cell? ⟨gb252, 1, none⟩ = some (.int .i64 a0_1) := (q9 BK252.out 1).trans rfl
         have hcz51_2 : wc.cell? ⟨gb252, 2, none⟩ = some (.int .i64 a0_2) := (q9 BK252.out 2).trans rfl
         have hfz51_0 := q11 BK252.out 0
         have hfz51_1 := q11 BK252.out 1
         have hfz51_2 := q11 BK252.out 2
         go_wp2
         go_ret
         exact ⟨by first | rfl | (simp [errW_none, errW_some] <;> rfl) | (simp [*, errW_none, errW_some] <;> rfl), by repeat (first | (with_reducible first | exact HB.out | apply q3 | apply q4 | apply q5 | refine q6 ?_ GE252.out) | exact HB.out)⟩
        ·rw [if_neg c50] at H
         have c50b0 : (a0_1 == 0) = false := beq_eq_false_iff_ne.mpr c50
         have c50b1 : (a0_1 != 0) = true := bne_iff_ne.mpr c50
         obtain rfl := Option.some.inj H
         have hcz52_0 : wc.cell? ⟨gb252, 0, none⟩ = some (.int .i64 a0_0) := (q9 BK252.out 0).trans rfl
         have hcz52_1 : wc.cell? ⟨gb252, 1, none⟩ = some (.int .i64 a0_1) := (q9 BK252.out 1).trans rfl
         have hcz52_2 : wc.cell? ⟨gb252, 2, none⟩ = some (.int .i64 a0_2) := (q9 BK252.out 2).trans rfl
         have hfz52_0 := q11 BK252.out 0
         have hfz52_1 := q11 BK252.out 1
         have hfz52_2 := q11 BK252.out 2
         go_wp2
         go_ret
         exact ⟨by first | rfl | (simp [errW_none, errW_some] <;> rfl) | (simp [*, errW_none, errW_some] <;> rfl), by repeat (first | (with_reducible first | exact HB.out | apply q3 | apply q4 | apply q5 | refine q6 ?_ GE252.out) | exact HB.out)⟩
       ·rw [if_neg c49] at H
        have c49b0 : (a0_2 == a4) = false := beq_eq_false_iff_ne.mpr c49
        have c49b1 : (a0_2 != a4) = true := bne_iff_ne.mpr c49
        obtain rfl := Option.some.inj H
        have hcz53_0 : wc.cell? ⟨gb252, 0, none⟩ = some (.int .i64 a0_0) := (q9 BK252.out 0).trans rfl
        have hcz53_1 : wc.cell? ⟨gb252, 1, none⟩ = some (.int .i64 a0_1) := (q9 BK252.out 1).trans rfl
        have hcz53_2 : wc.cell? ⟨gb252, 2, none⟩ = some (.int .i64 a0_2) := (q9 BK252.out 2).trans rfl
        have hfz53_0 := q11 BK252.out 0
        have hfz53_1 := q11 BK252.out 1
        have hfz53_2 := q11 BK252.out 2
        go_wp2
        go_ret
        exact ⟨by first | rfl | (simp [errW_none, errW_some] <;> rfl) | (simp [*, errW_none, errW_some] <;> rfl), by repeat (first | (with_reducible first | exact HB.out | apply q3 | apply q4 | apply q5 | refine q6 ?_ GE252.out) | exact HB.out)⟩
      ·rw [if_neg c48] at H
       have c48b0 : (a0_0 == 2) = false := beq_eq_false_iff_ne.mpr c48
       have c48b1 : (a0_0 != 2) = true := bne_iff_ne.mpr c48
       obtain rfl := Option.some.inj H
       have hcz54_0 : wc.cell? ⟨gb252, 0, none⟩ = some (.int .i64 a0_0) := (q9 BK252.out 0).trans rfl
       have hcz54_1 : wc.cell? ⟨gb252, 1, none⟩ = some (.int .i64 a0_1) := (q9 BK252.out 1).trans rfl
       have hcz54_2 : wc.cell? ⟨gb252, 2, none⟩ = some (.int .i64 a0_2) := (q9 BK252.out 2).trans rfl
       have hfz54_0 := q11 BK252.out 0
       have hfz54_1 := q11 BK252.out 1
       have hfz54_2 := q11 BK252.out 2
       go_wp2
       go_ret
       exact ⟨by first | rfl | (simp [errW_none, errW_some] <;> rfl) | (simp [*, errW_none, errW_some] <;> rfl), by repeat (first | (with_reducible first | exact HB.out | apply q3 | apply q4 | apply q5 | refine q6 ?_ GE252.out) | exact HB.out)⟩

end Go.Proofs.Ytgjmljjnminefaa.QCompareApplies
