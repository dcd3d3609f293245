import Derived.Lib.SliceRun
import Derived.Test.YtgjmljjnminefaaQCPx0
import Derived.Test.YtgjmljjnminefaaQCPx4
import Derived.Test.YtgjmljjnminefaaQCPx10
import Derived.Test.YtgjmljjnminefaaFGrowCP
import Derived.Test.YtgjmljjnminefaaArrEq
import Derived.Test.YtgjmljjnminefaaZip
import Derived.Test.YtgjmljjnminefaaZip2
namespace Go.Proofs.Ytgjmljjnminefaa.QCP
open Go.Proofs.Ytgjmljjnminefaa.Zip2 Go.Proofs.Ytgjmljjnminefaa.Zip Go.RowKit Go.Proofs.YtgjmljjnminefaaW.PrintWords Go.Proofs.YtgjmljjnminefaaW.PrintLast Go.Proofs.YtgjmljjnminefaaW.PrintMore
attribute [local go_sem] max2_int min2_int max_two min_two max_three min_three max_four min_four   -- for this text's walks alone
set_option linter.unusedVariables false
set_option linter.unusedSimpArgs false

mutual
def compare_Patched.j1 : Nat → List (S69) → List (S69) → Int → Int → Option (Int × Int × (List (S69)))
 | 0, _, _, _, _ => none
 | k + 1, x0, x1, x5, x6 => compare_Patched.l1 k x0 x1 x5 x6 0
def compare_Patched.l1 : Nat → List (S69) → List (S69) → Int → Int → Int → Option (Int × Int × (List (S69)))
 | 0, _, _, _, _, _ => none
 | k + 1, x0, x1, x5, x6, x7 => if x7 < (wrap64 (x5 - x6)) then (if 0 ≤ (wrap64 ((wrap64 ((x0.length : Int) - 1)) - x7)) then (if (wrap64 ((wrap64 ((x0.length : Int) - 1)) - x7)) < (x0.length : Int) then (if 0 ≤ (wrap64 ((wrap64 ((x1.length : Int) - 1)) - x7)) then (if (wrap64 ((wrap64 ((x1.length : Int) - 1)) - x7)) < (x1.length : Int) then ((compare_equal.f k ((rd_T69 x0 (wrap64 ((wrap64 ((x0.length : Int) - 1)) - x7))).f0) ((rd_T69 x0 (wrap64 ((wrap64 ((x0.length : Int) - 1)) - x7))).f1) ((rd_T69 x0 (wrap64 ((wrap64 ((x0.length : Int) - 1)) - x7))).f2) ((rd_T69 x0 (wrap64 ((wrap64 ((x0.length : Int) - 1)) - x7))).f3) ((rd_T69 x0 (wrap64 ((wrap64 ((x0.length : Int) - 1)) - x7))).f4) ((rd_T69 x0 (wrap64 ((wrap64 ((x0.length : Int) - 1)) - x7))).f5) ((rd_T69 x0 (wrap64 ((wrap64 ((x0.length : Int) - 1)) - x7))).f6) ((rd_T69 x0 (wrap64 ((wrap64 ((x0.length : Int) - 1)) - x7))).f7) ((rd_T69 x0 (wrap64 ((wrap64 ((x0.length : Int) - 1)) - x7))).f8) ((rd_T69 x1 (wrap64 ((wrap64 ((x1.length : Int) - 1)) - x7))).f0) ((rd_T69 x1 (wrap64 ((wrap64 ((x1.length : Int) - 1)) - x7))).f1) ((rd_T69 x1 (wrap64 ((wrap64 ((x1.length : Int) - 1)) - x7))).f2) ((rd_T69 x1 (wrap64 ((wrap64 ((x1.length : Int) - 1)) - x7))).f3) ((rd_T69 x1 (wrap64 ((wrap64 ((x1.length : Int) - 1)) - x7))).f4) ((rd_T69 x1 (wrap64 ((wrap64 ((x1.length : Int) - 1)) - x7))).f5) ((rd_T69 x1 (wrap64 ((wrap64 ((x1.length : Int) - 1)) - x7))).f6) ((rd_T69 x1 (wrap64 ((wrap64 ((x1.length : Int) - 1)) - x7))).f7) ((rd_T69 x1 (wrap64 ((wrap64 ((x1.length : Int) - 1)) - x7))).f8)).bind fun t261 => (if t261 = true then (compare_Patched.l1 k x0 x1 x5 x6 (wrap64 (x7 + 1))) else (if 0 ≤ x6 then (if x6 ≤ (wrap64 ((x1.length : Int) - x7)) then (if (wrap64 ((x1.length : Int) - x7)) ≤ (x1.length : Int) then ((compare_own.f k ((x1.take ((wrap64 ((x1.length : Int) - x7)) : Int).toNat).drop (x6 : Int).toNat)).bind fun t267 => (some (x6, wrap64 ((wrap64 ((x0.length : Int) - x6)) - x7), t267))) else (none)) else (none)) else (none)))) else (none)) else (none)) else (none)) else (none)) else (if 0 ≤ x6 then (if x6 ≤ (wrap64 ((x1.length : Int) - x7)) then (if (wrap64 ((x1.length : Int) - x7)) ≤ (x1.length : Int) then ((compare_own.f k ((x1.take ((wrap64 ((x1.length : Int) - x7)) : Int).toNat).drop (x6 : Int).toNat)).bind fun t275 => (some (x6, wrap64 ((wrap64 ((x0.length : Int) - x6)) - x7), t275))) else (none)) else (none)) else (none))
def compare_Patched.l0 : Nat → List (S69) → List (S69) → Int → Int → Option (Int × Int × (List (S69)))
 | 0, _, _, _, _ => none
 | k + 1, x0, x1, x5, x6 => if x6 < x5 then (if 0 ≤ x6 then (if x6 < (x0.length : Int) then (if x6 < (x1.length : Int) then ((compare_equal.f k ((rd_T69 x0 x6).f0) ((rd_T69 x0 x6).f1) ((rd_T69 x0 x6).f2) ((rd_T69 x0 x6).f3) ((rd_T69 x0 x6).f4) ((rd_T69 x0 x6).f5) ((rd_T69 x0 x6).f6) ((rd_T69 x0 x6).f7) ((rd_T69 x0 x6).f8) ((rd_T69 x1 x6).f0) ((rd_T69 x1 x6).f1) ((rd_T69 x1 x6).f2) ((rd_T69 x1 x6).f3) ((rd_T69 x1 x6).f4) ((rd_T69 x1 x6).f5) ((rd_T69 x1 x6).f6) ((rd_T69 x1 x6).f7) ((rd_T69 x1 x6).f8)).bind fun t258 => (if t258 = true then (compare_Patched.l0 k x0 x1 x5 (wrap64 (x6 + 1))) else (compare_Patched.j1 k x0 x1 x5 x6))) else (none)) else (none)) else (none)) else (compare_Patched.j1 k x0 x1 x5 x6)
end
def compare_Patched.f (k : Nat) (l0 : List (S69)) (l1 : List (S69)) : Option (Int × Int × (List (S69))) := compare_Patched.l0 k l0 l1 (mn (l0.length : Int) (l1.length : Int)) 0
theorem compare_Patched.mono_l : ∀ k, (∀ y0 y1 y2 y3, LeO (compare_Patched.j1 k y0 y1 y2 y3) (compare_Patched.j1 (k + 1) y0 y1 y2 y3)) ∧ (∀ y0 y1 y2 y3 y4, LeO (compare_Patched.l1 k y0 y1 y2 y3 y4) (compare_Patched.l1 (k + 1) y0 y1 y2 y3 y4)) ∧ (∀ y0 y1 y2 y3, LeO (compare_Patched.l0 k y0 y1 y2 y3) (compare_Patched.l0 (k + 1) y0 y1 y2 y3))
 | 0 => ⟨fun _ _ _ _ r h => by simp [compare_Patched.j1] at h, fun _ _ _ _ _ r h => by simp [compare_Patched.l1] at h, fun _ _ _ _ r h => by simp [compare_Patched.l0] at h⟩
 | k + 1 => by
  obtain ⟨ih0, ih1, ih2⟩ := compare_Patched.mono_l k
  refine ⟨?_, ?_, ?_⟩
  ·intro y0 y1 y2 y3
   unfold compare_Patched.j1
   repeat' first
   | (with_reducible exact ih0 _ _ _ _)
   | (with_reducible exact ih1 _ _ _ _ _)
   | (with_reducible exact ih2 _ _ _ _)
   | (with_reducible exact compare_equal.mono _ _ _ _ _ _ _ _ _ _ _ _ _ _ _ _ _ _ _)
   | (with_reducible exact compare_own.mono _ _)
   | (with_reducible exact LeO.refl _)
   | (with_reducible exact LeO.none _)
   | (with_reducible refine LeO.ite ?_ ?_)
   | (with_reducible refine LeO.bind ?_ (fun _ => ?_))
   | exact ih0 _ _ _ _
   | exact ih1 _ _ _ _ _
   | exact ih2 _ _ _ _
   | exact compare_equal.mono _ _ _ _ _ _ _ _ _ _ _ _ _ _ _ _ _ _ _
   | exact compare_own.mono _ _
   | exact LeO.none _
   | refine LeO.ite ?_ ?_
   | refine LeO.bind ?_ (fun _ => ?_)
  ·intro y0 y1 y2 y3 y4
   unfold compare_Patched.l1
   repeat' first
   | (with_reducible exact ih0 _ _ _ _)
   | (with_reducible exact ih1 _ _ _ _ _)
   | (with_reducible exact ih2 _ _ _ _)
   | (with_reducible exact compare_equal.mono _ _ _ _ _ _ _ _ _ _ _ _ _ _ _ _ _ _ _)
   | (with_reducible exact compare_own.mono _ _)
   | (with_reducible exact LeO.refl _)
   | (with_reducible exact LeO.none _)
   | (with_reducible refine LeO.ite ?_ ?_)
   | (with_reducible refine LeO.bind ?_ (fun _ => ?_))
   | exact ih0 _ _ _ _
   | exact ih1 _ _ _ _ _
   | exact ih2 _ _ _ _
   | exact compare_equal.mono _ _ _ _ _ _ _ _ _ _ _ _ _ _ _ _ _ _ _
   | exact compare_own.mono _ _
   | exact LeO.none _
   | refine LeO.ite ?_ ?_
   | refine LeO.bind ?_ (fun _ => ?_)
  ·intro y0 y1 y2 y3
   unfold compare_Patched.l0
   repeat' first
   | (with_reducible exact ih0 _ _ _ _)
   | (with_reducible exact ih1 _ _ _ _ _)
   | (with_reducible exact ih2 _ _ _ _)
   | (with_reducible exact compare_equal.mono _ _ _ _ _ _ _ _ _ _ _ _ _ _ _ _ _ _ _)
   | (with_reducible exact compare_own.mono _ _)
   | (with_reducible exact LeO.refl _)
   | (with_reducible exact LeO.none _)
   | (with_reducible refine LeO.ite ?_ ?_)
   | (with_reducible refine LeO.bind ?_ (fun _ => ?_))
   | exact ih0 _ _ _ _
   | exact ih1 _ _ _ _ _
   | exact ih2 _ _ _ _
   | exact compare_equal.mono _ _ _ _ _ _ _ _ _ _ _ _ _ _ _ _ _ _ _
   | exact compare_own.mono _ _
   | exact LeO.none _
   | refine LeO.ite ?_ ?_
   | refine LeO.bind ?_ (fun _ => ?_)
theorem compare_Patched.mono : ∀ a0 a1 k, LeO (compare_Patched.f k a0 a1) (compare_Patched.f (k + 1) a0 a1) := by
 intro a0 a1 k
 obtain ⟨ih0, ih1, ih2⟩ := compare_Patched.mono_l k
 unfold compare_Patched.f
 repeat' first
   | (with_reducible exact ih0 _ _ _ _)
   | (with_reducible exact ih1 _ _ _ _ _)
   | (with_reducible exact ih2 _ _ _ _)
   | (with_reducible exact compare_equal.mono _ _ _ _ _ _ _ _ _ _ _ _ _ _ _ _ _ _ _)
   | (with_reducible exact compare_own.mono _ _)
   | (with_reducible exact LeO.refl _)
   | (with_reducible exact LeO.none _)
   | (with_reducible refine LeO.ite ?_ ?_)
   | (with_reducible refine LeO.bind ?_ (fun _ => ?_))
   | exact ih0 _ _ _ _
   | exact ih1 _ _ _ _ _
   | exact ih2 _ _ _ _
   | exact compare_equal.mono _ _ _ _ _ _ _ _ _ _ _ _ _ _ _ _ _ _ _
   | exact compare_own.mono _ _
   | exact LeO.none _
   | refine LeO.ite ?_ ?_
   | refine LeO.bind ?_ (fun _ => ?_)
def compare_Patched.T3 : Bool × List (List Nat × List Nat) := (true, [([], []), ([], []), ([0, 1], [0, 1]), ([2], [2]), ([3], [3]), ([3], [3]), ([4, 5, 3], [3, 4, 5]), ([6, 3], [3, 6]), ([3], [3]), ([3], [3]), ([8, 9, 3], [3, 8, 9]), ([10, 3], [3, 10]), ([7, 11, 3, 3], [3, 7, 11]), ([3, 12], [3, 12])])
def compare_Patched.B3 : List Nat := [0, 0, 3, 7, 15, 15, 63, 127, 15, 15, 783, 1807, 4095, 8191]
theorem compare_Patched.tab3 : rtab .any (opsOf Try.f16 3) = compare_Patched.T3 := by kernel_rfl
theorem compare_Patched.bits3 : waitsOk compare_Patched.T3.2 compare_Patched.B3 = true := by kernel_rfl
def compare_Patched.T6 : Bool × List (List Nat × List Nat) := (true, [([], []), ([], []), ([], []), ([1, 2], [1, 2]), ([0, 3], [0, 3]), ([4], [4]), ([5], [5]), ([5], [5]), ([7, 5], [5, 7]), ([8, 5], [5, 8]), ([5], [5]), ([9, 10, 5], [5, 9, 10]), ([6, 11, 5], [5, 6, 11]), ([12, 5], [5, 12]), ([5], [5]), ([5], [5]), ([15, 5], [5, 15]), ([16, 5], [5, 16]), ([5], [5]), ([17, 18, 5], [5, 17, 18]), ([14, 19, 5], [5, 14, 19]), ([20, 5], [5, 20]), ([13, 21, 5, 5], [5, 13, 21]), ([5, 22], [5, 22])])
def compare_Patched.B6 : List Nat := [0, 0, 0, 6, 15, 31, 63, 63, 191, 447, 63, 1983, 4095, 8191, 63, 63, 32831, 98367, 63, 491583, 1032255, 2080831, 4194303, 8388607]
theorem compare_Patched.tab6 : rtab .any (opsOf Try.f16 6) = compare_Patched.T6 := by kernel_rfl
theorem compare_Patched.bits6 : waitsOk compare_Patched.T6.2 compare_Patched.B6 = true := by kernel_rfl
set_option maxHeartbeats 8000000 in
set_option maxRecDepth 100000 in
theorem compare_Patched.calls (k : Nat) (A0 : Option Addr) (c0 : Nat) (l0 : List (S69)) (P1_ : Nat → Prop) (A1 : Option Addr) (c1 : Nat) (l1 : List (S69)) (r1 : Int) (r2 : Int) (r3 : List (S69)) (w : World) (hr0 : Kd.C k69 w A0 l0.length l0) (hc0 : l0.length ≤ c0) (hs1 : Kd.V k69 69 w w.heap.size (fun k_ => P1_ k_) (.slice A1 l1.length c1) l1) (h : compare_Patched.f k l0 l1 = some (r1, r2, r3)) :
  Calls Try.prog 16 #[.slice A0 l0.length c0, .slice A1 l1.length c1] w fun e w' => ∃ v2_ : Value, e = .returned (.agg #[.int .i64 r1, .int .i64 r2, v2_]) ∧ Kd.N k69 69 w' w.heap.size (fun k_ => (P1_ k_ ∨ w.heap.size ≤ k_)) v2_ r3 ∧ Below w.heap.size w w' := by
 have hu39 := Try.underlying39
 have hu69 := Try.underlying69
 have HR0 := q13 hr0
 have HC0 := q13 hc0
 clear hr0 hc0
 have HO1 := q13 (show Kd.V k69 69 w w.heap.size (fun k_ => (P1_ k_ ∨ w.heap.size ≤ k_)) (.slice A1 l1.length c1) l1 from Kd.V_mono hs1 (fun k_ hk => .inl hk))
 have HB := q13 (Below.refl w.heap.size w)
 have H : (compare_Patched.l0 k l0 l1 (mn (l0.length : Int) (l1.length : Int)) 0) = some (r1, r2, r3) := h
 clear h
 obtain ⟨ji3, hji3⟩ : ∃ j_ : Int, (mn (l0.length : Int) (l1.length : Int)) = j_ := ⟨_, rfl⟩
 replace H : (compare_Patched.l0 k l0 l1 ji3 0) = some (r1, r2, r3) := by first | (rw [hji3] at H; exact H) | (simp only [hji3] at H ⊢; exact H)
 (try (have hji3l : 0 ≤ ji3 := by (rw [← hji3]; unfold mn; (repeat' split) <;> omega)))
 (try (have hji3m : 0 ≤ ji3 := by omega))
 have hji3_ : (if (l1.length : Int) < (l0.length : Int) then (l1.length : Int) else (l0.length : Int)) = ji3 := hji3
 (try have hji3_n : (if l1.length < l0.length then (l1.length : Int) else (l0.length : Int)) = ji3 := by rw [← hji3_]; simp only [Int.ofNat_lt])
 have HC4 := q13 H
 clear H
 go_enter Try.func16, Try.ntmps16
 go_upto_block 0 with (first | ((with_reducible refine gate_dst (N := 4) rfl ?_); (try (refine gate_guard (by rfl) ?_; dsimp only)); refine box_event ?hg (N := 4) ?hd (cs := #[.int .i64 0, .int .i64 0, .slice none 0 0]) (t := 39) ?hr ?_; (case hd => rfl); (case hg => rfl); (case hr => first | (go_simp; done) | (go_simp; rfl)); intro gb255 hg w5 hbox hb; have n0_ := q13 (Kd.V_below (Kd.V_elderB (gV HO1) gb255 (Nat.le_of_eq hg.symm)) hb); have n1_ := q13 (q12 (gB HB) hb); have n2_ := q13 (hbox); have n3_ := q13 ((by rw [hg]; exact (q7 (gB HB)) : w.heap.size ≤ gb255)); have n4_ := q13 ((by rw [hg]; exact (q7 (gB HB)) : w.heap.size ≤ gb255)); clear HO1; clear HB; have HO1 := n0_; have HB := n1_; have BK255 := n2_; have GW255 := n3_; have GE255 := n4_; clear n0_ n1_ n2_ n3_ n4_; clear hb hbox hg))
 (try simp only [Act.put, List.setIfInBounds_toArray, List.set_cons_zero, List.set_cons_succ])
 go_cut [6] (fun v6 wc => ∃ (kq : Nat) (x6_3 : Int), v6 = .int .i64 x6_3 ∧ Aside0 (compare_Patched.j1 kq l0 l1 ji3 x6_3 = some (r1, r2, r3)) ∧ Aside0 (kq ≤ k) ∧ Aside0 (Kd.V k69 69 wc w.heap.size (fun k_ => (P1_ k_ ∨ w.heap.size ≤ k_) ∧ k_ ≠ gb255) (.slice A1 l1.length c1) l1) ∧ Aside0 (wc.heap[gb255]? = some (.cells #[.int .i64 0, .int .i64 0, (.slice none 0 0)] 39 (0, 0))) ∧ Aside0 (Below w.heap.size w wc))
 case first =>
  have H := HC4.out
  clear HC4
  have H' := q13 H
  clear H
  go_wp2
  go_loopg [6] k (fun kq v6 w' => ∃ (x6_1 : Int), v6 = .int .i64 x6_1 ∧ Aside0 (compare_Patched.l0 kq l0 l1 ji3 x6_1 = some (r1, r2, r3)) ∧ Aside0 (kq ≤ k) ∧ Aside0 (Kd.V k69 69 w' w.heap.size (fun k_ => (P1_ k_ ∨ w.heap.size ≤ k_) ∧ k_ ≠ gb255) (.slice A1 l1.length c1) l1) ∧ Aside0 (w'.heap[gb255]? = some (.cells #[.int .i64 0, .int .i64 0, (.slice none 0 0)] 39 (0, 0))) ∧ Aside0 (Below w.heap.size w w'))
  case atStart => exact ⟨(0), (by first | rfl | (simp; done) | (simp [*]; done)), H', ⟨q17 _⟩, ⟨by (with_reducible repeat (first | apply Kd.V_alloc | apply Kd.V_drewN | apply Kd.V_drew)); exact HO1.out⟩, ⟨by (with_reducible repeat (first | refine q0 ?_ _ | refine q1 ?_ | refine q2 ?_ _)); exact BK255.out⟩, ⟨by repeat (first | (with_reducible first | exact HB.out | apply q3 | apply q4 | apply q5 | refine q6 ?_ GE255.out) | exact HB.out)⟩⟩
  case round =>
   clear H'
   try clear c1
   try clear p2
   obtain ⟨x6_1, rfl, HA, HK1, HO_1, BK255, HB⟩ := hrel
   cases gk with
   | zero => exact absurd HA.out (by simp [compare_Patched.l0])
   | succ k1 =>
    have H := HA.out
    clear HA
    simp only [compare_Patched.l0] at H
    by_cases c6 : x6_1 < ji3
    ·rw [if_pos c6] at H
     have c6b0 : decide (x6_1 < ji3) = true := decide_eq_true c6
     clear c6
     (first | rw [c6b0] | (simp only [i64_w, i32_w]; rw [c6b0]) | skip)
     by_cases c7 : 0 ≤ x6_1
     ·rw [if_pos c7] at H
      have c7b0 : decide (0 ≤ x6_1) = true := decide_eq_true c7
      clear c7
      by_cases c8 : x6_1 < (l0.length : Int)
      ·rw [if_pos c8] at H
       have c8b0 : decide (x6_1 < (l0.length : Int)) = true := decide_eq_true c8
       clear c8
       by_cases c9 : x6_1 < (l1.length : Int)
       ·rw [if_pos c9] at H
        have c9b0 : decide (x6_1 < (l1.length : Int)) = true := decide_eq_true c9
        clear c9
        replace H := Option.bind_eq_some_iff.mp H
        obtain ⟨t258, A100, H⟩ := H
        replace H : (if t258 = true then (compare_Patched.l0 k1 l0 l1 ji3 (wrap64 (x6_1 + 1))) else (compare_Patched.j1 k1 l0 l1 ji3 x6_1)) = some (r1, r2, r3) := H
        have A10 := q13 A100
        clear A100
        by_cases c11 : t258 = true
        ·subst c11
         have H1 : (compare_Patched.l0 k1 l0 l1 ji3 (wrap64 (x6_1 + 1))) = some (r1, r2, r3) := by rw [if_pos rfl] at H; exact H
         clear H
         have H := H1
         clear H1
         have H' := q13 H
         clear H
         try go_wp2
         have n0_ := q13 (Kd.V_drew HO_1.out)
         have n1_ := q13 (q1 BK255.out)
         have n2_ := q13 (q5 HB.out)
         clear HO_1
         clear BK255
         clear HB
         have HO_1 := n0_
         have BK255 := n1_
         have HB := n2_
         clear n0_ n1_ n2_
         have p256 : 0 ≤ (x6_1 : Int) := q15 (by assumption)
         have qz256 : x6_1 < (l0.length : Int) := q15 (by assumption)
         obtain ⟨ad256, A256_8, c256_8, e256, hx256_0, hx256_1, hx256_2, hx256_3, hx256_4, hx256_5, hx256_6, hx256_7, hx256_8, hl256_8, hi256_8⟩ := at_T69 HR0.out x6_1 p256 qz256
         have hw256_8 := hx256_8
         have hw256_7 := hx256_7
         have hw256_6 := hx256_6
         have hw256_5 := hx256_5
         have hw256_4 := hx256_4
         have hw256_3 := hx256_3
         have hw256_2 := hx256_2
         have hw256_1 := hx256_1
         have hw256_0 := hx256_0
         cases e256
         replace hx256_0 := cl HB.out hx256_0
         replace hx256_1 := cl HB.out hx256_1
         replace hx256_2 := cl HB.out hx256_2
         replace hx256_3 := cl HB.out hx256_3
         replace hx256_4 := cl HB.out hx256_4
         replace hx256_5 := cl HB.out hx256_5
         replace hx256_6 := cl HB.out hx256_6
         replace hx256_7 := cl HB.out hx256_7
         replace hx256_8 := cl HB.out hx256_8
         have HR256_8 := q13 hi256_8
         have HC256_8 := q13 hl256_8
         clear hi256_8 hl256_8
         replace p256 := eq_true p256
         replace qz256 := eq_true qz256
         have p257 : 0 ≤ (x6_1 : Int) := q15 (by assumption)
         have qz257 : x6_1 < (l1.length : Int) := q15 (by assumption)
         obtain ⟨ad257, A257_8, c257_8, e257, hx257_0, hx257_1, hx257_2, hx257_3, hx257_4, hx257_5, hx257_6, hx257_7, hx257_8, hl257_8, hi257_8⟩ := at_T69 (Kd.V_reads' HO_1.out).2.2 x6_1 p257 qz257
         cases e257
         obtain ⟨ce257, hce257, hMe257, hcc257⟩ := Kd.V_get HO_1.out z69 x6_1 p257 (by first | exact qz257 | exact q15 (by assumption) | (have e_ := (Kd.V_reads' HO_1.out).1; omega))
         obtain ⟨ua257_8, uc257_8, rfl, ul257_8, ge257_8⟩ := k69_openF hMe257
         have hv257_8 := hcc257 8 _ rfl
         rw [add_field _ _ 8 (by omega)] at hv257_8
         replace hv257_8 := Option.some.inj (hv257_8.symm.trans hx257_8)
         injection hv257_8 with hva_ hvn_ hvc_
         rw [hva_] at ge257_8
         rw [hvc_] at ul257_8
         have HL257_8 := q13 (show Kd.V (Kd.int .i64) 3 _ w.heap.size _ _ ((rd_T69 l1 x6_1).f8) from Kd.V_mk ul257_8 ge257_8)
         clear hva_ hvn_ hvc_ ge257_8 ul257_8
         clear hcc257 hce257
         have HR257_8 := q13 hi257_8
         have HC257_8 := q13 hl257_8
         clear hi257_8 hl257_8
         replace p257 := eq_true p257
         replace qz257 := eq_true qz257
         refine start_ (n := 14) (S := fun w' => w'.cell? (ad256.add ((x6_1).toNat * 9)) = some (.int .i64 ((rd_T69 l0 x6_1).f0)) ∧ w'.cell? ⟨(ad256.add ((x6_1).toNat * 9)).block, (ad256.add ((x6_1).toNat * 9)).off + 1, none⟩ = some (.int .i64 ((rd_T69 l0 x6_1).f1)) ∧ w'.cell? ⟨(ad256.add ((x6_1).toNat * 9)).block, (ad256.add ((x6_1).toNat * 9)).off + 2, none⟩ = some (.int .i64 ((rd_T69 l0 x6_1).f2)) ∧ w'.cell? ⟨(ad256.add ((x6_1).toNat * 9)).block, (ad256.add ((x6_1).toNat * 9)).off + 3, none⟩ = some (.int .i64 ((rd_T69 l0 x6_1).f3)) ∧ w'.cell? ⟨(ad256.add ((x6_1).toNat * 9)).block, (ad256.add ((x6_1).toNat * 9)).off + 4, none⟩ = some (.int .i64 ((rd_T69 l0 x6_1).f4)) ∧ w'.cell? ⟨(ad256.add ((x6_1).toNat * 9)).block, (ad256.add ((x6_1).toNat * 9)).off + 5, none⟩ = some (.string ((rd_T69 l0 x6_1).f5)) ∧ w'.cell? ⟨(ad256.add ((x6_1).toNat * 9)).block, (ad256.add ((x6_1).toNat * 9)).off + 6, none⟩ = some (.string ((rd_T69 l0 x6_1).f6)) ∧ w'.cell? ⟨(ad256.add ((x6_1).toNat * 9)).block, (ad256.add ((x6_1).toNat * 9)).off + 7, none⟩ = some (.string ((rd_T69 l0 x6_1).f7)) ∧ w'.cell? ⟨(ad256.add ((x6_1).toNat * 9)).block, (ad256.add ((x6_1).toNat * 9)).off + 8, none⟩ = some (.slice A256_8 ((rd_T69 l0 x6_1).f8).length c256_8) ∧ w'.cell? (ad257.add ((x6_1).toNat * 9)) = some (.int .i64 ((rd_T69 l1 x6_1).f0)) ∧ w'.cell? ⟨(ad257.add ((x6_1).toNat * 9)).block, (ad257.add ((x6_1).toNat * 9)).off + 1, none⟩ = some (.int .i64 ((rd_T69 l1 x6_1).f1)) ∧ w'.cell? ⟨(ad257.add ((x6_1).toNat * 9)).block, (ad257.add ((x6_1).toNat * 9)).off + 2, none⟩ = some (.int .i64 ((rd_T69 l1 x6_1).f2)) ∧ w'.cell? ⟨(ad257.add ((x6_1).toNat * 9)).block, (ad257.add ((x6_1).toNat * 9)).off + 3, none⟩ = some (.int .i64 ((rd_T69 l1 x6_1).f3)) ∧ w'.cell? ⟨(ad257.add ((x6_1).toNat * 9)).block, (ad257.add ((x6_1).toNat * 9)).off + 4, none⟩ = some (.int .i64 ((rd_T69 l1 x6_1).f4)) ∧ w'.cell? ⟨(ad257.add ((x6_1).toNat * 9)).block, (ad257.add ((x6_1).toNat * 9)).off + 5, none⟩ = some (.string ((rd_T69 l1 x6_1).f5)) ∧ w'.cell? ⟨(ad257.add ((x6_1).toNat * 9)).block, (ad257.add ((x6_1).toNat * 9)).off + 6, none⟩ = some (.string ((rd_T69 l1 x6_1).f6)) ∧ w'.cell? ⟨(ad257.add ((x6_1).toNat * 9)).block, (ad257.add ((x6_1).toNat * 9)).off + 7, none⟩ = some (.string ((rd_T69 l1 x6_1).f7)) ∧ w'.cell? ⟨(ad257.add ((x6_1).toNat * 9)).block, (ad257.add ((x6_1).toNat * 9)).off + 8, none⟩ = some (.slice A257_8 ((rd_T69 l1 x6_1).f8).length c257_8)) (ds := []) (Array.replicate 14 false) (by kernel_rfl) rfl rfl ⟨(cl HB.out hw256_0), (cl HB.out hw256_1), (cl HB.out hw256_2), (cl HB.out hw256_3), (cl HB.out hw256_4), (cl HB.out hw256_5), (cl HB.out hw256_6), (cl HB.out hw256_7), (cl HB.out hw256_8), hx257_0, hx257_1, hx257_2, hx257_3, hx257_4, hx257_5, hx257_6, hx257_7, hx257_8⟩ (fun hHeld => ?_); refine with_tabW compare_Patched.tab3 compare_Patched.bits3 (fun HT_ HW_ => ?_)
         generalize wr.drew = w12 at HO_1 BK255 HB HL257_8 HR256_8 HR257_8 hx256_0 hx256_1 hx256_2 hx256_3 hx256_4 hx256_5 hx256_6 hx256_7 hx256_8 hx257_0 hx257_1 hx257_2 hx257_3 hx257_4 hx257_5 hx257_6 hx257_7 hx257_8 hHeld ⊢
         refine go_in [0, 1, 2, 3, 4, 5, 6, 8, 9, 10, 7, 11] ?_
         repeat (first | (refine pz (v := ?_) (a' := ?_) HT_ rfl rfl (by kernel_rfl) (fun _ _ _ h => h) (Or.inl ⟨by rfl, ?_⟩) ?_ ?_; rotate_left; (focus intro w'; go_simp; with_reducible rfl); rotate_left; (focus simp only [Act.put, List.setIfInBounds_toArray, List.set_cons_zero, List.set_cons_succ, i64_w, i32_w, u8_w, u8_tm, u8_c, u8_cm]; rfl)) | (refine tz (v := ?_) (a' := ?_) HT_ HW_ rfl rfl hHeld (by kernel_rfl) (fun _ _ _ h => h) (Or.inl ⟨by rfl, ?_⟩) ?_ ?_; rotate_left; (focus rintro w' ⟨s0, s1, s2, s3, s4, s5, s6, s7, s8, s9, s10, s11, s12, s13, s14, s15, s16, s17⟩; go_simp; with_reducible rfl); rotate_left; (focus simp only [Act.put, List.setIfInBounds_toArray, List.set_cons_zero, List.set_cons_succ, i64_w, i32_w, u8_w, u8_tm, u8_c, u8_cm]; rfl)))
         refine go_out ?_
         refine one_ (i := 12) (N := some 25) (fl 14 13 []) rfl rfl (one_of HT_.out (by kernel_rfl)) (by decide) (fun K hK => ?_)
         refine goes_ Try.func33 (by kernel_rfl) rfl #[.agg #[.int .i64 ((rd_T69 l0 x6_1).f0), .int .i64 ((rd_T69 l0 x6_1).f1), .int .i64 ((rd_T69 l0 x6_1).f2), .int .i64 ((rd_T69 l0 x6_1).f3), .int .i64 ((rd_T69 l0 x6_1).f4), .string ((rd_T69 l0 x6_1).f5), .string ((rd_T69 l0 x6_1).f6), .string ((rd_T69 l0 x6_1).f7), .slice A256_8 ((rd_T69 l0 x6_1).f8).length c256_8], .agg #[.int .i64 ((rd_T69 l1 x6_1).f0), .int .i64 ((rd_T69 l1 x6_1).f1), .int .i64 ((rd_T69 l1 x6_1).f2), .int .i64 ((rd_T69 l1 x6_1).f3), .int .i64 ((rd_T69 l1 x6_1).f4), .string ((rd_T69 l1 x6_1).f5), .string ((rd_T69 l1 x6_1).f6), .string ((rd_T69 l1 x6_1).f7), .slice A257_8 ((rd_T69 l1 x6_1).f8).length c257_8]] (by rfl) rfl rfl (by (try simp only [List.map_toArray, List.map_cons, List.map_nil]); first | done | rfl | (simp only [List.length_drop, List.length_take]; rfl)) ?_
         with_reducible refine (compare_equal.calls k1 ((rd_T69 l0 x6_1).f0) ((rd_T69 l0 x6_1).f1) ((rd_T69 l0 x6_1).f2) ((rd_T69 l0 x6_1).f3) ((rd_T69 l0 x6_1).f4) ((rd_T69 l0 x6_1).f5) ((rd_T69 l0 x6_1).f6) ((rd_T69 l0 x6_1).f7) _ _ ((rd_T69 l0 x6_1).f8) ((rd_T69 l1 x6_1).f0) ((rd_T69 l1 x6_1).f1) ((rd_T69 l1 x6_1).f2) ((rd_T69 l1 x6_1).f3) ((rd_T69 l1 x6_1).f4) ((rd_T69 l1 x6_1).f5) ((rd_T69 l1 x6_1).f6) ((rd_T69 l1 x6_1).f7) _ _ ((rd_T69 l1 x6_1).f8) true _ ?side1 ?side2 ?side3 ?side4 A10.out).mono ?_
         (case side1 => repeat (first | exact (Kd.C_below HR256_8.out HB.out) | (with_reducible refine q18 ?_ _) | (with_reducible refine q19 ?_ _) | (with_reducible refine q20 ?_)))
         (case side2 => exact HC256_8.out)
         (case side3 => repeat (first | exact (by repeat (first | (with_reducible exact HR257_8.out) | (with_reducible refine q18 ?_ _) | (with_reducible refine q19 ?_ _) | (with_reducible refine q20 ?_) | exact HR257_8.out)) | (with_reducible refine q18 ?_ _) | (with_reducible refine q19 ?_ _) | (with_reducible refine q20 ?_)))
         (case side4 => exact HC257_8.out)
         rintro e w13 ⟨rfl, hb⟩
         have HS9_ := (hb.cell (q14 _ _ (hHeld.2.2.2.2.2.2.2.2.2.1))).trans (hHeld.2.2.2.2.2.2.2.2.2.1)
         have HS10_ := (hb.cell (q14 _ _ (hHeld.2.2.2.2.2.2.2.2.2.2.1))).trans (hHeld.2.2.2.2.2.2.2.2.2.2.1)
         have HS11_ := (hb.cell (q14 _ _ (hHeld.2.2.2.2.2.2.2.2.2.2.2.1))).trans (hHeld.2.2.2.2.2.2.2.2.2.2.2.1)
         have HS12_ := (hb.cell (q14 _ _ (hHeld.2.2.2.2.2.2.2.2.2.2.2.2.1))).trans (hHeld.2.2.2.2.2.2.2.2.2.2.2.2.1)
         have HS13_ := (hb.cell (q14 _ _ (hHeld.2.2.2.2.2.2.2.2.2.2.2.2.2.1))).trans (hHeld.2.2.2.2.2.2.2.2.2.2.2.2.2.1)
         have HS14_ := (hb.cell (q14 _ _ (hHeld.2.2.2.2.2.2.2.2.2.2.2.2.2.2.1))).trans (hHeld.2.2.2.2.2.2.2.2.2.2.2.2.2.2.1)
         have HS15_ := (hb.cell (q14 _ _ (hHeld.2.2.2.2.2.2.2.2.2.2.2.2.2.2.2.1))).trans (hHeld.2.2.2.2.2.2.2.2.2.2.2.2.2.2.2.1)
         have HS16_ := (hb.cell (q14 _ _ (hHeld.2.2.2.2.2.2.2.2.2.2.2.2.2.2.2.2.1))).trans (hHeld.2.2.2.2.2.2.2.2.2.2.2.2.2.2.2.2.1)
         have HS17_ := (hb.cell (q14 _ _ (hHeld.2.2.2.2.2.2.2.2.2.2.2.2.2.2.2.2.2))).trans (hHeld.2.2.2.2.2.2.2.2.2.2.2.2.2.2.2.2.2)
         refine ⟨_, rfl, ?_⟩
         have n0_ := q13 (Kd.V_below (gV HO_1) hb)
         have n1_ := q13 (Kd.V_below (gV HL257_8) hb)
         have n2_ := q13 (q8 (g := gb255) (o := .cells #[.int .i64 0, .int .i64 0, .slice none 0 0] 39 (0, 0)) (gK BK255) hb)
         have n3_ := q13 (Kd.C_below (by repeat (first | (with_reducible exact HR257_8.out) | (with_reducible refine q18 ?_ _) | (with_reducible refine q19 ?_ _) | (with_reducible refine q20 ?_) | exact HR257_8.out)) hb)
         have n4_ := q13 (q12 (by repeat (first | (with_reducible first | exact HB.out | apply q3 | apply q4 | apply q5 | refine q6 ?_ GE255.out) | exact HB.out)) hb)
         clear HO_1
         clear HL257_8
         clear BK255
         clear HR257_8
         clear HB
         have HO_1 := n0_
         have HL257_8 := n1_
         have BK255 := n2_
         have HR257_8 := n3_
         have HB := n4_
         clear n0_ n1_ n2_ n3_ n4_
         (try clear hb)
         (try clear hb2)
         (try clear hk)
         (try clear hi)
         refine hK.out _ _ ⟨(cl HB.out hw256_0), (cl HB.out hw256_1), (cl HB.out hw256_2), (cl HB.out hw256_3), (cl HB.out hw256_4), (cl HB.out hw256_5), (cl HB.out hw256_6), (cl HB.out hw256_7), (cl HB.out hw256_8), HS9_, HS10_, HS11_, HS12_, HS13_, HS14_, HS15_, HS16_, HS17_⟩ (fun hHeld => ?_)
         clear hK K
         refine norm_ (a' := ?_) ?_ ?_
         rotate_left
         ·show Act.put _ (some 25) _ = _
          simp only [Act.put, List.setIfInBounds_toArray, List.set_cons_zero, List.set_cons_succ, i64_w, i32_w]
          rfl
         refine go_in [13] ?_
         (refine pz (v := ?_) (a' := ?_) HT_ rfl rfl (by kernel_rfl) (fun _ _ _ h => h) (Or.inl ⟨by rfl, ?_⟩) ?_ ?_; rotate_left; (focus intro w'; go_simp; with_reducible rfl); rotate_left; (focus simp only [Act.put, List.setIfInBounds_toArray, List.set_cons_zero, List.set_cons_succ, i64_w, i32_w, u8_w, u8_tm, u8_c, u8_cm]; rfl))
         refine go_out ?_
         refine done_ (done_of HT_.out (by kernel_rfl)) ?_
         try go_wp2
         go_roundg k1
         case measure => have := HK1.out; omega
         case rel => exact ⟨(wrap64 (x6_1 + 1)), (by first | rfl | (simp; done) | (simp [*]; done)), H', ⟨by have := HK1.out; omega⟩, ⟨by (with_reducible repeat (first | apply Kd.V_alloc | apply Kd.V_drewN | apply Kd.V_drew)); exact HO_1.out⟩, ⟨by (with_reducible repeat (first | refine q0 ?_ _ | refine q1 ?_ | refine q2 ?_ _)); exact BK255.out⟩, ⟨by repeat (first | (with_reducible first | exact HB.out | apply q3 | apply q4 | apply q5 | refine q6 ?_ GE255.out) | exact HB.out)⟩⟩
        ·replace c11 := Bool.eq_false_iff.mpr c11
         subst c11
         have H1 : (compare_Patched.j1 k1 l0 l1 ji3 x6_1) = some (r1, r2, r3) := by rw [if_neg (show ¬ (false = true) by decide)] at H; exact H
         clear H
         have H := H1
         clear H1
         have H' := q13 H
         clear H
         try go_wp2
         have n0_ := q13 (Kd.V_drew HO_1.out)
         have n1_ := q13 (q1 BK255.out)
         have n2_ := q13 (q5 HB.out)
         clear HO_1
         clear BK255
         clear HB
         have HO_1 := n0_
         have BK255 := n1_
         have HB := n2_
         clear n0_ n1_ n2_
         have p256 : 0 ≤ (x6_1 : Int) := q15 (by assumption)
         have qz256 : x6_1 < (l0.length : Int) := q15 (by assumption)
         obtain ⟨ad256, A256_8, c256_8, e256, hx256_0, hx256_1, hx256_2, hx256_3, hx256_4, hx256_5, hx256_6, hx256_7, hx256_8, hl256_8, hi256_8⟩ := at_T69 HR0.out x6_1 p256 qz256
         have hw256_8 := hx256_8
         have hw256_7 := hx256_7
         have hw256_6 := hx256_6
         have hw256_5 := hx256_5
         have hw256_4 := hx256_4
         have hw256_3 := hx256_3
         have hw256_2 := hx256_2
         have hw256_1 := hx256_1
         have hw256_0 := hx256_0
         cases e256
         replace hx256_0 := cl HB.out hx256_0
         replace hx256_1 := cl HB.out hx256_1
         replace hx256_2 := cl HB.out hx256_2
         replace hx256_3 := cl HB.out hx256_3
         replace hx256_4 := cl HB.out hx256_4
         replace hx256_5 := cl HB.out hx256_5
         replace hx256_6 := cl HB.out hx256_6
         replace hx256_7 := cl HB.out hx256_7
         replace hx256_8 := cl HB.out hx256_8
         have HR256_8 := q13 hi256_8
         have HC256_8 := q13 hl256_8
         clear hi256_8 hl256_8
         replace p256 := eq_true p256
         replace qz256 := eq_true qz256
         have p257 : 0 ≤ (x6_1 : Int) := q15 (by assumption)
         have qz257 : x6_1 < (l1.length : Int) := q15 (by assumption)
         obtain ⟨ad257, A257_8, c257_8, e257, hx257_0, hx257_1, hx257_2, hx257_3, hx257_4, hx257_5, hx257_6, hx257_7, hx257_8, hl257_8, hi257_8⟩ := at_T69 (Kd.V_reads' HO_1.out).2.2 x6_1 p257 qz257
         cases e257
         obtain ⟨ce257, hce257, hMe257, hcc257⟩ := Kd.V_get HO_1.out z69 x6_1 p257 (by first | exact qz257 | exact q15 (by assumption) | (have e_ := (Kd.V_reads' HO_1.out).1; omega))
         obtain ⟨ua257_8, uc257_8, rfl, ul257_8, ge257_8⟩ := k69_openF hMe257
         have hv257_8 := hcc257 8 _ rfl
         rw [add_field _ _ 8 (by omega)] at hv257_8
         replace hv257_8 := Option.some.inj (hv257_8.symm.trans hx257_8)
         injection hv257_8 with hva_ hvn_ hvc_
         rw [hva_] at ge257_8
         rw [hvc_] at ul257_8
         have HL257_8 := q13 (show Kd.V (Kd.int .i64) 3 _ w.heap.size _ _ ((rd_T69 l1 x6_1).f8) from Kd.V_mk ul257_8 ge257_8)
         clear hva_ hvn_ hvc_ ge257_8 ul257_8
         clear hcc257 hce257
         have HR257_8 := q13 hi257_8
         have HC257_8 := q13 hl257_8
         clear hi257_8 hl257_8
         replace p257 := eq_true p257
         replace qz257 := eq_true qz257
         refine start_ (n := 14) (S := fun w' => w'.cell? (ad256.add ((x6_1).toNat * 9)) = some (.int .i64 ((rd_T69 l0 x6_1).f0)) ∧ w'.cell? ⟨(ad256.add ((x6_1).toNat * 9)).block, (ad256.add ((x6_1).toNat * 9)).off + 1, none⟩ = some (.int .i64 ((rd_T69 l0 x6_1).f1)) ∧ w'.cell? ⟨(ad256.add ((x6_1).toNat * 9)).block, (ad256.add ((x6_1).toNat * 9)).off + 2, none⟩ = some (.int .i64 ((rd_T69 l0 x6_1).f2)) ∧ w'.cell? ⟨(ad256.add ((x6_1).toNat * 9)).block, (ad256.add ((x6_1).toNat * 9)).off + 3, none⟩ = some (.int .i64 ((rd_T69 l0 x6_1).f3)) ∧ w'.cell? ⟨(ad256.add ((x6_1).toNat * 9)).block, (ad256.add ((x6_1).toNat * 9)).off + 4, none⟩ = some (.int .i64 ((rd_T69 l0 x6_1).f4)) ∧ w'.cell? ⟨(ad256.add ((x6_1).toNat * 9)).block, (ad256.add ((x6_1).toNat * 9)).off + 5, none⟩ = some (.string ((rd_T69 l0 x6_1).f5)) ∧ w'.cell? ⟨(ad256.add ((x6_1).toNat * 9)).block, (ad256.add ((x6_1).toNat * 9)).off + 6, none⟩ = some (.string ((rd_T69 l0 x6_1).f6)) ∧ w'.cell? ⟨(ad256.add ((x6_1).toNat * 9)).block, (ad256.add ((x6_1).toNat * 9)).off + 7, none⟩ = some (.string ((rd_T69 l0 x6_1).f7)) ∧ w'.cell? ⟨(ad256.add ((x6_1).toNat * 9)).block, (ad256.add ((x6_1).toNat * 9)).off + 8, none⟩ = some (.slice A256_8 ((rd_T69 l0 x6_1).f8).length c256_8) ∧ w'.cell? (ad257.add ((x6_1).toNat * 9)) = some (.int .i64 ((rd_T69 l1 x6_1).f0)) ∧ w'.cell? ⟨(ad257.add ((x6_1).toNat * 9)).block, (ad257.add ((x6_1).toNat * 9)).off + 1, none⟩ = some (.int .i64 ((rd_T69 l1 x6_1).f1)) ∧ w'.cell? ⟨(ad257.add ((x6_1).toNat * 9)).block, (ad257.add ((x6_1).toNat * 9)).off + 2, none⟩ = some (.int .i64 ((rd_T69 l1 x6_1).f2)) ∧ w'.cell? ⟨(ad257.add ((x6_1).toNat * 9)).block, (ad257.add ((x6_1).toNat * 9)).off + 3, none⟩ = some (.int .i64 ((rd_T69 l1 x6_1).f3)) ∧ w'.cell? ⟨(ad257.add ((x6_1).toNat * 9)).block, (ad257.add ((x6_1).toNat * 9)).off + 4, none⟩ = some (.int .i64 ((rd_T69 l1 x6_1).f4)) ∧ w'.cell? ⟨(ad257.add ((x6_1).toNat * 9)).block, (ad257.add ((x6_1).toNat * 9)).off + 5, none⟩ = some (.string ((rd_T69 l1 x6_1).f5)) ∧ w'.cell? ⟨(ad257.add ((x6_1).toNat * 9)).block, (ad257.add ((x6_1).toNat * 9)).off + 6, none⟩ = some (.string ((rd_T69 l1 x6_1).f6)) ∧ w'.cell? ⟨(ad257.add ((x6_1).toNat * 9)).block, (ad257.add ((x6_1).toNat * 9)).off + 7, none⟩ = some (.string ((rd_T69 l1 x6_1).f7)) ∧ w'.cell? ⟨(ad257.add ((x6_1).toNat * 9)).block, (ad257.add ((x6_1).toNat * 9)).off + 8, none⟩ = some (.slice A257_8 ((rd_T69 l1 x6_1).f8).length c257_8)) (ds := []) (Array.replicate 14 false) (by kernel_rfl) rfl rfl ⟨(cl HB.out hw256_0), (cl HB.out hw256_1), (cl HB.out hw256_2), (cl HB.out hw256_3), (cl HB.out hw256_4), (cl HB.out hw256_5), (cl HB.out hw256_6), (cl HB.out hw256_7), (cl HB.out hw256_8), hx257_0, hx257_1, hx257_2, hx257_3, hx257_4, hx257_5, hx257_6, hx257_7, hx257_8⟩ (fun hHeld => ?_); refine with_tabW compare_Patched.tab3 compare_Patched.bits3 (fun HT_ HW_ => ?_)
         generalize wr.drew = w14 at HO_1 BK255 HB HL257_8 HR256_8 HR257_8 hx256_0 hx256_1 hx256_2 hx256_3 hx256_4 hx256_5 hx256_6 hx256_7 hx256_8 hx257_0 hx257_1 hx257_2 hx257_3 hx257_4 hx257_5 hx257_6 hx257_7 hx257_8 hHeld ⊢
         refine go_in [0, 1, 2, 3, 4, 5, 6, 8, 9, 10, 7, 11] ?_
         repeat (first | (refine pz (v := ?_) (a' := ?_) HT_ rfl rfl (by kernel_rfl) (fun _ _ _ h => h) (Or.inl ⟨by rfl, ?_⟩) ?_ ?_; rotate_left; (focus intro w'; go_simp; with_reducible rfl); rotate_left; (focus simp only [Act.put, List.setIfInBounds_toArray, List.set_cons_zero, List.set_cons_succ, i64_w, i32_w, u8_w, u8_tm, u8_c, u8_cm]; rfl)) | (refine tz (v := ?_) (a' := ?_) HT_ HW_ rfl rfl hHeld (by kernel_rfl) (fun _ _ _ h => h) (Or.inl ⟨by rfl, ?_⟩) ?_ ?_; rotate_left; (focus rintro w' ⟨s0, s1, s2, s3, s4, s5, s6, s7, s8, s9, s10, s11, s12, s13, s14, s15, s16, s17⟩; go_simp; with_reducible rfl); rotate_left; (focus simp only [Act.put, List.setIfInBounds_toArray, List.set_cons_zero, List.set_cons_succ, i64_w, i32_w, u8_w, u8_tm, u8_c, u8_cm]; rfl)))
         refine go_out ?_
         refine one_ (i := 12) (N := some 25) (fl 14 13 []) rfl rfl (one_of HT_.out (by kernel_rfl)) (by decide) (fun K hK => ?_)
         refine goes_ Try.func33 (by kernel_rfl) rfl #[.agg #[.int .i64 ((rd_T69 l0 x6_1).f0), .int .i64 ((rd_T69 l0 x6_1).f1), .int .i64 ((rd_T69 l0 x6_1).f2), .int .i64 ((rd_T69 l0 x6_1).f3), .int .i64 ((rd_T69 l0 x6_1).f4), .string ((rd_T69 l0 x6_1).f5), .string ((rd_T69 l0 x6_1).f6), .string ((rd_T69 l0 x6_1).f7), .slice A256_8 ((rd_T69 l0 x6_1).f8).length c256_8], .agg #[.int .i64 ((rd_T69 l1 x6_1).f0), .int .i64 ((rd_T69 l1 x6_1).f1), .int .i64 ((rd_T69 l1 x6_1).f2), .int .i64 ((rd_T69 l1 x6_1).f3), .int .i64 ((rd_T69 l1 x6_1).f4), .string ((rd_T69 l1 x6_1).f5), .string ((rd_T69 l1 x6_1).f6), .string ((rd_T69 l1 x6_1).f7), .slice A257_8 ((rd_T69 l1 x6_1).f8).length c257_8]] (by rfl) rfl rfl (by (try simp only [List.map_toArray, List.map_cons, List.map_nil]); first | done | rfl | (simp only [List.length_drop, List.length_take]; rfl)) ?_
         with_reducible refine (compare_equal.calls k1 ((rd_T69 l0 x6_1).f0) ((rd_T69 l0 x6_1).f1) ((rd_T69 l0 x6_1).f2) ((rd_T69 l0 x6_1).f3) ((rd_T69 l0 x6_1).f4) ((rd_T69 l0 x6_1).f5) ((rd_T69 l0 x6_1).f6) ((rd_T69 l0 x6_1).f7) _ _ ((rd_T69 l0 x6_1).f8) ((rd_T69 l1 x6_1).f0) ((rd_T69 l1 x6_1).f1) ((rd_T69 l1 x6_1).f2) ((rd_T69 l1 x6_1).f3) ((rd_T69 l1 x6_1).f4) ((rd_T69 l1 x6_1).f5) ((rd_T69 l1 x6_1).f6) ((rd_T69 l1 x6_1).f7) _ _ ((rd_T69 l1 x6_1).f8) false _ ?side1 ?side2 ?side3 ?side4 A10.out).mono ?_
         (case side1 => repeat (first | exact (Kd.C_below HR256_8.out HB.out) | (with_reducible refine q18 ?_ _) | (with_reducible refine q19 ?_ _) | (with_reducible refine q20 ?_)))
         (case side2 => exact HC256_8.out)
         (case side3 => repeat (first | exact (by repeat (first | (with_reducible exact HR257_8.out) | (with_reducible refine q18 ?_ _) | (with_reducible refine q19 ?_ _) | (with_reducible refine q20 ?_) | exact HR257_8.out)) | (with_reducible refine q18 ?_ _) | (with_reducible refine q19 ?_ _) | (with_reducible refine q20 ?_)))
         (case side4 => exact HC257_8.out)
         rintro e w15 ⟨rfl, hb⟩
         have HS9_ := (hb.cell (q14 _ _ (hHeld.2.2.2.2.2.2.2.2.2.1))).trans (hHeld.2.2.2.2.2.2.2.2.2.1)
         have HS10_ := (hb.cell (q14 _ _ (hHeld.2.2.2.2.2.2.2.2.2.2.1))).trans (hHeld.2.2.2.2.2.2.2.2.2.2.1)
         have HS11_ := (hb.cell (q14 _ _ (hHeld.2.2.2.2.2.2.2.2.2.2.2.1))).trans (hHeld.2.2.2.2.2.2.2.2.2.2.2.1)
         have HS12_ := (hb.cell (q14 _ _ (hHeld.2.2.2.2.2.2.2.2.2.2.2.2.1))).trans (hHeld.2.2.2.2.2.2.2.2.2.2.2.2.1)
         have HS13_ := (hb.cell (q14 _ _ (hHeld.2.2.2.2.2.2.2.2.2.2.2.2.2.1))).trans (hHeld.2.2.2.2.2.2.2.2.2.2.2.2.2.1)
         have HS14_ := (hb.cell (q14 _ _ (hHeld.2.2.2.2.2.2.2.2.2.2.2.2.2.2.1))).trans (hHeld.2.2.2.2.2.2.2.2.2.2.2.2.2.2.1)
         have HS15_ := (hb.cell (q14 _ _ (hHeld.2.2.2.2.2.2.2.2.2.2.2.2.2.2.2.1))).trans (hHeld.2.2.2.2.2.2.2.2.2.2.2.2.2.2.2.1)
         have HS16_ := (hb.cell (q14 _ _ (hHeld.2.2.2.2.2.2.2.2.2.2.2.2.2.2.2.2.1))).trans (hHeld.2.2.2.2.2.2.2.2.2.2.2.2.2.2.2.2.1)
         have HS17_ := (hb.cell (q14 _ _ (hHeld.2.2.2.2.2.2.2.2.2.2.2.2.2.2.2.2.2))).trans (hHeld.2.2.2.2.2.2.2.2.2.2.2.2.2.2.2.2.2)
         refine ⟨_, rfl, ?_⟩
         have n0_ := q13 (Kd.V_below (gV HO_1) hb)
         have n1_ := q13 (Kd.V_below (gV HL257_8) hb)
         have n2_ := q13 (q8 (g := gb255) (o := .cells #[.int .i64 0, .int .i64 0, .slice none 0 0] 39 (0, 0)) (gK BK255) hb)
         have n3_ := q13 (Kd.C_below (by repeat (first | (with_reducible exact HR257_8.out) | (with_reducible refine q18 ?_ _) | (with_reducible refine q19 ?_ _) | (with_reducible refine q20 ?_) | exact HR257_8.out)) hb)
         have n4_ := q13 (q12 (by repeat (first | (with_reducible first | exact HB.out | apply q3 | apply q4 | apply q5 | refine q6 ?_ GE255.out) | exact HB.out)) hb)
         clear HO_1
         clear HL257_8
         clear BK255
         clear HR257_8
         clear HB
         have HO_1 := n0_
         have HL257_8 := n1_
         have BK255 := n2_
         have HR257_8 := n3_
         have HB := n4_
         clear n0_ n1_ n2_ n3_ n4_
         (try clear hb)
         (try clear hb2)
         (try clear hk)
         (try clear hi)
         refine hK.out _ _ ⟨(cl HB.out hw256_0), (cl HB.out hw256_1), (cl HB.out hw256_2), (cl HB.out hw256_3), (cl HB.out hw256_4), (cl HB.out hw256_5), (cl HB.out hw256_6), (cl HB.out hw256_7), (cl HB.out hw256_8), HS9_, HS10_, HS11_, HS12_, HS13_, HS14_, HS15_, HS16_, HS17_⟩ (fun hHeld => ?_)
         clear hK K
         refine norm_ (a' := ?_) ?_ ?_
         rotate_left
         ·show Act.put _ (some 25) _ = _
          simp only [Act.put, List.setIfInBounds_toArray, List.set_cons_zero, List.set_cons_succ, i64_w, i32_w]
          rfl
         refine go_in [13] ?_
         (refine pz (v := ?_) (a' := ?_) HT_ rfl rfl (by kernel_rfl) (fun _ _ _ h => h) (Or.inl ⟨by rfl, ?_⟩) ?_ ?_; rotate_left; (focus intro w'; go_simp; with_reducible rfl); rotate_left; (focus simp only [Act.put, List.setIfInBounds_toArray, List.set_cons_zero, List.set_cons_succ, i64_w, i32_w, u8_w, u8_tm, u8_c, u8_cm]; rfl))
         refine go_out ?_
         refine done_ (done_of HT_.out (by kernel_rfl)) ?_
         try go_wp2
         go_meet
         case rel => exact ⟨_, (x6_1), (by first | rfl | (simp; done) | (simp [*]; done)), H', ⟨by have := HK1.out; first | omega | exact q17 _⟩, ⟨by (with_reducible repeat (first | apply Kd.V_alloc | apply Kd.V_drewN | apply Kd.V_drew)); exact HO_1.out⟩, ⟨by (with_reducible repeat (first | refine q0 ?_ _ | refine q1 ?_ | refine q2 ?_ _)); exact BK255.out⟩, ⟨by repeat (first | (with_reducible first | exact HB.out | apply q3 | apply q4 | apply q5 | refine q6 ?_ GE255.out) | exact HB.out)⟩⟩
       ·rw [if_neg c9] at H
        exact absurd H (by simp)
      ·rw [if_neg c8] at H
       exact absurd H (by simp)
     ·rw [if_neg c7] at H
      exact absurd H (by simp)
    ·rw [if_neg c6] at H
     have c6b0 : decide (x6_1 < ji3) = false := decide_eq_false c6
     clear c6
     (first | rw [c6b0] | (simp only [i64_w, i32_w]; rw [c6b0]) | skip)
     have H' := q13 H
     clear H
     try go_wp2
     have n0_ := q13 (Kd.V_drew HO_1.out)
     have n1_ := q13 (q1 BK255.out)
     have n2_ := q13 (q5 HB.out)
     clear HO_1
     clear BK255
     clear HB
     have HO_1 := n0_
     have BK255 := n1_
     have HB := n2_
     clear n0_ n1_ n2_
     refine start_ (n := 14) (S := fun w' => True) (ds := []) (Array.replicate 14 false) (by kernel_rfl) rfl rfl trivial (fun hHeld => ?_); refine with_tabW compare_Patched.tab3 compare_Patched.bits3 (fun HT_ HW_ => ?_)
     generalize wr.drew = w16 at HO_1 BK255 HB hHeld ⊢
     refine go_in [0, 1, 2, 3, 4, 5, 6, 7, 8, 9, 10, 11, 12, 13] ?_
     repeat (first | (refine pz (v := ?_) (a' := ?_) HT_ rfl rfl (by kernel_rfl) (fun _ _ _ h => h) (Or.inl ⟨by rfl, ?_⟩) ?_ ?_; rotate_left; (focus intro w'; go_simp; with_reducible rfl); rotate_left; (focus simp only [Act.put, List.setIfInBounds_toArray, List.set_cons_zero, List.set_cons_succ, i64_w, i32_w, u8_w, u8_tm, u8_c, u8_cm]; rfl)) | (refine pz (v := undef) (a' := ?_) HT_ rfl rfl (by kernel_rfl) (fun _ _ _ h => h) (Or.inr ⟨by rfl, rfl⟩) ?_ ?_; rotate_left; (focus simp only [Act.put, List.setIfInBounds_toArray, List.set_cons_zero, List.set_cons_succ, i64_w, i32_w, u8_w, u8_tm, u8_c, u8_cm]; rfl)))
     refine go_out ?_
     refine done_ (done_of HT_.out (by kernel_rfl)) ?_
     try go_wp2
     go_meet
     case rel => exact ⟨_, (x6_1), (by first | rfl | (simp; done) | (simp [*]; done)), H', ⟨by have := HK1.out; first | omega | exact q17 _⟩, ⟨by (with_reducible repeat (first | apply Kd.V_alloc | apply Kd.V_drewN | apply Kd.V_drew)); exact HO_1.out⟩, ⟨by (with_reducible repeat (first | refine q0 ?_ _ | refine q1 ?_ | refine q2 ?_ _)); exact BK255.out⟩, ⟨by repeat (first | (with_reducible first | exact HB.out | apply q3 | apply q4 | apply q5 | refine q6 ?_ GE255.out) | exact HB.out)⟩⟩
 case rest =>
  clear HC4
  try clear c1
  try clear c2
  try clear p2
  try clear qz2
  try clear hx2
  try clear c3
  try clear c6
  try clear c6b0
  try clear p6
  try clear c7
  try clear c7b0
  try clear c8
  try clear c8b0
  try clear c9
  try clear c9b0
  try clear c11
  try clear c16
  try clear hx256_0
  try clear hx256_1
  try clear hx256_2
  try clear hx256_3
  try clear hx256_4
  try clear hx256_5
  try clear hx256_6
  try clear hx256_7
  try clear hx256_8
  try clear hx257_0
  try clear hx257_1
  try clear hx257_2
  try clear hx257_3
  try clear hx257_4
  try clear hx257_5
  try clear hx257_6
  try clear hx257_7
  try clear hx257_8
  try clear p2
  try clear p256
  try clear p257
  try clear qz256
  try clear qz257
  obtain ⟨kq, x6_3, rfl, HA, HJ3, HO_1, BK255, HB⟩ := hcut
  cases kq with
  | zero => exact absurd HA.out (by simp [compare_Patched.j1])
  | succ kj3 =>
   have H := HA.out
   clear HA
   simp only [compare_Patched.j1] at H
   have H' := q13 H
   clear H
   go_wp2
   go_loopg [7] kj3 (fun kq v7 w' => ∃ (x7_2 : Int), v7 = .int .i64 x7_2 ∧ Aside0 (compare_Patched.l1 kq l0 l1 ji3 x6_3 x7_2 = some (r1, r2, r3)) ∧ Aside0 (kq ≤ kj3) ∧ Aside0 (Kd.V k69 69 w' w.heap.size (fun k_ => (P1_ k_ ∨ w.heap.size ≤ k_) ∧ k_ ≠ gb255) (.slice A1 l1.length c1) l1) ∧ Aside0 (w'.heap[gb255]? = some (.cells #[.int .i64 0, .int .i64 0, (.slice none 0 0)] 39 (0, 0))) ∧ Aside0 (Below w.heap.size w w'))
   case atStart => exact ⟨(0), (by first | rfl | (simp; done) | (simp [*]; done)), H', ⟨q17 _⟩, ⟨by (with_reducible repeat (first | apply Kd.V_alloc | apply Kd.V_drewN | apply Kd.V_drew)); exact HO_1.out⟩, ⟨by (with_reducible repeat (first | refine q0 ?_ _ | refine q1 ?_ | refine q2 ?_ _)); exact BK255.out⟩, ⟨by repeat (first | (with_reducible first | exact HB.out | apply q3 | apply q4 | apply q5 | refine q6 ?_ GE255.out) | exact HB.out)⟩⟩
   case round =>
    clear H'
    try clear c1
    try clear c2
    try clear p2
    try clear qz2
    try clear hx2
    try clear c3
    try clear c6
    try clear c6b0
    try clear p6
    try clear c7
    try clear c7b0
    try clear c8
    try clear c8b0
    try clear c9
    try clear c9b0
    try clear c11
    try clear c16
    try clear hx256_0
    try clear hx256_1
    try clear hx256_2
    try clear hx256_3
    try clear hx256_4
    try clear hx256_5
    try clear hx256_6
    try clear hx256_7
    try clear hx256_8
    try clear hx257_0
    try clear hx257_1
    try clear hx257_2
    try clear hx257_3
    try clear hx257_4
    try clear hx257_5
    try clear hx257_6
    try clear hx257_7
    try clear hx257_8
    try clear p2
    try clear p256
    try clear p257
    try clear p6
    try clear qz2
    try clear qz256
    try clear qz257
    obtain ⟨x7_2, rfl, HA, HK2, HO_1, BK255, HB⟩ := hrel
    cases gk with
    | zero => exact absurd HA.out (by simp [compare_Patched.l1])
    | succ k2 =>
     have H := HA.out
     clear HA
     simp only [compare_Patched.l1] at H
     by_cases c17 : x7_2 < (wrap64 (ji3 - x6_3))
     ·rw [if_pos c17] at H
      have c17b0 : decide (x7_2 < (wrap64 (ji3 - x6_3))) = true := decide_eq_true c17
      clear c17
      obtain ⟨ji18, hji18⟩ : ∃ j_ : Int, (wrap64 ((wrap64 ((l0.length : Int) - 1)) - x7_2)) = j_ := ⟨_, rfl⟩
      replace H : (if 0 ≤ (ji18) then (if (ji18) < (l0.length : Int) then (if 0 ≤ (wrap64 ((wrap64 ((l1.length : Int) - 1)) - x7_2)) then (if (wrap64 ((wrap64 ((l1.length : Int) - 1)) - x7_2)) < (l1.length : Int) then ((compare_equal.f k2 ((rd_T69 l0 (ji18)).f0) ((rd_T69 l0 (ji18)).f1) ((rd_T69 l0 (ji18)).f2) ((rd_T69 l0 (ji18)).f3) ((rd_T69 l0 (ji18)).f4) ((rd_T69 l0 (ji18)).f5) ((rd_T69 l0 (ji18)).f6) ((rd_T69 l0 (ji18)).f7) ((rd_T69 l0 (ji18)).f8) ((rd_T69 l1 (wrap64 ((wrap64 ((l1.length : Int) - 1)) - x7_2))).f0) ((rd_T69 l1 (wrap64 ((wrap64 ((l1.length : Int) - 1)) - x7_2))).f1) ((rd_T69 l1 (wrap64 ((wrap64 ((l1.length : Int) - 1)) - x7_2))).f2) ((rd_T69 l1 (wrap64 ((wrap64 ((l1.length : Int) - 1)) - x7_2))).f3) ((rd_T69 l1 (wrap64 ((wrap64 ((l1.length : Int) - 1)) - x7_2))).f4) ((rd_T69 l1 (wrap64 ((wrap64 ((l1.length : Int) - 1)) - x7_2))).f5) ((rd_T69 l1 (wrap64 ((wrap64 ((l1.length : Int) - 1)) - x7_2))).f6) ((rd_T69 l1 (wrap64 ((wrap64 ((l1.length : Int) - 1)) - x7_2))).f7) ((rd_T69 l1 (wrap64 ((wrap64 ((l1.length : Int) - 1)) - x7_2))).f8)).bind fun t261 => (if t261 = true then (compare_Patched.l1 k2 l0 l1 ji3 x6_3 (wrap64 (x7_2 + 1))) else (if 0 ≤ x6_3 then (if x6_3 ≤ (wrap64 ((l1.length : Int) - x7_2)) then (if (wrap64 ((l1.length : Int) - x7_2)) ≤ (l1.length : Int) then ((compare_own.f k2 ((l1.take ((wrap64 ((l1.length : Int) - x7_2)) : Int).toNat).drop (x6_3 : Int).toNat)).bind fun t267 => (some (x6_3, wrap64 ((wrap64 ((l0.length : Int) - x6_3)) - x7_2), t267))) else (none)) else (none)) else (none)))) else (none)) else (none)) else (none)) else (none)) = some (r1, r2, r3) := by first | (rw [hji18] at H; exact H) | (simp only [hji18] at H ⊢; exact H)
      have hji18w : (IntKind.i64.wrap ((wrap64 ((l0.length : Int) - 1)) - x7_2)) = ji18 := (i64_w _).trans hji18
      by_cases c19 : 0 ≤ (ji18)
      ·rw [if_pos c19] at H
       have c19b0 : decide (0 ≤ (ji18)) = true := decide_eq_true c19
       clear c19
       by_cases c20 : (ji18) < (l0.length : Int)
       ·rw [if_pos c20] at H
        have c20b0 : decide ((ji18) < (l0.length : Int)) = true := decide_eq_true c20
        clear c20
        obtain ⟨ji21, hji21⟩ : ∃ j_ : Int, (wrap64 ((wrap64 ((l1.length : Int) - 1)) - x7_2)) = j_ := ⟨_, rfl⟩
        replace H : (if 0 ≤ (ji21) then (if (ji21) < (l1.length : Int) then ((compare_equal.f k2 ((rd_T69 l0 (ji18)).f0) ((rd_T69 l0 (ji18)).f1) ((rd_T69 l0 (ji18)).f2) ((rd_T69 l0 (ji18)).f3) ((rd_T69 l0 (ji18)).f4) ((rd_T69 l0 (ji18)).f5) ((rd_T69 l0 (ji18)).f6) ((rd_T69 l0 (ji18)).f7) ((rd_T69 l0 (ji18)).f8) ((rd_T69 l1 (ji21)).f0) ((rd_T69 l1 (ji21)).f1) ((rd_T69 l1 (ji21)).f2) ((rd_T69 l1 (ji21)).f3) ((rd_T69 l1 (ji21)).f4) ((rd_T69 l1 (ji21)).f5) ((rd_T69 l1 (ji21)).f6) ((rd_T69 l1 (ji21)).f7) ((rd_T69 l1 (ji21)).f8)).bind fun t261 => (if t261 = true then (compare_Patched.l1 k2 l0 l1 ji3 x6_3 (wrap64 (x7_2 + 1))) else (if 0 ≤ x6_3 then (if x6_3 ≤ (wrap64 ((l1.length : Int) - x7_2)) then (if (wrap64 ((l1.length : Int) - x7_2)) ≤ (l1.length : Int) then ((compare_own.f k2 ((l1.take ((wrap64 ((l1.length : Int) - x7_2)) : Int).toNat).drop (x6_3 : Int).toNat)).bind fun t267 => (some (x6_3, wrap64 ((wrap64 ((l0.length : Int) - x6_3)) - x7_2), t267))) else (none)) else (none)) else (none)))) else (none)) else (none)) = some (r1, r2, r3) := by first | (rw [hji21] at H; exact H) | (simp only [hji21] at H ⊢; exact H)
        have hji21w : (IntKind.i64.wrap ((wrap64 ((l1.length : Int) - 1)) - x7_2)) = ji21 := (i64_w _).trans hji21
        by_cases c22 : 0 ≤ (ji21)
        ·rw [if_pos c22] at H
         have c22b0 : decide (0 ≤ (ji21)) = true := decide_eq_true c22
         clear c22
         by_cases c23 : (ji21) < (l1.length : Int)
         ·rw [if_pos c23] at H
          have c23b0 : decide ((ji21) < (l1.length : Int)) = true := decide_eq_true c23
          clear c23
          replace H := Option.bind_eq_some_iff.mp H
          obtain ⟨t261, A240, H⟩ := H
          replace H : (if t261 = true then (compare_Patched.l1 k2 l0 l1 ji3 x6_3 (wrap64 (x7_2 + 1))) else (if 0 ≤ x6_3 then (if x6_3 ≤ (wrap64 ((l1.length : Int) - x7_2)) then (if (wrap64 ((l1.length : Int) - x7_2)) ≤ (l1.length : Int) then ((compare_own.f k2 ((l1.take ((wrap64 ((l1.length : Int) - x7_2)) : Int).toNat).drop (x6_3 : Int).toNat)).bind fun t267 => (some (x6_3, wrap64 ((wrap64 ((l0.length : Int) - x6_3)) - x7_2), t267))) else (none)) else (none)) else (none))) = some (r1, r2, r3) := H
          have A24 := q13 A240
          clear A240
          by_cases c25 : t261 = true
          ·subst c25
           have H1 : (compare_Patched.l1 k2 l0 l1 ji3 x6_3 (wrap64 (x7_2 + 1))) = some (r1, r2, r3) := by rw [if_pos rfl] at H; exact H
           clear H
           have H := H1
           clear H1
           have H' := q13 H
           clear H
           try go_wp2
           have n0_ := q13 (Kd.V_drew HO_1.out)
           have n1_ := q13 (q1 BK255.out)
           have n2_ := q13 (q5 HB.out)
           clear HO_1
           clear BK255
           clear HB
           have HO_1 := n0_
           have BK255 := n1_
           have HB := n2_
           clear n0_ n1_ n2_
           have p259 : 0 ≤ ((ji18) : Int) := q15 (by assumption)
           have qz259 : (ji18) < (l0.length : Int) := q15 (by assumption)
           obtain ⟨ad259, A259_8, c259_8, e259, hx259_0, hx259_1, hx259_2, hx259_3, hx259_4, hx259_5, hx259_6, hx259_7, hx259_8, hl259_8, hi259_8⟩ := at_T69 HR0.out (ji18) p259 qz259
           have hw259_8 := hx259_8
           have hw259_7 := hx259_7
           have hw259_6 := hx259_6
           have hw259_5 := hx259_5
           have hw259_4 := hx259_4
           have hw259_3 := hx259_3
           have hw259_2 := hx259_2
           have hw259_1 := hx259_1
           have hw259_0 := hx259_0
           cases e259
           replace hx259_0 := cl HB.out hx259_0
           replace hx259_1 := cl HB.out hx259_1
           replace hx259_2 := cl HB.out hx259_2
           replace hx259_3 := cl HB.out hx259_3
           replace hx259_4 := cl HB.out hx259_4
           replace hx259_5 := cl HB.out hx259_5
           replace hx259_6 := cl HB.out hx259_6
           replace hx259_7 := cl HB.out hx259_7
           replace hx259_8 := cl HB.out hx259_8
           have HR259_8 := q13 hi259_8
           have HC259_8 := q13 hl259_8
           clear hi259_8 hl259_8
           replace p259 := eq_true p259
           replace qz259 := eq_true qz259
           have p260 : 0 ≤ ((ji21) : Int) := q15 (by assumption)
           have qz260 : (ji21) < (l1.length : Int) := q15 (by assumption)
           obtain ⟨ad260, A260_8, c260_8, e260, hx260_0, hx260_1, hx260_2, hx260_3, hx260_4, hx260_5, hx260_6, hx260_7, hx260_8, hl260_8, hi260_8⟩ := at_T69 (Kd.V_reads' HO_1.out).2.2 (ji21) p260 qz260
           cases e260
           obtain ⟨ce260, hce260, hMe260, hcc260⟩ := Kd.V_get HO_1.out z69 (ji21) p260 (by first | exact qz260 | exact q15 (by assumption) | (have e_ := (Kd.V_reads' HO_1.out).1; omega))
           obtain ⟨ua260_8, uc260_8, rfl, ul260_8, ge260_8⟩ := k69_openF hMe260
           have hv260_8 := hcc260 8 _ rfl
           rw [add_field _ _ 8 (by omega)] at hv260_8
           replace hv260_8 := Option.some.inj (hv260_8.symm.trans hx260_8)
           injection hv260_8 with hva_ hvn_ hvc_
           rw [hva_] at ge260_8
           rw [hvc_] at ul260_8
           have HL260_8 := q13 (show Kd.V (Kd.int .i64) 3 _ w.heap.size _ _ ((rd_T69 l1 (ji21)).f8) from Kd.V_mk ul260_8 ge260_8)
           clear hva_ hvn_ hvc_ ge260_8 ul260_8
           clear hcc260 hce260
           have HR260_8 := q13 hi260_8
           have HC260_8 := q13 hl260_8
           clear hi260_8 hl260_8
           replace p260 := eq_true p260
           replace qz260 := eq_true qz260
           refine start_ (n := 24) (S := fun w' => w'.cell? (ad259.add (((ji18)).toNat * 9)) = some (.int .i64 ((rd_T69 l0 (ji18)).f0)) ∧ w'.cell? ⟨(ad259.add (((ji18)).toNat * 9)).block, (ad259.add (((ji18)).toNat * 9)).off + 1, none⟩ = some (.int .i64 ((rd_T69 l0 (ji18)).f1)) ∧ w'.cell? ⟨(ad259.add (((ji18)).toNat * 9)).block, (ad259.add (((ji18)).toNat * 9)).off + 2, none⟩ = some (.int .i64 ((rd_T69 l0 (ji18)).f2)) ∧ w'.cell? ⟨(ad259.add (((ji18)).toNat * 9)).block, (ad259.add (((ji18)).toNat * 9)).off + 3, none⟩ = some (.int .i64 ((rd_T69 l0 (ji18)).f3)) ∧ w'.cell? ⟨(ad259.add (((ji18)).toNat * 9)).block, (ad259.add (((ji18)).toNat * 9)).off + 4, none⟩ = some (.int .i64 ((rd_T69 l0 (ji18)).f4)) ∧ w'.cell? ⟨(ad259.add (((ji18)).toNat * 9)).block, (ad259.add (((ji18)).toNat * 9)).off + 5, none⟩ = some (.string ((rd_T69 l0 (ji18)).f5)) ∧ w'.cell? ⟨(ad259.add (((ji18)).toNat * 9)).block, (ad259.add (((ji18)).toNat * 9)).off + 6, none⟩ = some (.string ((rd_T69 l0 (ji18)).f6)) ∧ w'.cell? ⟨(ad259.add (((ji18)).toNat * 9)).block, (ad259.add (((ji18)).toNat * 9)).off + 7, none⟩ = some (.string ((rd_T69 l0 (ji18)).f7)) ∧ w'.cell? ⟨(ad259.add (((ji18)).toNat * 9)).block, (ad259.add (((ji18)).toNat * 9)).off + 8, none⟩ = some (.slice A259_8 ((rd_T69 l0 (ji18)).f8).length c259_8) ∧ w'.cell? (ad260.add (((ji21)).toNat * 9)) = some (.int .i64 ((rd_T69 l1 (ji21)).f0)) ∧ w'.cell? ⟨(ad260.add (((ji21)).toNat * 9)).block, (ad260.add (((ji21)).toNat * 9)).off + 1, none⟩ = some (.int .i64 ((rd_T69 l1 (ji21)).f1)) ∧ w'.cell? ⟨(ad260.add (((ji21)).toNat * 9)).block, (ad260.add (((ji21)).toNat * 9)).off + 2, none⟩ = some (.int .i64 ((rd_T69 l1 (ji21)).f2)) ∧ w'.cell? ⟨(ad260.add (((ji21)).toNat * 9)).block, (ad260.add (((ji21)).toNat * 9)).off + 3, none⟩ = some (.int .i64 ((rd_T69 l1 (ji21)).f3)) ∧ w'.cell? ⟨(ad260.add (((ji21)).toNat * 9)).block, (ad260.add (((ji21)).toNat * 9)).off + 4, none⟩ = some (.int .i64 ((rd_T69 l1 (ji21)).f4)) ∧ w'.cell? ⟨(ad260.add (((ji21)).toNat * 9)).block, (ad260.add (((ji21)).toNat * 9)).off + 5, none⟩ = some (.string ((rd_T69 l1 (ji21)).f5)) ∧ w'.cell? ⟨(ad260.add (((ji21)).toNat * 9)).block, (ad260.add (((ji21)).toNat * 9)).off + 6, none⟩ = some (.string ((rd_T69 l1 (ji21)).f6)) ∧ w'.cell? ⟨(ad260.add (((ji21)).toNat * 9)).block, (ad260.add (((ji21)).toNat * 9)).off + 7, none⟩ = some (.string ((rd_T69 l1 (ji21)).f7)) ∧ w'.cell? ⟨(ad260.add (((ji21)).toNat * 9)).block, (ad260.add (((ji21)).toNat * 9)).off + 8, none⟩ = some (.slice A260_8 ((rd_T69 l1 (ji21)).f8).length c260_8)) (ds := []) (Array.replicate 24 false) (by kernel_rfl) rfl rfl ⟨(cl HB.out hw259_0), (cl HB.out hw259_1), (cl HB.out hw259_2), (cl HB.out hw259_3), (cl HB.out hw259_4), (cl HB.out hw259_5), (cl HB.out hw259_6), (cl HB.out hw259_7), (cl HB.out hw259_8), hx260_0, hx260_1, hx260_2, hx260_3, hx260_4, hx260_5, hx260_6, hx260_7, hx260_8⟩ (fun hHeld => ?_); refine with_tabW compare_Patched.tab6 compare_Patched.bits6 (fun HT_ HW_ => ?_)
           generalize wr.drew = w26 at HO_1 BK255 HB HL260_8 HR259_8 HR260_8 hx259_0 hx259_1 hx259_2 hx259_3 hx259_4 hx259_5 hx259_6 hx259_7 hx259_8 hx260_0 hx260_1 hx260_2 hx260_3 hx260_4 hx260_5 hx260_6 hx260_7 hx260_8 hHeld ⊢
           refine go_in [0, 1, 2, 3, 4, 5, 6, 7, 8, 9, 10, 11, 12, 14, 15, 16, 17, 18, 19, 20, 13, 21] ?_
           repeat (first | (refine pz (v := ?_) (a' := ?_) HT_ rfl rfl (by kernel_rfl) (fun _ _ _ h => h) (Or.inl ⟨by rfl, ?_⟩) ?_ ?_; rotate_left; (focus intro w'; go_simp; with_reducible rfl); rotate_left; (focus simp only [Act.put, List.setIfInBounds_toArray, List.set_cons_zero, List.set_cons_succ, i64_w, i32_w, u8_w, u8_tm, u8_c, u8_cm]; rfl)) | (refine tz (v := ?_) (a' := ?_) HT_ HW_ rfl rfl hHeld (by kernel_rfl) (fun _ _ _ h => h) (Or.inl ⟨by rfl, ?_⟩) ?_ ?_; rotate_left; (focus rintro w' ⟨s0, s1, s2, s3, s4, s5, s6, s7, s8, s9, s10, s11, s12, s13, s14, s15, s16, s17⟩; go_simp; with_reducible rfl); rotate_left; (focus simp only [Act.put, List.setIfInBounds_toArray, List.set_cons_zero, List.set_cons_succ, i64_w, i32_w, u8_w, u8_tm, u8_c, u8_cm]; rfl)))
           refine go_out ?_
           refine one_ (i := 22) (N := some 51) (fl 24 23 []) rfl rfl (one_of HT_.out (by kernel_rfl)) (by decide) (fun K hK => ?_)
           refine goes_ Try.func33 (by kernel_rfl) rfl #[.agg #[.int .i64 ((rd_T69 l0 (ji18)).f0), .int .i64 ((rd_T69 l0 (ji18)).f1), .int .i64 ((rd_T69 l0 (ji18)).f2), .int .i64 ((rd_T69 l0 (ji18)).f3), .int .i64 ((rd_T69 l0 (ji18)).f4), .string ((rd_T69 l0 (ji18)).f5), .string ((rd_T69 l0 (ji18)).f6), .string ((rd_T69 l0 (ji18)).f7), .slice A259_8 ((rd_T69 l0 (ji18)).f8).length c259_8], .agg #[.int .i64 ((rd_T69 l1 (ji21)).f0), .int .i64 ((rd_T69 l1 (ji21)).f1), .int .i64 ((rd_T69 l1 (ji21)).f2), .int .i64 ((rd_T69 l1 (ji21)).f3), .int .i64 ((rd_T69 l1 (ji21)).f4), .string ((rd_T69 l1 (ji21)).f5), .string ((rd_T69 l1 (ji21)).f6), .string ((rd_T69 l1 (ji21)).f7), .slice A260_8 ((rd_T69 l1 (ji21)).f8).length c260_8]] (by rfl) rfl rfl (by (try simp only [List.map_toArray, List.map_cons, List.map_nil]); first | done | (simp only [hji18, hji21]; rfl) | rfl | (simp only [List.length_drop, List.length_take]; rfl)) ?_
           with_reducible refine (compare_equal.calls k2 ((rd_T69 l0 (ji18)).f0) ((rd_T69 l0 (ji18)).f1) ((rd_T69 l0 (ji18)).f2) ((rd_T69 l0 (ji18)).f3) ((rd_T69 l0 (ji18)).f4) ((rd_T69 l0 (ji18)).f5) ((rd_T69 l0 (ji18)).f6) ((rd_T69 l0 (ji18)).f7) _ _ ((rd_T69 l0 (ji18)).f8) ((rd_T69 l1 (ji21)).f0) ((rd_T69 l1 (ji21)).f1) ((rd_T69 l1 (ji21)).f2) ((rd_T69 l1 (ji21)).f3) ((rd_T69 l1 (ji21)).f4) ((rd_T69 l1 (ji21)).f5) ((rd_T69 l1 (ji21)).f6) ((rd_T69 l1 (ji21)).f7) _ _ ((rd_T69 l1 (ji21)).f8) true _ ?side1 ?side2 ?side3 ?side4 A24.out).mono ?_
           (case side1 => repeat (first | exact (Kd.C_below HR259_8.out HB.out) | (with_reducible refine q18 ?_ _) | (with_reducible refine q19 ?_ _) | (with_reducible refine q20 ?_)))
           (case side2 => exact HC259_8.out)
           (case side3 => repeat (first | exact (by repeat (first | (with_reducible exact HR260_8.out) | (with_reducible refine q18 ?_ _) | (with_reducible refine q19 ?_ _) | (with_reducible refine q20 ?_) | exact HR260_8.out)) | (with_reducible refine q18 ?_ _) | (with_reducible refine q19 ?_ _) | (with_reducible refine q20 ?_)))
           (case side4 => exact HC260_8.out)
           rintro e w27 ⟨rfl, hb⟩
           have HS9_ := (hb.cell (q14 _ _ (hHeld.2.2.2.2.2.2.2.2.2.1))).trans (hHeld.2.2.2.2.2.2.2.2.2.1)
           have HS10_ := (hb.cell (q14 _ _ (hHeld.2.2.2.2.2.2.2.2.2.2.1))).trans (hHeld.2.2.2.2.2.2.2.2.2.2.1)
           have HS11_ := (hb.cell (q14 _ _ (hHeld.2.2.2.2.2.2.2.2.2.2.2.1))).trans (hHeld.2.2.2.2.2.2.2.2.2.2.2.1)
           have HS12_ := (hb.cell (q14 _ _ (hHeld.2.2.2.2.2.2.2.2.2.2.2.2.1))).trans (hHeld.2.2.2.2.2.2.2.2.2.2.2.2.1)
           have HS13_ := (hb.cell (q14 _ _ (hHeld.2.2.2.2.2.2.2.2.2.2.2.2.2.1))).trans (hHeld.2.2.2.2.2.2.2.2.2.2.2.2.2.1)
           have HS14_ := (hb.cell (q14 _ _ (hHeld.2.2.2.2.2.2.2.2.2.2.2.2.2.2.1))).trans (hHeld.2.2.2.2.2.2.2.2.2.2.2.2.2.2.1)
           have HS15_ := (hb.cell (q14 _ _ (hHeld.2.2.2.2.2.2.2.2.2.2.2.2.2.2.2.1))).trans (hHeld.2.2.2.2.2.2.2.2.2.2.2.2.2.2.2.1)
           have HS16_ := (hb.cell (q14 _ _ (hHeld.2.2.2.2.2.2.2.2.2.2.2.2.2.2.2.2.1))).trans (hHeld.2.2.2.2.2.2.2.2.2.2.2.2.2.2.2.2.1)
           have HS17_ := (hb.cell (q14 _ _ (hHeld.2.2.2.2.2.2.2.2.2.2.2.2.2.2.2.2.2))).trans (hHeld.2.2.2.2.2.2.2.2.2.2.2.2.2.2.2.2.2)
           refine ⟨_, rfl, ?_⟩
           have n0_ := q13 (Kd.V_below (gV HO_1) hb)
           have n1_ := q13 (Kd.V_below (gV HL260_8) hb)
           have n2_ := q13 (q8 (g := gb255) (o := .cells #[.int .i64 0, .int .i64 0, .slice none 0 0] 39 (0, 0)) (gK BK255) hb)
           have n3_ := q13 (Kd.C_below (by repeat (first | (with_reducible exact HR260_8.out) | (with_reducible refine q18 ?_ _) | (with_reducible refine q19 ?_ _) | (with_reducible refine q20 ?_) | exact HR260_8.out)) hb)
           have n4_ := q13 (q12 (by repeat (first | (with_reducible first | exact HB.out | apply q3 | apply q4 | apply q5 | refine q6 ?_ GE255.out) | exact HB.out)) hb)
           clear HO_1
           clear HL260_8
           clear BK255
           clear HR260_8
           clear HB
           have HO_1 := n0_
           have HL260_8 := n1_
           have BK255 := n2_
           have HR260_8 := n3_
           have HB := n4_
           clear n0_ n1_ n2_ n3_ n4_
           (try clear hb)
           (try clear hb2)
           (try clear hk)
           (try clear hi)
           refine hK.out _ _ ⟨(cl HB.out hw259_0), (cl HB.out hw259_1), (cl HB.out hw259_2), (cl HB.out hw259_3), (cl HB.out hw259_4), (cl HB.out hw259_5), (cl HB.out hw259_6), (cl HB.out hw259_7), (cl HB.out hw259_8), HS9_, HS10_, HS11_, HS12_, HS13_, HS14_, HS15_, HS16_, HS17_⟩ (fun hHeld => ?_)
           clear hK K
           refine norm_ (a' := ?_) ?_ ?_
           rotate_left
           ·show Act.put _ (some 51) _ = _
            simp only [Act.put, List.setIfInBounds_toArray, List.set_cons_zero, List.set_cons_succ, i64_w, i32_w]
            rfl
           refine go_in [23] ?_
           (refine pz (v := ?_) (a' := ?_) HT_ rfl rfl (by kernel_rfl) (fun _ _ _ h => h) (Or.inl ⟨by rfl, ?_⟩) ?_ ?_; rotate_left; (focus intro w'; go_simp; with_reducible rfl); rotate_left; (focus simp only [Act.put, List.setIfInBounds_toArray, List.set_cons_zero, List.set_cons_succ, i64_w, i32_w, u8_w, u8_tm, u8_c, u8_cm]; rfl))
           refine go_out ?_
           refine done_ (done_of HT_.out (by kernel_rfl)) ?_
           try go_wp2
           go_roundg k2
           case measure => have := HJ3.out; have := HK2.out; omega
           case rel => exact ⟨(wrap64 (x7_2 + 1)), (by first | rfl | (simp; done) | (simp [*]; done)), H', ⟨by have := HJ3.out; have := HK2.out; omega⟩, ⟨by (with_reducible repeat (first | apply Kd.V_alloc | apply Kd.V_drewN | apply Kd.V_drew)); exact HO_1.out⟩, ⟨by (with_reducible repeat (first | refine q0 ?_ _ | refine q1 ?_ | refine q2 ?_ _)); exact BK255.out⟩, ⟨by repeat (first | (with_reducible first | exact HB.out | apply q3 | apply q4 | apply q5 | refine q6 ?_ GE255.out) | exact HB.out)⟩⟩
          ·replace c25 := Bool.eq_false_iff.mpr c25
           subst c25
           have H1 : (if 0 ≤ x6_3 then (if x6_3 ≤ (wrap64 ((l1.length : Int) - x7_2)) then (if (wrap64 ((l1.length : Int) - x7_2)) ≤ (l1.length : Int) then ((compare_own.f k2 ((l1.take ((wrap64 ((l1.length : Int) - x7_2)) : Int).toNat).drop (x6_3 : Int).toNat)).bind fun t267 => (some (x6_3, wrap64 ((wrap64 ((l0.length : Int) - x6_3)) - x7_2), t267))) else (none)) else (none)) else (none)) = some (r1, r2, r3) := by rw [if_neg (show ¬ (false = true) by decide)] at H; exact H
           clear H
           have H := H1
           clear H1
           by_cases c28 : 0 ≤ x6_3
           ·rw [if_pos c28] at H
            have c28b0 := eq_true c28
            have c28b1 : decide (0 ≤ x6_3) = true := decide_eq_true c28
            clear c28
            by_cases c29 : x6_3 ≤ (wrap64 ((l1.length : Int) - x7_2))
            ·rw [if_pos c29] at H
             have c29b0 := eq_true c29
             have c29b1 : decide (x6_3 ≤ (wrap64 ((l1.length : Int) - x7_2))) = true := decide_eq_true c29
             clear c29
             by_cases c30 : (wrap64 ((l1.length : Int) - x7_2)) ≤ (l1.length : Int)
             ·rw [if_pos c30] at H
              have c30b0 := eq_true c30
              have c30b1 : decide ((wrap64 ((l1.length : Int) - x7_2)) ≤ (l1.length : Int)) = true := decide_eq_true c30
              clear c30
              obtain ⟨y262, hy262⟩ : ∃ y_ : List (S69), y_ = ((l1.take ((wrap64 ((l1.length : Int) - x7_2)) : Int).toNat).drop (x6_3 : Int).toNat) := ⟨_, rfl⟩
              replace H : ((compare_own.f k2 y262).bind fun t267 => (some (x6_3, wrap64 ((wrap64 ((l0.length : Int) - x6_3)) - x7_2), t267))) = some (r1, r2, r3) := by first | (rw [hy262]; with_reducible exact H) | (have H2_ := (Option.bind_some _ _).symm.trans H; rw [hy262]; with_reducible exact H2_) | (have H2_ := (Option.bind_some _ _).symm.trans H; with_reducible exact H2_) | with_reducible exact H | (rw [hy262]; exact H) | exact H
              have Ny262 := q13 hy262
              clear hy262
              replace H := Option.bind_eq_some_iff.mp H
              obtain ⟨t267, A310, H⟩ := H
              replace H : (some (x6_3, wrap64 ((wrap64 ((l0.length : Int) - x6_3)) - x7_2), t267)) = some (r1, r2, r3) := H
              have A31 := q13 A310
              clear A310
              simp only [Option.some.injEq, Prod.mk.injEq] at H
              obtain ⟨rfl, rfl, rfl⟩ := H
              try go_wp2
              have n0_ := q13 (Kd.V_drew HO_1.out)
              have n1_ := q13 (q1 BK255.out)
              have n2_ := q13 (q5 HB.out)
              clear HO_1
              clear BK255
              clear HB
              have HO_1 := n0_
              have BK255 := n1_
              have HB := n2_
              clear n0_ n1_ n2_
              have p259 : 0 ≤ ((ji18) : Int) := q15 (by assumption)
              have qz259 : (ji18) < (l0.length : Int) := q15 (by assumption)
              obtain ⟨ad259, A259_8, c259_8, e259, hx259_0, hx259_1, hx259_2, hx259_3, hx259_4, hx259_5, hx259_6, hx259_7, hx259_8, hl259_8, hi259_8⟩ := at_T69 HR0.out (ji18) p259 qz259
              have hw259_8 := hx259_8
              have hw259_7 := hx259_7
              have hw259_6 := hx259_6
              have hw259_5 := hx259_5
              have hw259_4 := hx259_4
              have hw259_3 := hx259_3
              have hw259_2 := hx259_2
              have hw259_1 := hx259_1
              have hw259_0 := hx259_0
              cases e259
              replace hx259_0 := cl HB.out hx259_0
              replace hx259_1 := cl HB.out hx259_1
              replace hx259_2 := cl HB.out hx259_2
              replace hx259_3 := cl HB.out hx259_3
              replace hx259_4 := cl HB.out hx259_4
              replace hx259_5 := cl HB.out hx259_5
              replace hx259_6 := cl HB.out hx259_6
              replace hx259_7 := cl HB.out hx259_7
              replace hx259_8 := cl HB.out hx259_8
              have HR259_8 := q13 hi259_8
              have HC259_8 := q13 hl259_8
              clear hi259_8 hl259_8
              replace p259 := eq_true p259
              replace qz259 := eq_true qz259
              have p260 : 0 ≤ ((ji21) : Int) := q15 (by assumption)
              have qz260 : (ji21) < (l1.length : Int) := q15 (by assumption)
              obtain ⟨ad260, A260_8, c260_8, e260, hx260_0, hx260_1, hx260_2, hx260_3, hx260_4, hx260_5, hx260_6, hx260_7, hx260_8, hl260_8, hi260_8⟩ := at_T69 (Kd.V_reads' HO_1.out).2.2 (ji21) p260 qz260
              cases e260
              obtain ⟨ce260, hce260, hMe260, hcc260⟩ := Kd.V_get HO_1.out z69 (ji21) p260 (by first | exact qz260 | exact q15 (by assumption) | (have e_ := (Kd.V_reads' HO_1.out).1; omega))
              obtain ⟨ua260_8, uc260_8, rfl, ul260_8, ge260_8⟩ := k69_openF hMe260
              have hv260_8 := hcc260 8 _ rfl
              rw [add_field _ _ 8 (by omega)] at hv260_8
              replace hv260_8 := Option.some.inj (hv260_8.symm.trans hx260_8)
              injection hv260_8 with hva_ hvn_ hvc_
              rw [hva_] at ge260_8
              rw [hvc_] at ul260_8
              have HL260_8 := q13 (show Kd.V (Kd.int .i64) 3 _ w.heap.size _ _ ((rd_T69 l1 (ji21)).f8) from Kd.V_mk ul260_8 ge260_8)
              clear hva_ hvn_ hvc_ ge260_8 ul260_8
              clear hcc260 hce260
              have HR260_8 := q13 hi260_8
              have HC260_8 := q13 hl260_8
              clear hi260_8 hl260_8
              replace p260 := eq_true p260
              replace qz260 := eq_true qz260
              refine start_ (n := 24) (S := fun w' => w'.cell? (ad259.add (((ji18)).toNat * 9)) = some (.int .i64 ((rd_T69 l0 (ji18)).f0)) ∧ w'.cell? ⟨(ad259.add (((ji18)).toNat * 9)).block, (ad259.add (((ji18)).toNat * 9)).off + 1, none⟩ = some (.int .i64 ((rd_T69 l0 (ji18)).f1)) ∧ w'.cell? ⟨(ad259.add (((ji18)).toNat * 9)).block, (ad259.add (((ji18)).toNat * 9)).off + 2, none⟩ = some (.int .i64 ((rd_T69 l0 (ji18)).f2)) ∧ w'.cell? ⟨(ad259.add (((ji18)).toNat * 9)).block, (ad259.add (((ji18)).toNat * 9)).off + 3, none⟩ = some (.int .i64 ((rd_T69 l0 (ji18)).f3)) ∧ w'.cell? ⟨(ad259.add (((ji18)).toNat * 9)).block, (ad259.add (((ji18)).toNat * 9)).off + 4, none⟩ = some (.int .i64 ((rd_T69 l0 (ji18)).f4)) ∧ w'.cell? ⟨(ad259.add (((ji18)).toNat * 9)).block, (ad259.add (((ji18)).toNat * 9)).off + 5, none⟩ = some (.string ((rd_T69 l0 (ji18)).f5)) ∧ w'.cell? ⟨(ad259.add (((ji18)).toNat * 9)).block, (ad259.add (((ji18)).toNat * 9)).off + 6, none⟩ = some (.string ((rd_T69 l0 (ji18)).f6)) ∧ w'.cell? ⟨(ad259.add (((ji18)).toNat * 9)).block, (ad259.add (((ji18)).toNat * 9)).off + 7, none⟩ = some (.string ((rd_T69 l0 (ji18)).f7)) ∧ w'.cell? ⟨(ad259.add (((ji18)).toNat * 9)).block, (ad259.add (((ji18)).toNat * 9)).off + 8, none⟩ = some (.slice A259_8 ((rd_T69 l0 (ji18)).f8).length c259_8) ∧ w'.cell? (ad260.add (((ji21)).toNat * 9)) = some (.int .i64 ((rd_T69 l1 (ji21)).f0)) ∧ w'.cell? ⟨(ad260.add (((ji21)).toNat * 9)).block, (ad260.add (((ji21)).toNat * 9)).off + 1, none⟩ = some (.int .i64 ((rd_T69 l1 (ji21)).f1)) ∧ w'.cell? ⟨(ad260.add (((ji21)).toNat * 9)).block, (ad260.add (((ji21)).toNat * 9)).off + 2, none⟩ = some (.int .i64 ((rd_T69 l1 (ji21)).f2)) ∧ w'.cell? ⟨(ad260.add (((ji21)).toNat * 9)).block, (ad260.add (((ji21)).toNat * 9)).off + 3, none⟩ = some (.int .i64 ((rd_T69 l1 (ji21)).f3)) ∧ w'.cell? ⟨(ad260.add (((ji21)).toNat * 9)).block, (ad260.add (((ji21)).toNat * 9)).off + 4, none⟩ = some (.int .i64 ((rd_T69 l1 (ji21)).f4)) ∧ w'.cell? ⟨(ad260.add (((ji21)).toNat * 9)).block, (ad260.add (((ji21)).toNat * 9)).off + 5, none⟩ = some (.string ((rd_T69 l1 (ji21)).f5)) ∧ w'.cell? ⟨(ad260.add (((ji21)).toNat * 9)).block, (ad260.add (((ji21)).toNat * 9)).off + 6, none⟩ = some (.string ((rd_T69 l1 (ji21)).f6)) ∧ w'.cell? ⟨(ad260.add (((ji21)).toNat * 9)).block, (ad260.add (((ji21)).toNat * 9)).off + 7, none⟩ = some (.string ((rd_T69 l1 (ji21)).f7)) ∧ w'.cell? ⟨(ad260.add (((ji21)).toNat * 9)).block, (ad260.add (((ji21)).toNat * 9)).off + 8, none⟩ = some (.slice A260_8 ((rd_T69 l1 (ji21)).f8).length c260_8)) (ds := []) (Array.replicate 24 false) (by kernel_rfl) rfl rfl ⟨(cl HB.out hw259_0), (cl HB.out hw259_1), (cl HB.out hw259_2), (cl HB.out hw259_3), (cl HB.out hw259_4), (cl HB.out hw259_5), (cl HB.out hw259_6), (cl HB.out hw259_7), (cl HB.out hw259_8), hx260_0, hx260_1, hx260_2, hx260_3, hx260_4, hx260_5, hx260_6, hx260_7, hx260_8⟩ (fun hHeld => ?_); refine with_tabW compare_Patched.tab6 compare_Patched.bits6 (fun HT_ HW_ => ?_)
              generalize wr.drew = w32 at HO_1 BK255 HB HL260_8 HR259_8 HR260_8 hx259_0 hx259_1 hx259_2 hx259_3 hx259_4 hx259_5 hx259_6 hx259_7 hx259_8 hx260_0 hx260_1 hx260_2 hx260_3 hx260_4 hx260_5 hx260_6 hx260_7 hx260_8 hHeld ⊢
              refine go_in [0, 1, 2, 3, 4, 5, 6, 7, 8, 9, 10, 11, 12, 14, 15, 16, 17, 18, 19, 20, 13, 21] ?_
              repeat (first | (refine pz (v := ?_) (a' := ?_) HT_ rfl rfl (by kernel_rfl) (fun _ _ _ h => h) (Or.inl ⟨by rfl, ?_⟩) ?_ ?_; rotate_left; (focus intro w'; go_simp; with_reducible rfl); rotate_left; (focus simp only [Act.put, List.setIfInBounds_toArray, List.set_cons_zero, List.set_cons_succ, i64_w, i32_w, u8_w, u8_tm, u8_c, u8_cm]; rfl)) | (refine tz (v := ?_) (a' := ?_) HT_ HW_ rfl rfl hHeld (by kernel_rfl) (fun _ _ _ h => h) (Or.inl ⟨by rfl, ?_⟩) ?_ ?_; rotate_left; (focus rintro w' ⟨s0, s1, s2, s3, s4, s5, s6, s7, s8, s9, s10, s11, s12, s13, s14, s15, s16, s17⟩; go_simp; with_reducible rfl); rotate_left; (focus simp only [Act.put, List.setIfInBounds_toArray, List.set_cons_zero, List.set_cons_succ, i64_w, i32_w, u8_w, u8_tm, u8_c, u8_cm]; rfl)))
              refine go_out ?_
              refine one_ (i := 22) (N := some 51) (fl 24 23 []) rfl rfl (one_of HT_.out (by kernel_rfl)) (by decide) (fun K hK => ?_)
              refine goes_ Try.func33 (by kernel_rfl) rfl #[.agg #[.int .i64 ((rd_T69 l0 (ji18)).f0), .int .i64 ((rd_T69 l0 (ji18)).f1), .int .i64 ((rd_T69 l0 (ji18)).f2), .int .i64 ((rd_T69 l0 (ji18)).f3), .int .i64 ((rd_T69 l0 (ji18)).f4), .string ((rd_T69 l0 (ji18)).f5), .string ((rd_T69 l0 (ji18)).f6), .string ((rd_T69 l0 (ji18)).f7), .slice A259_8 ((rd_T69 l0 (ji18)).f8).length c259_8], .agg #[.int .i64 ((rd_T69 l1 (ji21)).f0), .int .i64 ((rd_T69 l1 (ji21)).f1), .int .i64 ((rd_T69 l1 (ji21)).f2), .int .i64 ((rd_T69 l1 (ji21)).f3), .int .i64 ((rd_T69 l1 (ji21)).f4), .string ((rd_T69 l1 (ji21)).f5), .string ((rd_T69 l1 (ji21)).f6), .string ((rd_T69 l1 (ji21)).f7), .slice A260_8 ((rd_T69 l1 (ji21)).f8).length c260_8]] (by rfl) rfl rfl (by (try simp only [List.map_toArray, List.map_cons, List.map_nil]); first | done | (simp only [hji18, hji21]; rfl) | rfl | (simp only [List.length_drop, List.length_take]; rfl)) ?_
              with_reducible refine (compare_equal.calls k2 ((rd_T69 l0 (ji18)).f0) ((rd_T69 l0 (ji18)).f1) ((rd_T69 l0 (ji18)).f2) ((rd_T69 l0 (ji18)).f3) ((rd_T69 l0 (ji18)).f4) ((rd_T69 l0 (ji18)).f5) ((rd_T69 l0 (ji18)).f6) ((rd_T69 l0 (ji18)).f7) _ _ ((rd_T69 l0 (ji18)).f8) ((rd_T69 l1 (ji21)).f0) ((rd_T69 l1 (ji21)).f1) ((rd_T69 l1 (ji21)).f2) ((rd_T69 l1 (ji21)).f3) ((rd_T69 l1 (ji21)).f4) ((rd_T69 l1 (ji21)).f5) ((rd_T69 l1 (ji21)).f6) ((rd_T69 l1 (ji21)).f7) _ _ ((rd_T69 l1 (ji21)).f8) false _ ?side1 ?side2 ?side3 ?side4 A24.out).mono ?_
              (case side1 => repeat (first | exact (Kd.C_below HR259_8.out HB.out) | (with_reducible refine q18 ?_ _) | (with_reducible refine q19 ?_ _) | (with_reducible refine q20 ?_)))
              (case side2 => exact HC259_8.out)
              (case side3 => repeat (first | exact (by repeat (first | (with_reducible exact HR260_8.out) | (with_reducible refine q18 ?_ _) | (with_reducible refine q19 ?_ _) | (with_reducible refine q20 ?_) | exact HR260_8.out)) | (with_reducible refine q18 ?_ _) | (with_reducible refine q19 ?_ _) | (with_reducible refine q20 ?_)))
              (case side4 => exact HC260_8.out)
              rintro e w33 ⟨rfl, hb⟩
              have HS9_ := (hb.cell (q14 _ _ (hHeld.2.2.2.2.2.2.2.2.2.1))).trans (hHeld.2.2.2.2.2.2.2.2.2.1)
              have HS10_ := (hb.cell (q14 _ _ (hHeld.2.2.2.2.2.2.2.2.2.2.1))).trans (hHeld.2.2.2.2.2.2.2.2.2.2.1)
              have HS11_ := (hb.cell (q14 _ _ (hHeld.2.2.2.2.2.2.2.2.2.2.2.1))).trans (hHeld.2.2.2.2.2.2.2.2.2.2.2.1)
              have HS12_ := (hb.cell (q14 _ _ (hHeld.2.2.2.2.2.2.2.2.2.2.2.2.1))).trans (hHeld.2.2.2.2.2.2.2.2.2.2.2.2.1)
              have HS13_ := (hb.cell (q14 _ _ (hHeld.2.2.2.2.2.2.2.2.2.2.2.2.2.1))).trans (hHeld.2.2.2.2.2.2.2.2.2.2.2.2.2.1)
              have HS14_ := (hb.cell (q14 _ _ (hHeld.2.2.2.2.2.2.2.2.2.2.2.2.2.2.1))).trans (hHeld.2.2.2.2.2.2.2.2.2.2.2.2.2.2.1)
              have HS15_ := (hb.cell (q14 _ _ (hHeld.2.2.2.2.2.2.2.2.2.2.2.2.2.2.2.1))).trans (hHeld.2.2.2.2.2.2.2.2.2.2.2.2.2.2.2.1)
              have HS16_ := (hb.cell (q14 _ _ (hHeld.2.2.2.2.2.2.2.2.2.2.2.2.2.2.2.2.1))).trans (hHeld.2.2.2.2.2.2.2.2.2.2.2.2.2.2.2.2.1)
              have HS17_ := (hb.cell (q14 _ _ (hHeld.2.2.2.2.2.2.2.2.2.2.2.2.2.2.2.2.2))).trans (hHeld.2.2.2.2.2.2.2.2.2.2.2.2.2.2.2.2.2)
              refine ⟨_, rfl, ?_⟩
              have n0_ := q13 (Kd.V_below (gV HO_1) hb)
              have n1_ := q13 (Kd.V_below (gV HL260_8) hb)
              have n2_ := q13 (q8 (g := gb255) (o := .cells #[.int .i64 0, .int .i64 0, .slice none 0 0] 39 (0, 0)) (gK BK255) hb)
              have n3_ := q13 (Kd.C_below (by repeat (first | (with_reducible exact HR260_8.out) | (with_reducible refine q18 ?_ _) | (with_reducible refine q19 ?_ _) | (with_reducible refine q20 ?_) | exact HR260_8.out)) hb)
              have n4_ := q13 (q12 (by repeat (first | (with_reducible first | exact HB.out | apply q3 | apply q4 | apply q5 | refine q6 ?_ GE255.out) | exact HB.out)) hb)
              clear HO_1
              clear HL260_8
              clear BK255
              clear HR260_8
              clear HB
              have HO_1 := n0_
              have HL260_8 := n1_
              have BK255 := n2_
              have HR260_8 := n3_
              have HB := n4_
              clear n0_ n1_ n2_ n3_ n4_
              (try clear hb)
              (try clear hb2)
              (try clear hk)
              (try clear hi)
              refine hK.out _ _ ⟨(cl HB.out hw259_0), (cl HB.out hw259_1), (cl HB.out hw259_2), (cl HB.out hw259_3), (cl HB.out hw259_4), (cl HB.out hw259_5), (cl HB.out hw259_6), (cl HB.out hw259_7), (cl HB.out hw259_8), HS9_, HS10_, HS11_, HS12_, HS13_, HS14_, HS15_, HS16_, HS17_⟩ (fun hHeld => ?_)
              clear hK K
              refine norm_ (a' := ?_) ?_ ?_
              rotate_left
              ·show Act.put _ (some 51) _ = _
               simp only [Act.put, List.setIfInBounds_toArray, List.set_cons_zero, List.set_cons_succ, i64_w, i32_w]
               rfl
              refine go_in [23] ?_
              (refine pz (v := ?_) (a' := ?_) HT_ rfl rfl (by kernel_rfl) (fun _ _ _ h => h) (Or.inl ⟨by rfl, ?_⟩) ?_ ?_; rotate_left; (focus intro w'; go_simp; with_reducible rfl); rotate_left; (focus simp only [Act.put, List.setIfInBounds_toArray, List.set_cons_zero, List.set_cons_succ, i64_w, i32_w, u8_w, u8_tm, u8_c, u8_cm]; rfl))
              refine go_out ?_
              refine done_ (done_of HT_.out (by kernel_rfl)) ?_
              have qz34 : ((wrap64 ((l1.length : Int) - x7_2)) : Int) ≤ ((l1.length : Int) : Int) := q15 (by assumption)
              obtain ⟨i034, hi034, _, hsz34, _⟩ := info_parts info69
              have hroom34 : l1.length ≤ c1 := (Kd.V_reads' HO_1.out).2.1
              have hC34 : Kd.F k69 _ _ (some ad260) l1.length l1 := (Kd.V_at (base := w.heap.size) HO_1.out).2.2
              have ql34 : (x6_3 : Int) ≤ ((wrap64 ((l1.length : Int) - x7_2)) : Int) := q15 (by assumption)
              have qz034 : (0 : Int) ≤ (x6_3 : Int) := q15 (by assumption)
              have hcut34 := cut_mid (P := Try.prog) 22 69 .i64 .i64 Try.underlying22 hi034 9 hsz34 (some ad260) l1.length c1 x6_3 (wrap64 ((l1.length : Int) - x7_2)) qz034 ql34 qz34 hroom34
              have hr34 := Kd.F_mid (lo := (x6_3 : Int).toNat) (hi := ((wrap64 ((l1.length : Int) - x7_2)) : Int).toNat) (c := c1) hC34 (by omega) (by omega) hroom34
              obtain ⟨A34, hA34⟩ : ∃ Aw_, Aw_ = (if c1 = (x6_3 : Int).toNat then (some ad260) else ((some ad260) : Option Addr).map (·.add ((x6_3 : Int).toNat * 9))) := ⟨_, rfl⟩
              obtain ⟨c34, hc34⟩ : ∃ cw_, cw_ = c1 - (x6_3 : Int).toNat := ⟨_, rfl⟩
              have hy34 : y262.length = ((wrap64 ((l1.length : Int) - x7_2)) : Int).toNat - (x6_3 : Int).toNat := (by rw [Ny262.out, List.length_drop, List.length_take] <;> omega)
              rw [show ((l1).take ((wrap64 ((l1.length : Int) - x7_2)) : Int).toNat).drop (x6_3 : Int).toNat = y262 from Ny262.out.symm] at hr34
              replace hr34 : Kd.F k69 _ _ A34 y262.length y262 := (by rw [hA34]; exact hr34)
              rw [← hy34, ← hA34, ← hc34] at hcut34
              have HO266 := q13 (show Kd.V k69 69 _ w.heap.size _ (.slice A34 y262.length c34) y262 from Kd.V_mk (by rw [hy34, hc34]; exact Nat.sub_le_sub_right (Nat.le_trans (by omega) hroom34) _) hr34)
              have HC266 := q13 (show y262.length ≤ c34 from by rw [hy34, hc34]; exact Nat.sub_le_sub_right (Nat.le_trans (by omega) hroom34) _)
              clear hr34 hC34 hroom34 hi034 hsz34 hc34
              have KY34 := q13 hy34
              have KA34 := q13 hA34
              clear hy34 hA34
              replace qz34 := eq_true qz34
              try go_wp2_with (first | ((with_reducible refine gate_callee (f := 29) rfl ?_); refine goesL_ (some 69) rfl rfl Try.func29 (by kernel_rfl) rfl #[.slice A34 y262.length c34] rfl (by (try simp only [List.map_toArray, List.map_cons, List.map_nil]); first | done | rfl | (simp only [List.length_drop, List.length_take]; rfl)) ?_; (with_reducible refine (compare_own.calls k2 (fun k_ => ((P1_ k_ ∨ w.heap.size ≤ k_) ∧ k_ ≠ gb255)) _ _ y262 t267 _ ?side1 A31.out).mono ?_); (case side1 => exact HO266.out); rintro e w35 ⟨v268, rfl, ho0, hb⟩; refine ⟨_, rfl, ?_⟩; have n0_ := q13 (Kd.V_elder' (gV HO_1) (by first | exact q43 ho0 | exact q44 ho0 | exact Kd.S_base ho0) hb); have n1_ := q13 (Kd.V_elder' (gV HL260_8) (by first | exact q43 ho0 | exact q44 ho0 | exact Kd.S_base ho0) hb); have n2_ := q13 (Kd.V_elder' (gV HO266) (by first | exact q43 ho0 | exact q44 ho0 | exact Kd.S_base ho0) hb); have n3_ := q13 (Kd.N_lower (Kd.N_mono (ok' := fun k_ => (P1_ k_ ∨ w.heap.size ≤ k_) ∧ k_ ≠ gb255) ho0 (fun k_ hk_ => ⟨Or.elim hk_ (fun hs_ => hs_.1) (fun hn_ => (.inr (Nat.le_trans (q7 (by repeat (first | (with_reducible first | exact HB.out | apply q3 | apply q4 | apply q5 | refine q6 ?_ GE255.out) | exact HB.out))) hn_))), Or.elim hk_ (fun hs_ => hs_.2) (fun hn_ => (Kd.freshB (g := gb255) (o := .cells #[.int .i64 0, .int .i64 0, .slice none 0 0] 39 (0, 0)) (gK BK255) k_ hn_))⟩)) (q7 (by repeat (first | (with_reducible first | exact HB.out | apply q3 | apply q4 | apply q5 | refine q6 ?_ GE255.out) | exact HB.out)))); have n4_ := q13 (q8 (g := gb255) (o := .cells #[.int .i64 0, .int .i64 0, .slice none 0 0] 39 (0, 0)) (gK BK255) hb); have n5_ := q13 (Kd.C_below (by repeat (first | (with_reducible exact HR260_8.out) | (with_reducible refine q18 ?_ _) | (with_reducible refine q19 ?_ _) | (with_reducible refine q20 ?_) | exact HR260_8.out)) hb); have n6_ := q13 (q12 (by repeat (first | (with_reducible first | exact HB.out | apply q3 | apply q4 | apply q5 | refine q6 ?_ GE255.out) | exact HB.out)) hb); clear HO_1; clear HL260_8; clear HO266; clear BK255; clear HR260_8; clear HB; have HO_1 := n0_; have HL260_8 := n1_; have HO266 := n2_; have HO269 := n3_; have BK255 := n4_; have HR260_8 := n5_; have HB := n6_; clear n0_ n1_ n2_ n3_ n4_ n5_ n6_; (try clear hb); (try clear hb2); (try clear hk); (try clear hi); (try clear ho0); obtain ⟨Ao36, co36, eo36⟩ := Kd.N_slice HO269.out; subst eo36; have hcz37_0 : w35.cell? ⟨gb255, 0, none⟩ = some (.int .i64 0) := (q9 BK255.out 0).trans rfl; have hcz37_1 : w35.cell? ⟨gb255, 1, none⟩ = some (.int .i64 0) := (q9 BK255.out 1).trans rfl; have hcz37_2 : w35.cell? ⟨gb255, 2, none⟩ = some (.slice none 0 0) := (q9 BK255.out 2).trans rfl; have hfz37_0 := q11 BK255.out 0; have hfz37_1 := q11 BK255.out 1; have hfz37_2 := q11 BK255.out 2))
              refine bodyPost_ret (results_cell_row rfl _ _ gb255 39 #[.int .i64 x6_3, .int .i64 (wrap64 ((wrap64 ((l0.length : Int) - x6_3)) - x7_2)), .slice Ao36 t267.length co36] (0, 0) _ rfl (by (with_reducible repeat (first | refine q0 ?_ _ | refine q1 ?_ | refine q2 ?_ _)); refine blk_put (cs := #[.int .i64 x6_3, .int .i64 (wrap64 ((wrap64 ((l0.length : Int) - x6_3)) - x7_2)), .slice none 0 0]) ?_ 2 _ rfl; (with_reducible repeat (first | refine q0 ?_ _ | refine q1 ?_ | refine q2 ?_ _)); refine blk_put (cs := #[.int .i64 x6_3, .int .i64 0, .slice none 0 0]) ?_ 1 _ rfl; (with_reducible repeat (first | refine q0 ?_ _ | refine q1 ?_ | refine q2 ?_ _)); refine blk_put (cs := #[.int .i64 0, .int .i64 0, .slice none 0 0]) ?_ 0 _ rfl; (with_reducible repeat (first | refine q0 ?_ _ | refine q1 ?_ | refine q2 ?_ _)); exact BK255.out) Try.underlying39 rfl (by kernel_rfl)) rfl ?_
              exact ⟨_, by first | rfl | (simp [errW_none, errW_some] <;> rfl) | (simp only [← hji3, ← hji18, ← hji21]; first | rfl | (simp [errW_none, errW_some] <;> rfl)) | (simp [*, errW_none, errW_some] <;> rfl), by (with_reducible repeat (first | apply Kd.N_alloc | apply Kd.N_drewN | apply Kd.N_drew)); exact Kd.N_mono (Kd.N_far (p := ⟨gb255, 2, none⟩) (Kd.N_far (p := ⟨gb255, 1, none⟩) (Kd.N_far (p := ⟨gb255, 0, none⟩) (Kd.N_mono HO269.out (fun k_ hk => (⟨hk, hk.2⟩ : _ ∧ k_ ≠ gb255))) (fun _ hk => hk.2) (.int .i64 x6_3)) (fun _ hk => hk.2) (.int .i64 (wrap64 ((wrap64 ((l0.length : Int) - x6_3)) - x7_2)))) (fun _ hk => hk.2) (.slice Ao36 t267.length co36)) (fun _ hk => hk.1.1), by repeat (first | (with_reducible first | exact HB.out | apply q3 | apply q4 | apply q5 | refine q6 ?_ GE255.out) | exact HB.out)⟩
             ·rw [if_neg c30] at H
              exact absurd H (by simp)
            ·rw [if_neg c29] at H
             exact absurd H (by simp)
           ·rw [if_neg c28] at H
            exact absurd H (by simp)
         ·rw [if_neg c23] at H
          exact absurd H (by simp)
        ·rw [if_neg c22] at H
         exact absurd H (by simp)
       ·rw [if_neg c20] at H
        exact absurd H (by simp)
      ·rw [if_neg c19] at H
       exact absurd H (by simp)
     ·rw [if_neg c17] at H
      have c17b0 : decide (x7_2 < (wrap64 (ji3 - x6_3))) = false := decide_eq_false c17
      clear c17
      by_cases c38 : 0 ≤ x6_3
      ·rw [if_pos c38] at H
       have c38b0 := eq_true c38
       have c38b1 : decide (0 ≤ x6_3) = true := decide_eq_true c38
       clear c38
       by_cases c39 : x6_3 ≤ (wrap64 ((l1.length : Int) - x7_2))
       ·rw [if_pos c39] at H
        have c39b0 := eq_true c39
        have c39b1 : decide (x6_3 ≤ (wrap64 ((l1.length : Int) - x7_2))) = true := decide_eq_true c39
        clear c39
        by_cases c40 : (wrap64 ((l1.length : Int) - x7_2)) ≤ (l1.length : Int)
        ·rw [if_pos c40] at H
         have c40b0 := eq_true c40
         have c40b1 : decide ((wrap64 ((l1.length : Int) - x7_2)) ≤ (l1.length : Int)) = true := decide_eq_true c40
         clear c40
         obtain ⟨y270, hy270⟩ : ∃ y_ : List (S69), y_ = ((l1.take ((wrap64 ((l1.length : Int) - x7_2)) : Int).toNat).drop (x6_3 : Int).toNat) := ⟨_, rfl⟩
         replace H : ((compare_own.f k2 y270).bind fun t275 => (some (x6_3, wrap64 ((wrap64 ((l0.length : Int) - x6_3)) - x7_2), t275))) = some (r1, r2, r3) := by first | (rw [hy270]; with_reducible exact H) | (have H2_ := (Option.bind_some _ _).symm.trans H; rw [hy270]; with_reducible exact H2_) | (have H2_ := (Option.bind_some _ _).symm.trans H; with_reducible exact H2_) | with_reducible exact H | (rw [hy270]; exact H) | exact H
         have Ny270 := q13 hy270
         clear hy270
         replace H := Option.bind_eq_some_iff.mp H
         obtain ⟨t275, A410, H⟩ := H
         replace H : (some (x6_3, wrap64 ((wrap64 ((l0.length : Int) - x6_3)) - x7_2), t275)) = some (r1, r2, r3) := H
         have A41 := q13 A410
         clear A410
         simp only [Option.some.injEq, Prod.mk.injEq] at H
         obtain ⟨rfl, rfl, rfl⟩ := H
         try go_wp2
         have n0_ := q13 (Kd.V_drew HO_1.out)
         have n1_ := q13 (q1 BK255.out)
         have n2_ := q13 (q5 HB.out)
         clear HO_1
         clear BK255
         clear HB
         have HO_1 := n0_
         have BK255 := n1_
         have HB := n2_
         clear n0_ n1_ n2_
         refine start_ (n := 24) (S := fun w' => True) (ds := []) (Array.replicate 24 false) (by kernel_rfl) rfl rfl trivial (fun hHeld => ?_); refine with_tabW compare_Patched.tab6 compare_Patched.bits6 (fun HT_ HW_ => ?_)
         generalize wr.drew = w42 at HO_1 BK255 HB hHeld ⊢
         refine go_in [0, 1, 2, 3, 4, 5, 6, 7, 8, 9, 10, 11, 12, 13, 14, 15, 16, 17, 18, 19, 20, 21, 22, 23] ?_
         repeat (first | (refine pz (v := ?_) (a' := ?_) HT_ rfl rfl (by kernel_rfl) (fun _ _ _ h => h) (Or.inl ⟨by rfl, ?_⟩) ?_ ?_; rotate_left; (focus intro w'; go_simp; with_reducible rfl); rotate_left; (focus simp only [Act.put, List.setIfInBounds_toArray, List.set_cons_zero, List.set_cons_succ, i64_w, i32_w, u8_w, u8_tm, u8_c, u8_cm]; rfl)) | (refine pz (v := undef) (a' := ?_) HT_ rfl rfl (by kernel_rfl) (fun _ _ _ h => h) (Or.inr ⟨by rfl, rfl⟩) ?_ ?_; rotate_left; (focus simp only [Act.put, List.setIfInBounds_toArray, List.set_cons_zero, List.set_cons_succ, i64_w, i32_w, u8_w, u8_tm, u8_c, u8_cm]; rfl)))
         refine go_out ?_
         refine done_ (done_of HT_.out (by kernel_rfl)) ?_
         have qz43 : ((wrap64 ((l1.length : Int) - x7_2)) : Int) ≤ ((l1.length : Int) : Int) := q15 (by assumption)
         obtain ⟨i043, hi043, _, hsz43, _⟩ := info_parts info69
         have hroom43 : l1.length ≤ c1 := (Kd.V_reads' HO_1.out).2.1
         have hC43 : Kd.F k69 _ _ A1 l1.length l1 := (Kd.V_at (base := w.heap.size) HO_1.out).2.2
         have ql43 : (x6_3 : Int) ≤ ((wrap64 ((l1.length : Int) - x7_2)) : Int) := q15 (by assumption)
         have qz043 : (0 : Int) ≤ (x6_3 : Int) := q15 (by assumption)
         have hcut43 := cut_mid (P := Try.prog) 22 69 .i64 .i64 Try.underlying22 hi043 9 hsz43 A1 l1.length c1 x6_3 (wrap64 ((l1.length : Int) - x7_2)) qz043 ql43 qz43 hroom43
         have hr43 := Kd.F_mid (lo := (x6_3 : Int).toNat) (hi := ((wrap64 ((l1.length : Int) - x7_2)) : Int).toNat) (c := c1) hC43 (by omega) (by omega) hroom43
         obtain ⟨A43, hA43⟩ : ∃ Aw_, Aw_ = (if c1 = (x6_3 : Int).toNat then A1 else (A1 : Option Addr).map (·.add ((x6_3 : Int).toNat * 9))) := ⟨_, rfl⟩
         obtain ⟨c43, hc43⟩ : ∃ cw_, cw_ = c1 - (x6_3 : Int).toNat := ⟨_, rfl⟩
         have hy43 : y270.length = ((wrap64 ((l1.length : Int) - x7_2)) : Int).toNat - (x6_3 : Int).toNat := (by rw [Ny270.out, List.length_drop, List.length_take] <;> omega)
         rw [show ((l1).take ((wrap64 ((l1.length : Int) - x7_2)) : Int).toNat).drop (x6_3 : Int).toNat = y270 from Ny270.out.symm] at hr43
         replace hr43 : Kd.F k69 _ _ A43 y270.length y270 := (by rw [hA43]; exact hr43)
         rw [← hy43, ← hA43, ← hc43] at hcut43
         have HO274 := q13 (show Kd.V k69 69 _ w.heap.size _ (.slice A43 y270.length c43) y270 from Kd.V_mk (by rw [hy43, hc43]; exact Nat.sub_le_sub_right (Nat.le_trans (by omega) hroom43) _) hr43)
         have HC274 := q13 (show y270.length ≤ c43 from by rw [hy43, hc43]; exact Nat.sub_le_sub_right (Nat.le_trans (by omega) hroom43) _)
         clear hr43 hC43 hroom43 hi043 hsz43 hc43
         have KY43 := q13 hy43
         have KA43 := q13 hA43
         clear hy43 hA43
         replace qz43 := eq_true qz43
         try go_wp2_with (first | ((with_reducible refine gate_callee (f := 29) rfl ?_); refine goesL_ (some 69) rfl rfl Try.func29 (by kernel_rfl) rfl #[.slice A43 y270.length c43] rfl (by (try simp only [List.map_toArray, List.map_cons, List.map_nil]); first | done | rfl | (simp only [List.length_drop, List.length_take]; rfl)) ?_; (with_reducible refine (compare_own.calls k2 (fun k_ => ((P1_ k_ ∨ w.heap.size ≤ k_) ∧ k_ ≠ gb255)) _ _ y270 t275 _ ?side1 A41.out).mono ?_); (case side1 => exact HO274.out); rintro e w44 ⟨v276, rfl, ho0, hb⟩; refine ⟨_, rfl, ?_⟩; have n0_ := q13 (Kd.V_elder' (gV HO_1) (by first | exact q43 ho0 | exact q44 ho0 | exact Kd.S_base ho0) hb); have n1_ := q13 (Kd.V_elder' (gV HO274) (by first | exact q43 ho0 | exact q44 ho0 | exact Kd.S_base ho0) hb); have n2_ := q13 (Kd.N_lower (Kd.N_mono (ok' := fun k_ => (P1_ k_ ∨ w.heap.size ≤ k_) ∧ k_ ≠ gb255) ho0 (fun k_ hk_ => ⟨Or.elim hk_ (fun hs_ => hs_.1) (fun hn_ => (.inr (Nat.le_trans (q7 (by repeat (first | (with_reducible first | exact HB.out | apply q3 | apply q4 | apply q5 | refine q6 ?_ GE255.out) | exact HB.out))) hn_))), Or.elim hk_ (fun hs_ => hs_.2) (fun hn_ => (Kd.freshB (g := gb255) (o := .cells #[.int .i64 0, .int .i64 0, .slice none 0 0] 39 (0, 0)) (gK BK255) k_ hn_))⟩)) (q7 (by repeat (first | (with_reducible first | exact HB.out | apply q3 | apply q4 | apply q5 | refine q6 ?_ GE255.out) | exact HB.out)))); have n3_ := q13 (q8 (g := gb255) (o := .cells #[.int .i64 0, .int .i64 0, .slice none 0 0] 39 (0, 0)) (gK BK255) hb); have n4_ := q13 (q12 (by repeat (first | (with_reducible first | exact HB.out | apply q3 | apply q4 | apply q5 | refine q6 ?_ GE255.out) | exact HB.out)) hb); clear HO_1; clear HO274; clear BK255; clear HB; have HO_1 := n0_; have HO274 := n1_; have HO277 := n2_; have BK255 := n3_; have HB := n4_; clear n0_ n1_ n2_ n3_ n4_; (try clear hb); (try clear hb2); (try clear hk); (try clear hi); (try clear ho0); obtain ⟨Ao45, co45, eo45⟩ := Kd.N_slice HO277.out; subst eo45; have hcz46_0 : w44.cell? ⟨gb255, 0, none⟩ = some (.int .i64 0) := (q9 BK255.out 0).trans rfl; have hcz46_1 : w44.cell? ⟨gb255, 1, none⟩ = some (.int .i64 0) := (q9 BK255.out 1).trans rfl; have hcz46_2 : w44.cell? ⟨gb255, 2, none⟩ = some (.slice none 0 0) := (q9 BK255.out 2).trans rfl; have hfz46_0 := q11 BK255.out 0; have hfz46_1 := q11 BK255.out 1; have hfz46_2 := q11 BK255.out 2))
         refine bodyPost_ret (results_cell_row rfl _ _ gb255 39 #[.int .i64 x6_3, .int .i64 (wrap64 ((wrap64 ((l0.length : Int) - x6_3)) - x7_2)), .slice Ao45 t275.length co45] (0, 0) _ rfl (by (with_reducible repeat (first | refine q0 ?_ _ | refine q1 ?_ | refine q2 ?_ _)); refine blk_put (cs := #[.int .i64 x6_3, .int .i64 (wrap64 ((wrap64 ((l0.length : Int) - x6_3)) - x7_2)), .slice none 0 0]) ?_ 2 _ rfl; (with_reducible repeat (first | refine q0 ?_ _ | refine q1 ?_ | refine q2 ?_ _)); refine blk_put (cs := #[.int .i64 x6_3, .int .i64 0, .slice none 0 0]) ?_ 1 _ rfl; (with_reducible repeat (first | refine q0 ?_ _ | refine q1 ?_ | refine q2 ?_ _)); refine blk_put (cs := #[.int .i64 0, .int .i64 0, .slice none 0 0]) ?_ 0 _ rfl; (with_reducible repeat (first | refine q0 ?_ _ | refine q1 ?_ | refine q2 ?_ _)); exact BK255.out) Try.underlying39 rfl (by kernel_rfl)) rfl ?_
         exact ⟨_, by first | rfl | (simp [errW_none, errW_some] <;> rfl) | (simp only [← hji3]; first | rfl | (simp [errW_none, errW_some] <;> rfl)) | (simp [*, errW_none, errW_some] <;> rfl), by (with_reducible repeat (first | apply Kd.N_alloc | apply Kd.N_drewN | apply Kd.N_drew)); exact Kd.N_mono (Kd.N_far (p := ⟨gb255, 2, none⟩) (Kd.N_far (p := ⟨gb255, 1, none⟩) (Kd.N_far (p := ⟨gb255, 0, none⟩) (Kd.N_mono HO277.out (fun k_ hk => (⟨hk, hk.2⟩ : _ ∧ k_ ≠ gb255))) (fun _ hk => hk.2) (.int .i64 x6_3)) (fun _ hk => hk.2) (.int .i64 (wrap64 ((wrap64 ((l0.length : Int) - x6_3)) - x7_2)))) (fun _ hk => hk.2) (.slice Ao45 t275.length co45)) (fun _ hk => hk.1.1), by repeat (first | (with_reducible first | exact HB.out | apply q3 | apply q4 | apply q5 | refine q6 ?_ GE255.out) | exact HB.out)⟩
        ·rw [if_neg c40] at H
         exact absurd H (by simp)
       ·rw [if_neg c39] at H
        exact absurd H (by simp)
      ·rw [if_neg c38] at H
       exact absurd H (by simp)

end Go.Proofs.Ytgjmljjnminefaa.QCP
