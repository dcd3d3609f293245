import Derived.Lib.SliceRun
import Derived.Test.YtgjmljjnminefaaQCPx0
import Derived.Test.YtgjmljjnminefaaQCPx8
import Derived.Test.YtgjmljjnminefaaQCPx10
import Derived.Test.YtgjmljjnminefaaQCPx11
import Derived.Test.YtgjmljjnminefaaQCPx12
import Derived.Test.YtgjmljjnminefaaQCPx13
import Derived.Test.YtgjmljjnminefaaQCPx14
import Derived.Test.YtgjmljjnminefaaFGrowCP
import Derived.Test.YtgjmljjnminefaaArrEq
import Derived.Test.YtgjmljjnminefaaZip
import Derived.Test.YtgjmljjnminefaaZip2
namespace Go.Proofs.Ytgjmljjnminefaa.QCP
open Go.Proofs.Ytgjmljjnminefaa.Zip2 Go.Proofs.Ytgjmljjnminefaa.Zip Go.RowKit Go.Proofs.YtgjmljjnminefaaW.PrintWords Go.Proofs.YtgjmljjnminefaaW.PrintLast Go.Proofs.YtgjmljjnminefaaW.PrintMore
attribute [local go_sem] max2_int min2_int max_two min_two max_three min_three max_four min_four   -- for this text's walks alone
set_option linter.unusedVariables false
set_option linter.unusedSimpArgs false

def frisketref36_Use.j0 : Nat → List (S69) → Bool → Int → Int → List (S69) → Option ((List (S69)) × Int)
 | 0, _, _, _, _, _ => none
 | k + 1, x0, x31, x357000, x357001, x357002 => if x31 = true then (some (([] : List (S69)), 1)) else (if 0 ≤ x357000 then (if x357000 ≤ (x0.length : Int) then ((frisketref36_Own.f k (x0.take (x357000 : Int).toNat)).bind fun t362 => ((frisketref36_Own.f k x357002).bind fun t365 => (if t362.length + t365.length < 1256584717458 then ((some (t362 ++ t365 : List (S69))).bind fun y368 => (if 0 ≤ (wrap64 (x357000 + x357001)) then (if (wrap64 (x357000 + x357001)) ≤ (x0.length : Int) then ((frisketref36_Own.f k (x0.drop ((wrap64 (x357000 + x357001)) : Int).toNat)).bind fun t376 => (if y368.length + t376.length < 1256584717458 then (some ((y368 ++ t376), 0)) else (none))) else (none)) else (none))) else (none)))) else (none)) else (none))
def frisketref36_Use.f (k : Nat) (l0 : List (S69)) (a1_0 : Int) (a1_1 : Int) (l1_2 : List (S69)) : Option ((List (S69)) × Int) := if a1_0 < 0 then (frisketref36_Use.j0 k l0 true a1_0 a1_1 l1_2) else (if a1_1 < 0 then (frisketref36_Use.j0 k l0 true a1_0 a1_1 l1_2) else (if a1_0 > (l0.length : Int) then (frisketref36_Use.j0 k l0 true a1_0 a1_1 l1_2) else (frisketref36_Use.j0 k l0 (decide (a1_1 > (wrap64 ((l0.length : Int) - a1_0)))) a1_0 a1_1 l1_2)))
theorem frisketref36_Use.mono_l : ∀ k, (∀ y0 y1 y2 y3 y4, LeO (frisketref36_Use.j0 k y0 y1 y2 y3 y4) (frisketref36_Use.j0 (k + 1) y0 y1 y2 y3 y4))
 | 0 => fun _ _ _ _ _ r h => by simp [frisketref36_Use.j0] at h
 | k + 1 => by
  have ih0 := frisketref36_Use.mono_l k
  ·intro y0 y1 y2 y3 y4
   unfold frisketref36_Use.j0
   repeat' first
   | (with_reducible exact ih0 _ _ _ _ _)
   | (with_reducible exact frisketref36_Own.mono _ _)
   | (with_reducible exact LeO.refl _)
   | (with_reducible exact LeO.none _)
   | (with_reducible refine LeO.ite ?_ ?_)
   | (with_reducible refine LeO.bind ?_ (fun _ => ?_))
   | exact ih0 _ _ _ _ _
   | exact frisketref36_Own.mono _ _
   | exact LeO.none _
   | refine LeO.ite ?_ ?_
   | refine LeO.bind ?_ (fun _ => ?_)
theorem frisketref36_Use.mono : ∀ a0 a1 a2 a3 k, LeO (frisketref36_Use.f k a0 a1 a2 a3) (frisketref36_Use.f (k + 1) a0 a1 a2 a3) := by
 intro a0 a1 a2 a3 k
 have ih0 := frisketref36_Use.mono_l k
 unfold frisketref36_Use.f
 repeat' first
   | (with_reducible exact ih0 _ _ _ _ _)
   | (with_reducible exact frisketref36_Own.mono _ _)
   | (with_reducible exact LeO.refl _)
   | (with_reducible exact LeO.none _)
   | (with_reducible refine LeO.ite ?_ ?_)
   | (with_reducible refine LeO.bind ?_ (fun _ => ?_))
   | exact ih0 _ _ _ _ _
   | exact frisketref36_Own.mono _ _
   | exact LeO.none _
   | refine LeO.ite ?_ ?_
   | refine LeO.bind ?_ (fun _ => ?_)
def frisketref36_Use.T3 : Bool × List (List Nat × List Nat) := (true, [([], []), ([], []), ([1], [1]), ([0, 2], [0, 2]), ([3], [3]), ([], []), ([5], [5]), ([6, 4], [6]), ([4, 7, 7], [4, 7]), ([8, 8, 0, 1, 2, 3, 4, 5, 6, 7, 8], [8])])
def frisketref36_Use.B3 : List Nat := [0, 0, 2, 7, 15, 0, 32, 127, 255, 511]
theorem frisketref36_Use.tab3 : rtab .any (opsOf Try.f21 3) = frisketref36_Use.T3 := by kernel_rfl
theorem frisketref36_Use.bits3 : waitsOk frisketref36_Use.T3.2 frisketref36_Use.B3 = true := by kernel_rfl
set_option maxHeartbeats 8000000 in
set_option maxRecDepth 100000 in
theorem frisketref36_Use.calls (k : Nat) (P0_ : Nat → Prop) (A0 : Option Addr) (c0 : Nat) (l0 : List (S69)) (a1_0 : Int) (a1_1 : Int) (P1_2_ : Nat → Prop) (A1_2 : Option Addr) (c1_2 : Nat) (l1_2 : List (S69)) (r1 : List (S69)) (r2 : Int) (w : World) (hs0 : Kd.V k69 69 w w.heap.size (fun k_ => P0_ k_) (.slice A0 l0.length c0) l0) (hs1_2 : Kd.V k69 69 w w.heap.size (fun k_ => P1_2_ k_) (.slice A1_2 l1_2.length c1_2) l1_2) (h : frisketref36_Use.f k l0 a1_0 a1_1 l1_2 = some (r1, r2)) :
  Calls Try.prog 21 #[.slice A0 l0.length c0, .agg #[.int .i64 a1_0, .int .i64 a1_1, .slice A1_2 l1_2.length c1_2]] w fun e w' => ∃ v0_ : Value, e = .returned (.tuple #[v0_, .int .i64 r2]) ∧ Kd.N k69 69 w' w.heap.size (fun k_ => ((P0_ k_ ∨ P1_2_ k_) ∨ w.heap.size ≤ k_)) v0_ r1 ∧ Below w.heap.size w w' := by
 have hu43 := Try.underlying43
 have HO0 := q13 (show Kd.V k69 69 w w.heap.size (fun k_ => ((P0_ k_ ∨ P1_2_ k_) ∨ w.heap.size ≤ k_)) (.slice A0 l0.length c0) l0 from Kd.V_mono hs0 (fun k_ hk => .inl (.inl hk)))
 have HO1_2 := q13 (show Kd.V k69 69 w w.heap.size (fun k_ => ((P0_ k_ ∨ P1_2_ k_) ∨ w.heap.size ≤ k_)) (.slice A1_2 l1_2.length c1_2) l1_2 from Kd.V_mono hs1_2 (fun k_ hk => .inl (.inr hk)))
 have HB := q13 (Below.refl w.heap.size w)
 have H : (if a1_0 < 0 then (frisketref36_Use.j0 k l0 true a1_0 a1_1 l1_2) else (if a1_1 < 0 then (frisketref36_Use.j0 k l0 true a1_0 a1_1 l1_2) else (if a1_0 > (l0.length : Int) then (frisketref36_Use.j0 k l0 true a1_0 a1_1 l1_2) else (frisketref36_Use.j0 k l0 (decide (a1_1 > (wrap64 ((l0.length : Int) - a1_0)))) a1_0 a1_1 l1_2)))) = some (r1, r2) := h
 clear h
 have HC3 := q13 H
 clear H
 go_enter Try.func21, Try.ntmps21
 go_upto_region 1 with (first | ((with_reducible refine gate_dst (N := 3) rfl ?_); (try (refine gate_guard (by rfl) ?_; dsimp only)); refine box_event ?hg (N := 3) ?hd (cs := #[.int .i64 a1_0, .int .i64 a1_1, .slice A1_2 l1_2.length c1_2]) (t := 43) ?hr ?_; (case hd => rfl); (case hg => rfl); (case hr => first | (go_simp; done) | (go_simp; rfl)); intro gb356 hg w4 hbox hb; have n0_ := q13 (Kd.V_below (Kd.V_elderB (gV HO0) gb356 (Nat.le_of_eq hg.symm)) hb); have n1_ := q13 (Kd.V_below (Kd.V_elderB (gV HO1_2) gb356 (Nat.le_of_eq hg.symm)) hb); have n2_ := q13 (q12 (gB HB) hb); have n3_ := q13 (hbox); have n4_ := q13 ((by rw [hg]; exact (q7 (gB HB)) : w.heap.size ≤ gb356)); have n5_ := q13 ((by rw [hg]; exact (q7 (gB HB)) : w.heap.size ≤ gb356)); clear HO0; clear HO1_2; clear HB; have HO0 := n0_; have HO1_2 := n1_; have HB := n2_; have BK356 := n3_; have GW356 := n4_; have GE356 := n5_; clear n0_ n1_ n2_ n3_ n4_ n5_; clear hb hbox hg))
 (try simp only [Act.put, List.setIfInBounds_toArray, List.set_cons_zero, List.set_cons_succ])
 go_cut [31] (fun v31 wc => ∃ (kq : Nat) (x31_2 : Bool), v31 = .bool x31_2 ∧ Aside0 (frisketref36_Use.j0 kq l0 x31_2 a1_0 a1_1 l1_2 = some (r1, r2)) ∧ Aside0 (kq ≤ k) ∧ Aside0 (Kd.V k69 69 wc w.heap.size (fun k_ => ((P0_ k_ ∨ P1_2_ k_) ∨ w.heap.size ≤ k_) ∧ k_ ≠ gb356) (.slice A0 l0.length c0) l0) ∧ Aside0 (Kd.V k69 69 wc w.heap.size (fun k_ => ((P0_ k_ ∨ P1_2_ k_) ∨ w.heap.size ≤ k_) ∧ k_ ≠ gb356) (.slice A1_2 l1_2.length c1_2) l1_2) ∧ Aside0 (wc.heap[gb356]? = some (.cells #[.int .i64 a1_0, .int .i64 a1_1, (.slice A1_2 l1_2.length c1_2)] 43 (0, 0))) ∧ Aside0 (Below w.heap.size w wc))
 case first =>
  have H := HC3.out
  clear HC3
  by_cases c5 : a1_0 < 0
  ·rw [if_pos c5] at H
   have c5b0 : decide (a1_0 < 0) = true := decide_eq_true c5
   clear c5
   (first | rw [c5b0] | (simp only [i64_w, i32_w]; rw [c5b0]) | skip)
   have H' := q13 H
   clear H
   have hcz6_0 : w4.cell? ⟨gb356, 0, none⟩ = some (.int .i64 a1_0) := (q9 BK356.out 0).trans rfl
   have hcz6_1 : w4.cell? ⟨gb356, 1, none⟩ = some (.int .i64 a1_1) := (q9 BK356.out 1).trans rfl
   have hcz6_2 : w4.cell? ⟨gb356, 2, none⟩ = some (.slice A1_2 l1_2.length c1_2) := (q9 BK356.out 2).trans rfl
   have hfz6_0 := q11 BK356.out 0
   have hfz6_1 := q11 BK356.out 1
   have hfz6_2 := q11 BK356.out 2
   go_wp2
   go_meet
   case rel => exact ⟨_, (true), (by first | rfl | (simp; done) | (simp [*]; done)), H', ⟨by first | omega | exact q17 _⟩, ⟨by (with_reducible repeat (first | apply Kd.V_alloc | apply Kd.V_drewN | apply Kd.V_drew)); exact HO0.out⟩, ⟨by (with_reducible repeat (first | apply Kd.V_alloc | apply Kd.V_drewN | apply Kd.V_drew)); exact HO1_2.out⟩, ⟨by (with_reducible repeat (first | refine q0 ?_ _ | refine q1 ?_ | refine q2 ?_ _)); exact BK356.out⟩, ⟨by repeat (first | (with_reducible first | exact HB.out | apply q3 | apply q4 | apply q5 | refine q6 ?_ GE356.out) | exact HB.out)⟩⟩
  ·rw [if_neg c5] at H
   have c5b0 : decide (a1_0 < 0) = false := decide_eq_false c5
   clear c5
   (first | rw [c5b0] | (simp only [i64_w, i32_w]; rw [c5b0]) | skip)
   by_cases c7 : a1_1 < 0
   ·rw [if_pos c7] at H
    have c7b0 : decide (a1_1 < 0) = true := decide_eq_true c7
    clear c7
    have H' := q13 H
    clear H
    have hcz8_0 : w4.cell? ⟨gb356, 0, none⟩ = some (.int .i64 a1_0) := (q9 BK356.out 0).trans rfl
    have hcz8_1 : w4.cell? ⟨gb356, 1, none⟩ = some (.int .i64 a1_1) := (q9 BK356.out 1).trans rfl
    have hcz8_2 : w4.cell? ⟨gb356, 2, none⟩ = some (.slice A1_2 l1_2.length c1_2) := (q9 BK356.out 2).trans rfl
    have hfz8_0 := q11 BK356.out 0
    have hfz8_1 := q11 BK356.out 1
    have hfz8_2 := q11 BK356.out 2
    go_wp2
    go_meet
    case rel => exact ⟨_, (true), (by first | rfl | (simp; done) | (simp [*]; done)), H', ⟨by first | omega | exact q17 _⟩, ⟨by (with_reducible repeat (first | apply Kd.V_alloc | apply Kd.V_drewN | apply Kd.V_drew)); exact HO0.out⟩, ⟨by (with_reducible repeat (first | apply Kd.V_alloc | apply Kd.V_drewN | apply Kd.V_drew)); exact HO1_2.out⟩, ⟨by (with_reducible repeat (first | refine q0 ?_ _ | refine q1 ?_ | refine q2 ?_ _)); exact BK356.out⟩, ⟨by repeat (first | (with_reducible first | exact HB.out | apply q3 | apply q4 | apply q5 | refine q6 ?_ GE356.out) | exact HB.out)⟩⟩
   ·rw [if_neg c7] at H
    have c7b0 : decide (a1_1 < 0) = false := decide_eq_false c7
    clear c7
    by_cases c9 : a1_0 > (l0.length : Int)
    ·rw [if_pos c9] at H
     have c9b0 : decide ((l0.length : Int) < a1_0) = true := decide_eq_true c9
     clear c9
     have H' := q13 H
     clear H
     have hcz10_0 : w4.cell? ⟨gb356, 0, none⟩ = some (.int .i64 a1_0) := (q9 BK356.out 0).trans rfl
     have hcz10_1 : w4.cell? ⟨gb356, 1, none⟩ = some (.int .i64 a1_1) := (q9 BK356.out 1).trans rfl
     have hcz10_2 : w4.cell? ⟨gb356, 2, none⟩ = some (.slice A1_2 l1_2.length c1_2) := (q9 BK356.out 2).trans rfl
     have hfz10_0 := q11 BK356.out 0
     have hfz10_1 := q11 BK356.out 1
     have hfz10_2 := q11 BK356.out 2
     go_wp2
     go_meet
     case rel => exact ⟨_, (true), (by first | rfl | (simp; done) | (simp [*]; done)), H', ⟨by first | omega | exact q17 _⟩, ⟨by (with_reducible repeat (first | apply Kd.V_alloc | apply Kd.V_drewN | apply Kd.V_drew)); exact HO0.out⟩, ⟨by (with_reducible repeat (first | apply Kd.V_alloc | apply Kd.V_drewN | apply Kd.V_drew)); exact HO1_2.out⟩, ⟨by (with_reducible repeat (first | refine q0 ?_ _ | refine q1 ?_ | refine q2 ?_ _)); exact BK356.out⟩, ⟨by repeat (first | (with_reducible first | exact HB.out | apply q3 | apply q4 | apply q5 | refine q6 ?_ GE356.out) | exact HB.out)⟩⟩
    ·rw [if_neg c9] at H
     have c9b0 : decide ((l0.length : Int) < a1_0) = false := decide_eq_false c9
     clear c9
     have H' := q13 H
     clear H
     have hcz11_0 : w4.cell? ⟨gb356, 0, none⟩ = some (.int .i64 a1_0) := (q9 BK356.out 0).trans rfl
     have hcz11_1 : w4.cell? ⟨gb356, 1, none⟩ = some (.int .i64 a1_1) := (q9 BK356.out 1).trans rfl
     have hcz11_2 : w4.cell? ⟨gb356, 2, none⟩ = some (.slice A1_2 l1_2.length c1_2) := (q9 BK356.out 2).trans rfl
     have hfz11_0 := q11 BK356.out 0
     have hfz11_1 := q11 BK356.out 1
     have hfz11_2 := q11 BK356.out 2
     go_wp2
     go_meet
     case rel => exact ⟨_, (decide (a1_1 > (wrap64 ((l0.length : Int) - a1_0)))), (by first | rfl | (simp; done) | (simp [*]; done)), H', ⟨by first | omega | exact q17 _⟩, ⟨by (with_reducible repeat (first | apply Kd.V_alloc | apply Kd.V_drewN | apply Kd.V_drew)); exact HO0.out⟩, ⟨by (with_reducible repeat (first | apply Kd.V_alloc | apply Kd.V_drewN | apply Kd.V_drew)); exact HO1_2.out⟩, ⟨by (with_reducible repeat (first | refine q0 ?_ _ | refine q1 ?_ | refine q2 ?_ _)); exact BK356.out⟩, ⟨by repeat (first | (with_reducible first | exact HB.out | apply q3 | apply q4 | apply q5 | refine q6 ?_ GE356.out) | exact HB.out)⟩⟩
 case rest =>
  clear HC3
  try clear c1
  try clear c2
  try clear p2
  try clear c5
  try clear c5b0
  try clear p6
  try clear c7
  try clear c7b0
  try clear c9
  try clear c9b0
  obtain ⟨kq, x31_2, rfl, HA, HJ2, HO_0, HO_357002, BK356, HB⟩ := hcut
  cases kq with
  | zero => exact absurd HA.out (by simp [frisketref36_Use.j0])
  | succ kj2 =>
   have H := HA.out
   clear HA
   simp only [frisketref36_Use.j0] at H
   by_cases c12 : x31_2 = true
   ·subst c12
    have H1 : (some (([] : List (S69)), 1)) = some (r1, r2) := by rw [if_pos rfl] at H; exact H
    clear H
    have H := H1
    clear H1
    simp only [Option.some.injEq, Prod.mk.injEq] at H
    obtain ⟨rfl, rfl⟩ := H
    go_wp2
    go_ret2
    exact ⟨_, by first | rfl | (simp [errW_none, errW_some] <;> rfl) | (simp [*, errW_none, errW_some] <;> rfl), by first | exact Kd.S_nil _ _ _ _ _ | exact Kd.N_nil _ _ _ _ _ | exact Kd.V_nil _ _ _ _ _ | exact Kd.Q_nil _ _ _ _ _ | exact Kd.R_nil _ _ _ _ _, by repeat (first | (with_reducible first | exact HB.out | apply q3 | apply q4 | apply q5 | refine q6 ?_ GE356.out) | exact HB.out)⟩
   ·replace c12 := Bool.eq_false_iff.mpr c12
    subst c12
    have H1 : (if 0 ≤ a1_0 then (if a1_0 ≤ (l0.length : Int) then ((frisketref36_Own.f kj2 (l0.take (a1_0 : Int).toNat)).bind fun t362 => ((frisketref36_Own.f kj2 l1_2).bind fun t365 => (if t362.length + t365.length < 1256584717458 then ((some (t362 ++ t365 : List (S69))).bind fun y368 => (if 0 ≤ (wrap64 (a1_0 + a1_1)) then (if (wrap64 (a1_0 + a1_1)) ≤ (l0.length : Int) then ((frisketref36_Own.f kj2 (l0.drop ((wrap64 (a1_0 + a1_1)) : Int).toNat)).bind fun t376 => (if y368.length + t376.length < 1256584717458 then (some ((y368 ++ t376), 0)) else (none))) else (none)) else (none))) else (none)))) else (none)) else (none)) = some (r1, r2) := by rw [if_neg (show ¬ (false = true) by decide)] at H; exact H
    clear H
    have H := H1
    clear H1
    by_cases c13 : 0 ≤ a1_0
    ·rw [if_pos c13] at H
     have c13b0 := eq_true c13
     have c13b1 : decide (0 ≤ a1_0) = true := decide_eq_true c13
     clear c13
     by_cases c14 : a1_0 ≤ (l0.length : Int)
     ·rw [if_pos c14] at H
      have c14b0 := eq_true c14
      have c14b1 : decide (a1_0 ≤ (l0.length : Int)) = true := decide_eq_true c14
      clear c14
      obtain ⟨y357, hy357⟩ : ∃ y_ : List (S69), y_ = (l0.take (a1_0 : Int).toNat) := ⟨_, rfl⟩
      replace H : ((frisketref36_Own.f kj2 y357).bind fun t362 => ((frisketref36_Own.f kj2 l1_2).bind fun t365 => (if t362.length + t365.length < 1256584717458 then ((some (t362 ++ t365 : List (S69))).bind fun y368 => (if 0 ≤ (wrap64 (a1_0 + a1_1)) then (if (wrap64 (a1_0 + a1_1)) ≤ (l0.length : Int) then ((frisketref36_Own.f kj2 (l0.drop ((wrap64 (a1_0 + a1_1)) : Int).toNat)).bind fun t376 => (if y368.length + t376.length < 1256584717458 then (some ((y368 ++ t376), 0)) else (none))) else (none)) else (none))) else (none)))) = some (r1, r2) := by first | (rw [hy357]; with_reducible exact H) | (have H2_ := (Option.bind_some _ _).symm.trans H; rw [hy357]; with_reducible exact H2_) | (have H2_ := (Option.bind_some _ _).symm.trans H; with_reducible exact H2_) | with_reducible exact H | (rw [hy357]; exact H) | exact H
      have Ny357 := q13 hy357
      clear hy357
      replace H := Option.bind_eq_some_iff.mp H
      obtain ⟨t362, A150, H⟩ := H
      replace H : ((frisketref36_Own.f kj2 l1_2).bind fun t365 => (if t362.length + t365.length < 1256584717458 then ((some (t362 ++ t365 : List (S69))).bind fun y368 => (if 0 ≤ (wrap64 (a1_0 + a1_1)) then (if (wrap64 (a1_0 + a1_1)) ≤ (l0.length : Int) then ((frisketref36_Own.f kj2 (l0.drop ((wrap64 (a1_0 + a1_1)) : Int).toNat)).bind fun t376 => (if y368.length + t376.length < 1256584717458 then (some ((y368 ++ t376), 0)) else (none))) else (none)) else (none))) else (none))) = some (r1, r2) := H
      have A15 := q13 A150
      clear A150
      replace H := Option.bind_eq_some_iff.mp H
      obtain ⟨t365, A160, H⟩ := H
      replace H : (if t362.length + t365.length < 1256584717458 then ((some (t362 ++ t365 : List (S69))).bind fun y368 => (if 0 ≤ (wrap64 (a1_0 + a1_1)) then (if (wrap64 (a1_0 + a1_1)) ≤ (l0.length : Int) then ((frisketref36_Own.f kj2 (l0.drop ((wrap64 (a1_0 + a1_1)) : Int).toNat)).bind fun t376 => (if y368.length + t376.length < 1256584717458 then (some ((y368 ++ t376), 0)) else (none))) else (none)) else (none))) else (none)) = some (r1, r2) := H
      have A16 := q13 A160
      clear A160
      by_cases c17 : t362.length + t365.length < 1256584717458
      ·rw [if_pos c17] at H
       have LMc17 := q13 c17
       clear c17
       obtain ⟨y368, hy368⟩ : ∃ y_ : List (S69), y_ = (t362 ++ t365) := ⟨_, rfl⟩
       replace H : (if 0 ≤ (wrap64 (a1_0 + a1_1)) then (if (wrap64 (a1_0 + a1_1)) ≤ (l0.length : Int) then ((frisketref36_Own.f kj2 (l0.drop ((wrap64 (a1_0 + a1_1)) : Int).toNat)).bind fun t376 => (if y368.length + t376.length < 1256584717458 then (some ((y368 ++ t376), 0)) else (none))) else (none)) else (none)) = some (r1, r2) := by first | (rw [hy368]; with_reducible exact H) | (have H2_ := (Option.bind_some _ _).symm.trans H; rw [hy368]; with_reducible exact H2_) | (have H2_ := (Option.bind_some _ _).symm.trans H; with_reducible exact H2_) | with_reducible exact H | (rw [hy368]; exact H) | exact H
       have Ny368 := q13 hy368
       clear hy368
       obtain ⟨ji18, hji18⟩ : ∃ j_ : Int, (wrap64 (a1_0 + a1_1)) = j_ := ⟨_, rfl⟩
       replace H : (if 0 ≤ (ji18) then (if (ji18) ≤ (l0.length : Int) then ((frisketref36_Own.f kj2 (l0.drop ((ji18) : Int).toNat)).bind fun t376 => (if y368.length + t376.length < 1256584717458 then (some ((y368 ++ t376), 0)) else (none))) else (none)) else (none)) = some (r1, r2) := by first | (rw [hji18] at H; exact H) | (simp only [hji18] at H ⊢; exact H)
       (try rw [hji18] at A15)
       (try rw [hji18] at A16)
       have hji18w : (IntKind.i64.wrap (a1_0 + a1_1)) = ji18 := (i64_w _).trans hji18
       by_cases c19 : 0 ≤ (ji18)
       ·rw [if_pos c19] at H
        have c19b0 := eq_true c19
        have c19b1 : decide (0 ≤ (ji18)) = true := decide_eq_true c19
        clear c19
        by_cases c20 : (ji18) ≤ (l0.length : Int)
        ·rw [if_pos c20] at H
         have c20b0 := eq_true c20
         have c20b1 : decide ((ji18) ≤ (l0.length : Int)) = true := decide_eq_true c20
         clear c20
         obtain ⟨y371, hy371⟩ : ∃ y_ : List (S69), y_ = (l0.drop ((ji18) : Int).toNat) := ⟨_, rfl⟩
         replace H : ((frisketref36_Own.f kj2 y371).bind fun t376 => (if y368.length + t376.length < 1256584717458 then (some ((y368 ++ t376), 0)) else (none))) = some (r1, r2) := by first | (rw [hy371]; with_reducible exact H) | (have H2_ := (Option.bind_some _ _).symm.trans H; rw [hy371]; with_reducible exact H2_) | (have H2_ := (Option.bind_some _ _).symm.trans H; with_reducible exact H2_) | with_reducible exact H | (rw [hy371]; exact H) | exact H
         have Ny371 := q13 hy371
         clear hy371
         replace H := Option.bind_eq_some_iff.mp H
         obtain ⟨t376, A210, H⟩ := H
         replace H : (if y368.length + t376.length < 1256584717458 then (some ((y368 ++ t376), 0)) else (none)) = some (r1, r2) := H
         have A21 := q13 A210
         clear A210
         by_cases c22 : y368.length + t376.length < 1256584717458
         ·rw [if_pos c22] at H
          have LMc22 := q13 c22
          clear c22
          obtain ⟨y379, hy379⟩ : ∃ y_ : List (S69), y_ = (y368 ++ t376) := ⟨_, rfl⟩
          replace H : (some (y379, 0)) = some (r1, r2) := by first | (rw [hy379]; with_reducible exact H) | (have H2_ := (Option.bind_some _ _).symm.trans H; rw [hy379]; with_reducible exact H2_) | (have H2_ := (Option.bind_some _ _).symm.trans H; with_reducible exact H2_) | with_reducible exact H | (rw [hy379]; exact H) | exact H
          have Ny379 := q13 hy379
          clear hy379
          simp only [Option.some.injEq, Prod.mk.injEq] at H
          obtain ⟨rfl, rfl⟩ := H
          try go_wp2
          have n0_ := q13 (Kd.V_drew HO_0.out)
          have n1_ := q13 (Kd.V_drew HO_357002.out)
          have n2_ := q13 (q1 BK356.out)
          have n3_ := q13 (q5 HB.out)
          clear HO_0
          clear HO_357002
          clear BK356
          clear HB
          have HO_0 := n0_
          have HO_357002 := n1_
          have BK356 := n2_
          have HB := n3_
          clear n0_ n1_ n2_ n3_
          have qz24 : (a1_0 : Int) ≤ ((l0.length : Int) : Int) := q15 (by assumption)
          obtain ⟨i024, hi024, _, hsz24, _⟩ := info_parts info69
          have hroom24 : l0.length ≤ c0 := (Kd.V_reads' HO_0.out).2.1
          have hC24 : Kd.F k69 _ _ A0 l0.length l0 := (Kd.V_at (base := w.heap.size) HO_0.out).2.2
          have hcut24 := cut_to (P := Try.prog) 22 69 .i64 Try.underlying22 hi024 A0 l0.length c0 a1_0 (q15 (by assumption)) qz24 hroom24
          have hr24 := Kd.F_take (m := (a1_0 : Int).toNat) hC24 (by omega)
          have hy24 : y357.length = (a1_0 : Int).toNat := (by rw [Ny357.out, List.length_take]; omega)
          rw [← Ny357.out] at hr24
          rw [← hy24] at hcut24
          have HO361 := q13 (show Kd.V k69 69 _ w.heap.size _ (.slice A0 y357.length c0) y357 from Kd.V_mk (by omega) hr24)
          have HC361 := q13 (show y357.length ≤ c0 from by omega)
          clear hr24 hC24 hroom24 hi024 hsz24
          have KY24 := q13 hy24
          clear hy24
          replace qz24 := eq_true qz24
          refine start_ (n := 10) (S := fun w' => w'.cell? ⟨gb356, 0, none⟩ = some (.int .i64 a1_0) ∧ w'.cell? ⟨gb356, 1, none⟩ = some (.int .i64 a1_1) ∧ w'.cell? ⟨gb356, 2, none⟩ = some (.slice A1_2 l1_2.length c1_2)) (ds := []) (Array.replicate 10 false) (by kernel_rfl) rfl rfl ⟨(q9 BK356.out 0).trans rfl, (q9 BK356.out 1).trans rfl, (q9 BK356.out 2).trans rfl⟩ (fun hHeld => ?_); refine with_tabW frisketref36_Use.tab3 frisketref36_Use.bits3 (fun HT_ HW_ => ?_)
          generalize wc.drew = w23 at HO_0 HO_357002 BK356 HB HO361 hHeld ⊢
          refine go_in [0, 1, 5, 2, 3, 6] ?_
          repeat (first | (refine pz (v := ?_) (a' := ?_) HT_ rfl rfl (by kernel_rfl) (fun _ _ _ h => h) (Or.inl ⟨by rfl, ?_⟩) ?_ ?_; rotate_left; (focus intro w'; go_simp; with_reducible rfl); rotate_left; (focus simp only [Act.put, List.setIfInBounds_toArray, List.set_cons_zero, List.set_cons_succ, i64_w, i32_w, u8_w, u8_tm, u8_c, u8_cm]; rfl)) | (refine tz (v := ?_) (a' := ?_) HT_ HW_ rfl rfl hHeld (by kernel_rfl) (fun _ _ _ h => h) (Or.inl ⟨by rfl, ?_⟩) ?_ ?_; rotate_left; (focus rintro w' ⟨s0, s1, s2⟩; go_simp; with_reducible rfl); rotate_left; (focus simp only [Act.put, List.setIfInBounds_toArray, List.set_cons_zero, List.set_cons_succ, i64_w, i32_w, u8_w, u8_tm, u8_c, u8_cm]; rfl)))
          refine go_out ?_
          refine one_ (i := 4) (N := some 36) (fl 10 7 []) rfl rfl (one_of HT_.out (by kernel_rfl)) (by decide) (fun K hK => ?_)
          refine goes_ Try.func30 (by kernel_rfl) rfl #[.slice A0 y357.length c0] (by rfl) rfl rfl (by (try simp only [List.map_toArray, List.map_cons, List.map_nil]); first | done | rfl | (simp only [List.length_drop, List.length_take]; rfl)) ?_
          with_reducible refine (frisketref36_Own.calls kj2 (fun k_ => (((P0_ k_ ∨ P1_2_ k_) ∨ w.heap.size ≤ k_) ∧ k_ ≠ gb356)) _ _ y357 t362 _ ?side1 A15.out).mono ?_
          (case side1 => exact HO361.out)
          rintro e w25 ⟨v363, rfl, ho0, hb⟩
          refine ⟨_, rfl, ?_⟩
          have n0_ := q13 (Kd.V_elder' (gV HO_0) (by first | exact q43 ho0 | exact q44 ho0 | exact Kd.S_base ho0) hb)
          have n1_ := q13 (Kd.V_elder' (gV HO_357002) (by first | exact q43 ho0 | exact q44 ho0 | exact Kd.S_base ho0) hb)
          have n2_ := q13 (Kd.V_elder' (gV HO361) (by first | exact q43 ho0 | exact q44 ho0 | exact Kd.S_base ho0) hb)
          have n3_ := q13 (Kd.N_lower (Kd.N_mono (ok' := fun k_ => ((P0_ k_ ∨ P1_2_ k_) ∨ w.heap.size ≤ k_) ∧ k_ ≠ gb356) ho0 (fun k_ hk_ => ⟨Or.elim hk_ (fun hs_ => hs_.1) (fun hn_ => (.inr (Nat.le_trans (q7 (by repeat (first | (with_reducible first | exact HB.out | apply q3 | apply q4 | apply q5 | refine q6 ?_ GE356.out) | exact HB.out))) hn_))), Or.elim hk_ (fun hs_ => hs_.2) (fun hn_ => (Kd.freshB (g := gb356) (o := .cells #[.int .i64 a1_0, .int .i64 a1_1, .slice A1_2 l1_2.length c1_2] 43 (0, 0)) (gK BK356) k_ hn_))⟩)) (q7 (by repeat (first | (with_reducible first | exact HB.out | apply q3 | apply q4 | apply q5 | refine q6 ?_ GE356.out) | exact HB.out))))
          have n4_ := q13 (q8 (g := gb356) (o := .cells #[.int .i64 a1_0, .int .i64 a1_1, .slice A1_2 l1_2.length c1_2] 43 (0, 0)) (gK BK356) hb)
          have n5_ := q13 (q12 (by repeat (first | (with_reducible first | exact HB.out | apply q3 | apply q4 | apply q5 | refine q6 ?_ GE356.out) | exact HB.out)) hb)
          clear HO_0
          clear HO_357002
          clear HO361
          clear BK356
          clear HB
          have HO_0 := n0_
          have HO_357002 := n1_
          have HO361 := n2_
          have HO364 := n3_
          have BK356 := n4_
          have HB := n5_
          clear n0_ n1_ n2_ n3_ n4_ n5_
          (try clear hb)
          (try clear hb2)
          (try clear hk)
          (try clear hi)
          (try clear ho0)
          refine hK.out _ _ ⟨(q9 BK356.out 0).trans rfl, (q9 BK356.out 1).trans rfl, (q9 BK356.out 2).trans rfl⟩ (fun hHeld => ?_)
          clear hK K
          refine norm_ (a' := ?_) ?_ ?_
          rotate_left
          ·show Act.put _ (some 36) _ = _
           simp only [Act.put, List.setIfInBounds_toArray, List.set_cons_zero, List.set_cons_succ, i64_w, i32_w]
           rfl
          refine one_ (i := 7) (N := some 39) (fl 10 8 []) rfl rfl (one_of HT_.out (by kernel_rfl)) (by decide) (fun K hK => ?_)
          refine goes_ Try.func30 (by kernel_rfl) rfl #[.slice A1_2 l1_2.length c1_2] (by rfl) rfl rfl (by (try simp only [List.map_toArray, List.map_cons, List.map_nil]); first | done | rfl | (simp only [List.length_drop, List.length_take]; rfl)) ?_
          with_reducible refine (frisketref36_Own.calls kj2 (fun k_ => ((((P0_ k_ ∨ P1_2_ k_) ∨ w.heap.size ≤ k_) ∧ k_ ≠ gb356) ∧ some k_ ≠ (v363 : Value).ownBlock)) _ _ l1_2 t365 _ ?side1 A16.out).mono ?_
          (case side1 => exact HO_357002.out)
          rintro e w26 ⟨v366, rfl, ho0, hb⟩
          refine ⟨_, rfl, ?_⟩
          have n0_ := q13 (Kd.V_elder' (gV HO_0) (by first | exact q43 ho0 | exact q44 ho0 | exact Kd.S_base ho0) hb)
          have n1_ := q13 (Kd.V_elder' (gV HO_357002) (by first | exact q43 ho0 | exact q44 ho0 | exact Kd.S_base ho0) hb)
          have n2_ := q13 (Kd.V_elder' (gV HO361) (by first | exact q43 ho0 | exact q44 ho0 | exact Kd.S_base ho0) hb)
          have n3_ := q13 (Kd.N_elder' (gN HO364) (by first | exact q43 ho0 | exact q44 ho0 | exact Kd.S_base ho0) hb)
          have n4_ := q13 (Kd.N_lower (Kd.N_mono (ok' := fun k_ => ((P0_ k_ ∨ P1_2_ k_) ∨ w.heap.size ≤ k_) ∧ some k_ ≠ (v363 : Value).ownBlock ∧ k_ ≠ gb356) ho0 (fun k_ hk_ => ⟨Or.elim hk_ (fun hs_ => hs_.1.1) (fun hn_ => (.inr (Nat.le_trans (q7 (by repeat (first | (with_reducible first | exact HB.out | apply q3 | apply q4 | apply q5 | refine q6 ?_ GE356.out) | exact HB.out))) hn_))), Or.elim hk_ (fun hs_ => hs_.2) (fun hn_ => (Kd.fresh' (Kd.N_lt (gN HO364)) k_ hn_)), Or.elim hk_ (fun hs_ => hs_.1.2) (fun hn_ => (Kd.freshB (g := gb356) (o := .cells #[.int .i64 a1_0, .int .i64 a1_1, .slice A1_2 l1_2.length c1_2] 43 (0, 0)) (gK BK356) k_ hn_))⟩)) (q7 (by repeat (first | (with_reducible first | exact HB.out | apply q3 | apply q4 | apply q5 | refine q6 ?_ GE356.out) | exact HB.out))))
          have n5_ := q13 (q8 (g := gb356) (o := .cells #[.int .i64 a1_0, .int .i64 a1_1, .slice A1_2 l1_2.length c1_2] 43 (0, 0)) (gK BK356) hb)
          have n6_ := q13 (q12 (by repeat (first | (with_reducible first | exact HB.out | apply q3 | apply q4 | apply q5 | refine q6 ?_ GE356.out) | exact HB.out)) hb)
          clear HO_0
          clear HO_357002
          clear HO361
          clear HO364
          clear BK356
          clear HB
          have HO_0 := n0_
          have HO_357002 := n1_
          have HO361 := n2_
          have HO364 := n3_
          have HO367 := n4_
          have BK356 := n5_
          have HB := n6_
          clear n0_ n1_ n2_ n3_ n4_ n5_ n6_
          (try clear hb)
          (try clear hb2)
          (try clear hk)
          (try clear hi)
          (try clear ho0)
          obtain ⟨Ao28, co28, eo28⟩ := Kd.N_slice HO367.out
          (first | subst eo28 | (injection eo28 with f1_ f2_ f3_; have f4_ := f1_.symm; have f5_ := f3_.symm; clear f1_ f2_ f3_; subst f4_; subst f5_))
          refine hK.out _ _ ⟨(q9 BK356.out 0).trans rfl, (q9 BK356.out 1).trans rfl, (q9 BK356.out 2).trans rfl⟩ (fun hHeld => ?_)
          clear hK K
          refine norm_ (a' := ?_) ?_ ?_
          rotate_left
          ·show Act.put _ (some 39) _ = _
           simp only [Act.put, List.setIfInBounds_toArray, List.set_cons_zero, List.set_cons_succ, i64_w, i32_w]
           rfl
          refine one_ (i := 8) (N := some 40) (fl 10 9 []) rfl rfl (one_of HT_.out (by kernel_rfl)) (by decide) (fun K hK => ?_)
          refine Kd.N_append_rows_step k69 (w0 := w) w.heap.size (by rfl) (.tmp 36) (.tmp 39) 22 69 (.agg #[(.int .i64 0), (.int .i64 0), (.int .i64 0), (.int .i64 0), (.int .i64 0), (.string ⟨#[]⟩), (.string ⟨#[]⟩), (.string ⟨#[]⟩), (.slice none 0 0)]) 112 rfl Try.underlying22 info69 rfl (by decide) (by omega) v363 t362 t365 _ _ _ (fun k_ => ((P0_ k_ ∨ P1_2_ k_) ∨ w.heap.size ≤ k_) ∧ k_ ≠ gb356) (fun k_ => ((fun k_ => ((P0_ k_ ∨ P1_2_ k_) ∨ w.heap.size ≤ k_) ∧ k_ ≠ gb356)) k_ ∧ some k_ ≠ (v363 : Value).ownBlock) rfl rfl ?aO ?aR (fun _ hk => hk) ?aF ?aB ?aS ?aL ?_
          (case aR => exact (by skip; exact Kd.N_F (Kd.N_mono (ok' := (fun k_ => ((fun k_ => ((P0_ k_ ∨ P1_2_ k_) ∨ w.heap.size ≤ k_) ∧ k_ ≠ gb356)) k_ ∧ some k_ ≠ (v363 : Value).ownBlock)) (HO367.out) (fun k_ hk => ⟨⟨hk.1, hk.2.2⟩, hk.2.1⟩))))
          (case aB => exact (by repeat (first | (with_reducible first | exact HB.out | apply q3 | apply q4 | apply q5 | refine q6 ?_ GE356.out) | exact HB.out)))
          (case aF => exact (fun k_ hk => ⟨(.inr (Nat.le_trans (q7 (by repeat (first | (with_reducible first | exact HB.out | apply q3 | apply q4 | apply q5 | refine q6 ?_ GE356.out) | exact HB.out))) hk)), Kd.freshB (g := gb356) (o := .cells #[.int .i64 a1_0, .int .i64 a1_1, .slice A1_2 l1_2.length c1_2] 43 (0, 0)) (gK BK356) k_ hk⟩))
          (case aO => exact (by (with_reducible repeat (first | apply Kd.N_alloc | apply Kd.N_drewN | apply Kd.N_drew)); exact Kd.N_mono HO364.out (fun _ hk => ⟨hk.1.1, hk.1.2⟩)))
          (case aS => exact (q7 (by repeat (first | (with_reducible first | exact HB.out | apply q3 | apply q4 | apply q5 | refine q6 ?_ GE356.out) | exact HB.out))))
          (case aL => have := LMc17.out; omega)
          intro v369 w27 ho hb hg hat
          rw [← Ny368.out] at ho
          have n0_ := q13 (Kd.V_afterv (ok := (fun k_ => ((P0_ k_ ∨ P1_2_ k_) ∨ w.heap.size ≤ k_) ∧ some k_ ≠ (.slice Ao28 t365.length co28 : Value).ownBlock ∧ k_ ≠ gb356)) (by (with_reducible repeat (first | apply Kd.V_alloc | apply Kd.V_drewN | apply Kd.V_drew)); exact Kd.V_mono HO_0.out (fun _ hk => ⟨⟨hk.1.1.1, ⟨hk.2, hk.1.1.2⟩⟩, hk.1.2⟩)) hg hat)
          have n1_ := q13 (Kd.V_afterv (ok := (fun k_ => ((P0_ k_ ∨ P1_2_ k_) ∨ w.heap.size ≤ k_) ∧ some k_ ≠ (.slice Ao28 t365.length co28 : Value).ownBlock ∧ k_ ≠ gb356)) (by (with_reducible repeat (first | apply Kd.V_alloc | apply Kd.V_drewN | apply Kd.V_drew)); exact Kd.V_mono HO_357002.out (fun _ hk => ⟨⟨hk.1.1.1, ⟨hk.2, hk.1.1.2⟩⟩, hk.1.2⟩)) hg hat)
          have n2_ := q13 (blk_grown (g := gb356) (o := .cells #[.int .i64 a1_0, .int .i64 a1_1, .slice A1_2 l1_2.length c1_2] 43 (0, 0)) (gK BK356) hg (Kd.N_ne HO364.out BK356.out (by decide)))
          have n3_ := q13 (Kd.V_afterv (ok := (fun k_ => ((P0_ k_ ∨ P1_2_ k_) ∨ w.heap.size ≤ k_) ∧ some k_ ≠ (.slice Ao28 t365.length co28 : Value).ownBlock ∧ k_ ≠ gb356)) (by (with_reducible repeat (first | apply Kd.V_alloc | apply Kd.V_drewN | apply Kd.V_drew)); exact Kd.V_mono HO361.out (fun _ hk => ⟨⟨hk.1.1.1, ⟨hk.2, hk.1.1.2⟩⟩, hk.1.2⟩)) hg hat)
          have n4_ := q13 (Kd.N_afterv (ok := (fun k_ => ((P0_ k_ ∨ P1_2_ k_) ∨ w.heap.size ≤ k_) ∧ k_ ≠ gb356)) (by (with_reducible repeat (first | apply Kd.N_alloc | apply Kd.N_drewN | apply Kd.N_drew)); exact Kd.N_mono HO367.out (fun _ hk => ⟨⟨hk.1, hk.2.2⟩, hk.2.1⟩)) hg hat)
          have n5_ := q13 (hb)
          have n6_ := q13 (ho)
          clear HO_0
          clear HO_357002
          clear BK356
          clear HO361
          clear HO367
          clear HB
          clear HO364
          have HO_0 := n0_
          have HO_357002 := n1_
          have BK356 := n2_
          have HO361 := n3_
          have HO367 := n4_
          have HB := n5_
          have HO370 := n6_
          clear n0_ n1_ n2_ n3_ n4_ n5_ n6_
          clear ho hb hg hat
          refine hK.out _ _ ⟨(q9 BK356.out 0).trans rfl, (q9 BK356.out 1).trans rfl, (q9 BK356.out 2).trans rfl⟩ (fun hHeld => ?_)
          clear hK K
          refine norm_ (a' := ?_) ?_ ?_
          rotate_left
          ·show Act.put _ (some 40) _ = _
           simp only [Act.put, List.setIfInBounds_toArray, List.set_cons_zero, List.set_cons_succ, i64_w, i32_w]
           rfl
          refine go_in [9] ?_
          (refine pz (v := ?_) (a' := ?_) HT_ rfl rfl (by kernel_rfl) (fun _ _ _ h => h) (Or.inl ⟨by rfl, ?_⟩) ?_ ?_; rotate_left; (focus intro w'; go_simp; with_reducible rfl); rotate_left; (focus simp only [Act.put, List.setIfInBounds_toArray, List.set_cons_zero, List.set_cons_succ, i64_w, i32_w, u8_w, u8_tm, u8_c, u8_cm]; rfl))
          refine go_out ?_
          refine done_ (done_of HT_.out (by kernel_rfl)) ?_
          have hcz29_0 : w27.cell? ⟨gb356, 0, none⟩ = some (.int .i64 a1_0) := (q9 BK356.out 0).trans rfl
          have hcz29_1 : w27.cell? ⟨gb356, 1, none⟩ = some (.int .i64 a1_1) := (q9 BK356.out 1).trans rfl
          have hcz29_2 : w27.cell? ⟨gb356, 2, none⟩ = some (.slice A1_2 l1_2.length c1_2) := (q9 BK356.out 2).trans rfl
          have hfz29_0 := q11 BK356.out 0
          have hfz29_1 := q11 BK356.out 1
          have hfz29_2 := q11 BK356.out 2
          have qz30 : ((ji18) : Int) ≤ ((l0.length : Int) : Int) := q15 (by assumption)
          obtain ⟨i030, hi030, _, hsz30, _⟩ := info_parts info69
          have hroom30 : l0.length ≤ c0 := (Kd.V_reads' HO_0.out).2.1
          have hC30 : Kd.F k69 _ _ A0 l0.length l0 := (Kd.V_at (base := w.heap.size) HO_0.out).2.2
          have qz030 : (0 : Int) ≤ ((ji18) : Int) := q15 (by assumption)
          have hcut30 := cut_from (P := Try.prog) 22 69 .i64 Try.underlying22 hi030 9 hsz30 A0 l0.length c0 (ji18) qz030 qz30
          have hr30 := Kd.F_cut (m := ((ji18) : Int).toNat) (c := c0) hC30 (by omega) hroom30
          obtain ⟨A30, hA30⟩ : ∃ Aw_, Aw_ = (if c0 = ((ji18) : Int).toNat then A0 else (A0 : Option Addr).map (·.add (((ji18) : Int).toNat * 9))) := ⟨_, rfl⟩
          obtain ⟨c30, hc30⟩ : ∃ cw_, cw_ = c0 - ((ji18) : Int).toNat := ⟨_, rfl⟩
          have hy30 : y371.length = l0.length - ((ji18) : Int).toNat := (by rw [Ny371.out, List.length_drop] <;> omega)
          rw [show (l0).drop ((ji18) : Int).toNat = y371 from Ny371.out.symm] at hr30
          replace hr30 : Kd.F k69 _ _ A30 y371.length y371 := (by rw [hA30]; exact hr30)
          rw [← hy30, ← hA30, ← hc30] at hcut30
          have HO375 := q13 (show Kd.V k69 69 _ w.heap.size _ (.slice A30 y371.length c30) y371 from Kd.V_mk (by rw [hy30, hc30]; exact Nat.sub_le_sub_right hroom30 _) hr30)
          have HC375 := q13 (show y371.length ≤ c30 from by rw [hy30, hc30]; exact Nat.sub_le_sub_right hroom30 _)
          clear hr30 hC30 hroom30 hi030 hsz30 hc30
          have KY30 := q13 hy30
          have KA30 := q13 hA30
          clear hy30 hA30
          replace qz30 := eq_true qz30
          try go_wp2_with (first | ((with_reducible refine gate_callee (f := 30) rfl ?_); refine goesL_ (some 49) rfl rfl Try.func30 (by kernel_rfl) rfl #[.slice A30 y371.length c30] rfl (by (try simp only [List.map_toArray, List.map_cons, List.map_nil]); first | done | rfl | (simp only [List.length_drop, List.length_take]; rfl)) ?_; (with_reducible refine (frisketref36_Own.calls kj2 (fun k_ => ((((P0_ k_ ∨ P1_2_ k_) ∨ w.heap.size ≤ k_) ∧ (some k_ ≠ (.slice Ao28 t365.length co28 : Value).ownBlock ∧ k_ ≠ gb356)) ∧ some k_ ≠ (v369 : Value).ownBlock)) _ _ y371 t376 _ ?side1 A21.out).mono ?_); (case side1 => exact HO375.out); rintro e w31 ⟨v377, rfl, ho0, hb⟩; refine ⟨_, rfl, ?_⟩; have n0_ := q13 (Kd.V_elder' (gV HO_0) (by first | exact q43 ho0 | exact q44 ho0 | exact Kd.S_base ho0) hb); have n1_ := q13 (Kd.V_elder' (gV HO_357002) (by first | exact q43 ho0 | exact q44 ho0 | exact Kd.S_base ho0) hb); have n2_ := q13 (Kd.V_elder' (gV HO361) (by first | exact q43 ho0 | exact q44 ho0 | exact Kd.S_base ho0) hb); have n3_ := q13 (Kd.N_elder' (gN HO367) (by first | exact q43 ho0 | exact q44 ho0 | exact Kd.S_base ho0) hb); have n4_ := q13 (Kd.N_elder' (gN HO370) (by first | exact q43 ho0 | exact q44 ho0 | exact Kd.S_base ho0) hb); have n5_ := q13 (Kd.V_elder' (gV HO375) (by first | exact q43 ho0 | exact q44 ho0 | exact Kd.S_base ho0) hb); have n6_ := q13 (Kd.N_lower (Kd.N_mono (ok' := fun k_ => ((P0_ k_ ∨ P1_2_ k_) ∨ w.heap.size ≤ k_) ∧ some k_ ≠ (.slice Ao28 t365.length co28 : Value).ownBlock ∧ some k_ ≠ (v369 : Value).ownBlock ∧ k_ ≠ gb356) ho0 (fun k_ hk_ => ⟨Or.elim hk_ (fun hs_ => hs_.1.1) (fun hn_ => (.inr (Nat.le_trans (q7 (by repeat (first | (with_reducible first | exact HB.out | apply q3 | apply q4 | apply q5 | refine q6 ?_ GE356.out) | exact HB.out))) hn_))), Or.elim hk_ (fun hs_ => hs_.1.2.1) (fun hn_ => (Kd.fresh' (Kd.N_lt (gN HO367)) k_ hn_)), Or.elim hk_ (fun hs_ => hs_.2) (fun hn_ => (Kd.fresh' (Kd.N_lt (gN HO370)) k_ hn_)), Or.elim hk_ (fun hs_ => hs_.1.2.2) (fun hn_ => (Kd.freshB (g := gb356) (o := .cells #[.int .i64 a1_0, .int .i64 a1_1, .slice A1_2 l1_2.length c1_2] 43 (0, 0)) (gK BK356) k_ hn_))⟩)) (q7 (by repeat (first | (with_reducible first | exact HB.out | apply q3 | apply q4 | apply q5 | refine q6 ?_ GE356.out) | exact HB.out)))); have n7_ := q13 (q8 (g := gb356) (o := .cells #[.int .i64 a1_0, .int .i64 a1_1, .slice A1_2 l1_2.length c1_2] 43 (0, 0)) (gK BK356) hb); have n8_ := q13 (q12 (by repeat (first | (with_reducible first | exact HB.out | apply q3 | apply q4 | apply q5 | refine q6 ?_ GE356.out) | exact HB.out)) hb); clear HO_0; clear HO_357002; clear HO361; clear HO367; clear HO370; clear HO375; clear BK356; clear HB; have HO_0 := n0_; have HO_357002 := n1_; have HO361 := n2_; have HO367 := n3_; have HO370 := n4_; have HO375 := n5_; have HO378 := n6_; have BK356 := n7_; have HB := n8_; clear n0_ n1_ n2_ n3_ n4_ n5_ n6_ n7_ n8_; (try clear hb); (try clear hb2); (try clear hk); (try clear hi); (try clear ho0); obtain ⟨Ao33, co33, eo33⟩ := Kd.N_slice HO378.out; subst eo33) | ((with_reducible refine gate_builtin (b := .append) (xs := #[.tmp 41, .tmp 49]) rfl ?_); (try (refine gate_guard (by rfl) ?_; dsimp only)); at_builtin; refine Kd.N_append_rows k69 (w0 := w) w.heap.size rfl (.tmp 41) (.tmp 49) 22 69 (.agg #[(.int .i64 0), (.int .i64 0), (.int .i64 0), (.int .i64 0), (.int .i64 0), (.string ⟨#[]⟩), (.string ⟨#[]⟩), (.string ⟨#[]⟩), (.slice none 0 0)]) 112 rfl Try.underlying22 info69 rfl (by decide) (by omega) v369 y368 t376 _ _ _ (fun k_ => ((P0_ k_ ∨ P1_2_ k_) ∨ w.heap.size ≤ k_) ∧ k_ ≠ gb356) (fun k_ => ((fun k_ => ((P0_ k_ ∨ P1_2_ k_) ∨ w.heap.size ≤ k_) ∧ k_ ≠ gb356)) k_ ∧ some k_ ≠ (v369 : Value).ownBlock) rfl rfl ?aO ?aR (fun _ hk => hk) ?aF ?aB ?aS ?aL ?_; (case aR => exact (by skip; exact Kd.N_F (Kd.N_mono (ok' := (fun k_ => ((fun k_ => ((P0_ k_ ∨ P1_2_ k_) ∨ w.heap.size ≤ k_) ∧ k_ ≠ gb356)) k_ ∧ some k_ ≠ (v369 : Value).ownBlock)) (HO378.out) (fun k_ hk => ⟨⟨hk.1, hk.2.2.2⟩, hk.2.2.1⟩)))); (case aB => exact (by repeat (first | (with_reducible first | exact HB.out | apply q3 | apply q4 | apply q5 | refine q6 ?_ GE356.out) | exact HB.out))); (case aF => exact (fun k_ hk => ⟨(.inr (Nat.le_trans (q7 (by repeat (first | (with_reducible first | exact HB.out | apply q3 | apply q4 | apply q5 | refine q6 ?_ GE356.out) | exact HB.out))) hk)), Kd.freshB (g := gb356) (o := .cells #[.int .i64 a1_0, .int .i64 a1_1, .slice A1_2 l1_2.length c1_2] 43 (0, 0)) (gK BK356) k_ hk⟩)); (case aO => exact (by (with_reducible repeat (first | apply Kd.N_alloc | apply Kd.N_drewN | apply Kd.N_drew)); exact Kd.N_mono HO370.out (fun _ hk => ⟨hk.1.1, hk.1.2⟩))); (case aS => exact (q7 (by repeat (first | (with_reducible first | exact HB.out | apply q3 | apply q4 | apply q5 | refine q6 ?_ GE356.out) | exact HB.out)))); (case aL => have := LMc22.out; omega); intro v380 w32 ho hb hg hat; rw [← Ny379.out] at ho; have n0_ := q13 (Kd.V_afterv (ok := (fun k_ => ((P0_ k_ ∨ P1_2_ k_) ∨ w.heap.size ≤ k_) ∧ some k_ ≠ (.slice Ao28 t365.length co28 : Value).ownBlock ∧ some k_ ≠ (.slice Ao33 t376.length co33 : Value).ownBlock ∧ k_ ≠ gb356)) (by (with_reducible repeat (first | apply Kd.V_alloc | apply Kd.V_drewN | apply Kd.V_drew)); exact Kd.V_mono HO_0.out (fun _ hk => ⟨⟨hk.1.1.1, ⟨hk.1.1.2.1, ⟨hk.2, hk.1.1.2.2⟩⟩⟩, hk.1.2⟩)) hg hat); have n1_ := q13 (Kd.V_afterv (ok := (fun k_ => ((P0_ k_ ∨ P1_2_ k_) ∨ w.heap.size ≤ k_) ∧ some k_ ≠ (.slice Ao28 t365.length co28 : Value).ownBlock ∧ some k_ ≠ (.slice Ao33 t376.length co33 : Value).ownBlock ∧ k_ ≠ gb356)) (by (with_reducible repeat (first | apply Kd.V_alloc | apply Kd.V_drewN | apply Kd.V_drew)); exact Kd.V_mono HO_357002.out (fun _ hk => ⟨⟨hk.1.1.1, ⟨hk.1.1.2.1, ⟨hk.2, hk.1.1.2.2⟩⟩⟩, hk.1.2⟩)) hg hat); have n2_ := q13 (blk_grown (g := gb356) (o := .cells #[.int .i64 a1_0, .int .i64 a1_1, .slice A1_2 l1_2.length c1_2] 43 (0, 0)) (gK BK356) hg (Kd.N_ne HO370.out BK356.out (by decide))); have n3_ := q13 (Kd.V_afterv (ok := (fun k_ => ((P0_ k_ ∨ P1_2_ k_) ∨ w.heap.size ≤ k_) ∧ some k_ ≠ (.slice Ao28 t365.length co28 : Value).ownBlock ∧ some k_ ≠ (.slice Ao33 t376.length co33 : Value).ownBlock ∧ k_ ≠ gb356)) (by (with_reducible repeat (first | apply Kd.V_alloc | apply Kd.V_drewN | apply Kd.V_drew)); exact Kd.V_mono HO361.out (fun _ hk => ⟨⟨hk.1.1.1, ⟨hk.1.1.2.1, ⟨hk.2, hk.1.1.2.2⟩⟩⟩, hk.1.2⟩)) hg hat); have n4_ := q13 (Kd.N_afterv (ok := (fun k_ => ((P0_ k_ ∨ P1_2_ k_) ∨ w.heap.size ≤ k_) ∧ some k_ ≠ (.slice Ao33 t376.length co33 : Value).ownBlock ∧ k_ ≠ gb356)) (by (with_reducible repeat (first | apply Kd.N_alloc | apply Kd.N_drewN | apply Kd.N_drew)); exact Kd.N_mono HO367.out (fun _ hk => ⟨⟨hk.1.1.1, ⟨hk.2, hk.1.1.2⟩⟩, hk.1.2⟩)) hg hat); have n5_ := q13 (Kd.V_afterv (ok := (fun k_ => ((P0_ k_ ∨ P1_2_ k_) ∨ w.heap.size ≤ k_) ∧ some k_ ≠ (.slice Ao28 t365.length co28 : Value).ownBlock ∧ some k_ ≠ (.slice Ao33 t376.length co33 : Value).ownBlock ∧ k_ ≠ gb356)) (by (with_reducible repeat (first | apply Kd.V_alloc | apply Kd.V_drewN | apply Kd.V_drew)); exact Kd.V_mono HO375.out (fun _ hk => ⟨⟨hk.1.1.1, ⟨hk.1.1.2.1, ⟨hk.2, hk.1.1.2.2⟩⟩⟩, hk.1.2⟩)) hg hat); have n6_ := q13 (Kd.N_afterv (ok := (fun k_ => ((P0_ k_ ∨ P1_2_ k_) ∨ w.heap.size ≤ k_) ∧ some k_ ≠ (.slice Ao28 t365.length co28 : Value).ownBlock ∧ k_ ≠ gb356)) (by (with_reducible repeat (first | apply Kd.N_alloc | apply Kd.N_drewN | apply Kd.N_drew)); exact Kd.N_mono HO378.out (fun _ hk => ⟨⟨hk.1, ⟨hk.2.1, hk.2.2.2⟩⟩, hk.2.2.1⟩)) hg hat); have n7_ := q13 (hb); have n8_ := q13 (ho); clear HO_0; clear HO_357002; clear BK356; clear HO361; clear HO367; clear HO375; clear HO378; clear HB; clear HO370; have HO_0 := n0_; have HO_357002 := n1_; have BK356 := n2_; have HO361 := n3_; have HO367 := n4_; have HO375 := n5_; have HO378 := n6_; have HB := n7_; have HO381 := n8_; clear n0_ n1_ n2_ n3_ n4_ n5_ n6_ n7_ n8_; clear ho hb hg hat))
          go_ret2
          exact ⟨_, by first | rfl | (simp [errW_none, errW_some] <;> rfl) | (simp only [← hji18]; first | rfl | (simp [errW_none, errW_some] <;> rfl)) | (simp [*, errW_none, errW_some] <;> rfl), by (with_reducible repeat (first | apply Kd.N_alloc | apply Kd.N_drewN | apply Kd.N_drew)); exact Kd.N_mono HO381.out (fun _ hk => hk.1), by repeat (first | (with_reducible first | exact HB.out | apply q3 | apply q4 | apply q5 | refine q6 ?_ GE356.out) | exact HB.out)⟩
         ·rw [if_neg c22] at H
          exact absurd H (by simp)
        ·rw [if_neg c20] at H
         exact absurd H (by simp)
       ·rw [if_neg c19] at H
        exact absurd H (by simp)
      ·rw [if_neg c17] at H
       exact absurd H (by simp)
     ·rw [if_neg c14] at H
      exact absurd H (by simp)
    ·rw [if_neg c13] at H
     exact absurd H (by simp)

def frisketlaw36_ComparePatches.j0 : Nat → List Int → List Int → Bool → Int → Int → List (S69) → Option (Bool)
 | 0, _, _, _, _, _, _ => none
 | k + 1, x0, x1, x29, x383000, x383001, x383002 => if x29 = true then ((frisketlaw36_sane.f k).bind fun t383 => (some t383)) else ((frisketlaw36_row.f k x0).bind fun t384 => ((frisketlaw36_row.f k x1).bind fun t387 => ((compare_Patched.f k t384 t387).bind fun bt390 => ((frisketlaw36_patch.f bt390.1 bt390.2.1 bt390.2.2).bind fun bt396 => ((frisketref36_Patched.f k t384 t387).bind fun bt401 => ((frisketref36_SamePatch.f k bt396.1 bt396.2.1 bt396.2.2 bt401.1 bt401.2.1 bt401.2.2).bind fun t406 => (if (t406 = true) then ((compare_Use.f k t384 bt390.1 bt390.2.1 bt390.2.2).bind fun bt407 => ((compare_Use.f k t384 x383000 x383001 x383002).bind fun bt411 => ((frisketlaw36_patch.f x383000 x383001 x383002).bind fun bt415 => ((frisketref36_Use.f k t384 bt415.1 bt415.2.1 bt415.2.2).bind fun bt420 => (if bt407.2 = 0 then ((frisketref36_SameMarks.f k bt407.1 t387).bind fun t424 => (if t424 = true then (if bt411.2 = bt420.2 then ((frisketref36_SameMarks.f k bt411.1 bt420.1).bind fun t425 => (if t425 = true then ((frisketlaw36_sane.f k).bind fun t426 => (some t426)) else (none))) else (none)) else (none))) else (none)))))) else (none))))))))
def frisketlaw36_ComparePatches.f (k : Nat) (l0 : List Int) (l1 : List Int) (a2_0 : Int) (a2_1 : Int) (l2_2 : List (S69)) : Option (Bool) := if (l0.length : Int) > 200 then (frisketlaw36_ComparePatches.j0 k l0 l1 true a2_0 a2_1 l2_2) else (if (l1.length : Int) > 200 then (frisketlaw36_ComparePatches.j0 k l0 l1 true a2_0 a2_1 l2_2) else (frisketlaw36_ComparePatches.j0 k l0 l1 (decide ((l2_2.length : Int) > 50)) a2_0 a2_1 l2_2))
theorem frisketlaw36_ComparePatches.mono_l : ∀ k, (∀ y0 y1 y2 y3 y4 y5, LeO (frisketlaw36_ComparePatches.j0 k y0 y1 y2 y3 y4 y5) (frisketlaw36_ComparePatches.j0 (k + 1) y0 y1 y2 y3 y4 y5))
 | 0 => fun _ _ _ _ _ _ r h => by simp [frisketlaw36_ComparePatches.j0] at h
 | k + 1 => by
  have ih0 := frisketlaw36_ComparePatches.mono_l k
  ·intro y0 y1 y2 y3 y4 y5
   unfold frisketlaw36_ComparePatches.j0
   repeat' first
   | (with_reducible exact ih0 _ _ _ _ _ _)
   | (with_reducible exact compare_Patched.mono _ _ _)
   | (with_reducible exact compare_Use.mono _ _ _ _ _)
   | (with_reducible exact frisketlaw36_row.mono _ _)
   | (with_reducible exact frisketlaw36_sane.mono _)
   | (with_reducible exact frisketref36_Patched.mono _ _ _)
   | (with_reducible exact frisketref36_SameMarks.mono _ _ _)
   | (with_reducible exact frisketref36_SamePatch.mono _ _ _ _ _ _ _)
   | (with_reducible exact frisketref36_Use.mono _ _ _ _ _)
   | (with_reducible exact LeO.refl _)
   | (with_reducible exact LeO.none _)
   | (with_reducible refine LeO.ite ?_ ?_)
   | (with_reducible refine LeO.bind ?_ (fun _ => ?_))
   | exact ih0 _ _ _ _ _ _
   | exact compare_Patched.mono _ _ _
   | exact compare_Use.mono _ _ _ _ _
   | exact frisketlaw36_row.mono _ _
   | exact frisketlaw36_sane.mono _
   | exact frisketref36_Patched.mono _ _ _
   | exact frisketref36_SameMarks.mono _ _ _
   | exact frisketref36_SamePatch.mono _ _ _ _ _ _ _
   | exact frisketref36_Use.mono _ _ _ _ _
   | exact LeO.none _
   | refine LeO.ite ?_ ?_
   | refine LeO.bind ?_ (fun _ => ?_)
theorem frisketlaw36_ComparePatches.mono : ∀ a0 a1 a2 a3 a4 k, LeO (frisketlaw36_ComparePatches.f k a0 a1 a2 a3 a4) (frisketlaw36_ComparePatches.f (k + 1) a0 a1 a2 a3 a4) := by
 intro a0 a1 a2 a3 a4 k
 have ih0 := frisketlaw36_ComparePatches.mono_l k
 unfold frisketlaw36_ComparePatches.f
 repeat' first
   | (with_reducible exact ih0 _ _ _ _ _ _)
   | (with_reducible exact compare_Patched.mono _ _ _)
   | (with_reducible exact compare_Use.mono _ _ _ _ _)
   | (with_reducible exact frisketlaw36_row.mono _ _)
   | (with_reducible exact frisketlaw36_sane.mono _)
   | (with_reducible exact frisketref36_Patched.mono _ _ _)
   | (with_reducible exact frisketref36_SameMarks.mono _ _ _)
   | (with_reducible exact frisketref36_SamePatch.mono _ _ _ _ _ _ _)
   | (with_reducible exact frisketref36_Use.mono _ _ _ _ _)
   | (with_reducible exact LeO.refl _)
   | (with_reducible exact LeO.none _)
   | (with_reducible refine LeO.ite ?_ ?_)
   | (with_reducible refine LeO.bind ?_ (fun _ => ?_))
   | exact ih0 _ _ _ _ _ _
   | exact compare_Patched.mono _ _ _
   | exact compare_Use.mono _ _ _ _ _
   | exact frisketlaw36_row.mono _ _
   | exact frisketlaw36_sane.mono _
   | exact frisketref36_Patched.mono _ _ _
   | exact frisketref36_SameMarks.mono _ _ _
   | exact frisketref36_SamePatch.mono _ _ _ _ _ _ _
   | exact frisketref36_Use.mono _ _ _ _ _
   | exact LeO.none _
   | refine LeO.ite ?_ ?_
   | refine LeO.bind ?_ (fun _ => ?_)
set_option maxHeartbeats 8000000 in
set_option maxRecDepth 100000 in
theorem frisketlaw36_ComparePatches.calls (k : Nat) (A0 : Option Addr) (c0 : Nat) (l0 : List Int) (A1 : Option Addr) (c1 : Nat) (l1 : List Int) (a2_0 : Int) (a2_1 : Int) (A2_2 : Option Addr) (c2_2 : Nat) (l2_2 : List (S69)) (r : Bool) (w : World) (hr0 : Kd.C (Kd.int .u8) w A0 l0.length l0) (hc0 : l0.length ≤ c0) (hr1 : Kd.C (Kd.int .u8) w A1 l1.length l1) (hc1 : l1.length ≤ c1) (hr2_2 : Kd.C k69 w A2_2 l2_2.length l2_2) (hc2_2 : l2_2.length ≤ c2_2) (h : frisketlaw36_ComparePatches.f k l0 l1 a2_0 a2_1 l2_2 = some r) :
  Calls Try.prog 4 #[.slice A0 l0.length c0, .slice A1 l1.length c1, .agg #[.int .i64 a2_0, .int .i64 a2_1, .slice A2_2 l2_2.length c2_2]] w fun e w' => e = .returned (.bool r) ∧ Below w.heap.size w w' := by
 have hu39 := Try.underlying39
 have HR0 := q13 hr0
 have HC0 := q13 hc0
 clear hr0 hc0
 have HR1 := q13 hr1
 have HC1 := q13 hc1
 clear hr1 hc1
 have HR2_2 := q13 hr2_2
 have HC2_2 := q13 hc2_2
 clear hr2_2 hc2_2
 have HB := q13 (Below.refl w.heap.size w)
 have H : (if (l0.length : Int) > 200 then (frisketlaw36_ComparePatches.j0 k l0 l1 true a2_0 a2_1 l2_2) else (if (l1.length : Int) > 200 then (frisketlaw36_ComparePatches.j0 k l0 l1 true a2_0 a2_1 l2_2) else (frisketlaw36_ComparePatches.j0 k l0 l1 (decide ((l2_2.length : Int) > 50)) a2_0 a2_1 l2_2))) = some r := h
 clear h
 have HC4 := q13 H
 clear H
 go_enter Try.func4, Try.ntmps4
 go_upto_region 1 with (first | ((with_reducible refine gate_dst (N := 5) rfl ?_); (try (refine gate_guard (by rfl) ?_; dsimp only)); refine box_event ?hg (N := 5) ?hd (cs := #[.int .i64 a2_0, .int .i64 a2_1, .slice A2_2 l2_2.length c2_2]) (t := 39) ?hr ?_; (case hd => rfl); (case hg => rfl); (case hr => first | (go_simp; done) | (go_simp; rfl)); intro gb382 hg w5 hbox hb; have n0_ := q13 (q12 (gB HB) hb); have n1_ := q13 (hbox); have n2_ := q13 ((by rw [hg]; exact (q7 (gB HB)) : w.heap.size ≤ gb382)); have n3_ := q13 ((by rw [hg]; exact (q7 (gB HB)) : w.heap.size ≤ gb382)); clear HB; have HB := n0_; have BK382 := n1_; have GW382 := n2_; have GE382 := n3_; clear n0_ n1_ n2_ n3_; clear hb hbox hg))
 (try simp only [Act.put, List.setIfInBounds_toArray, List.set_cons_zero, List.set_cons_succ])
 go_cut [29] (fun v29 wc => ∃ (kq : Nat) (x29_3 : Bool), v29 = .bool x29_3 ∧ Aside0 (frisketlaw36_ComparePatches.j0 kq l0 l1 x29_3 a2_0 a2_1 l2_2 = some r) ∧ Aside0 (kq ≤ k) ∧ Aside0 (wc.heap[gb382]? = some (.cells #[.int .i64 a2_0, .int .i64 a2_1, (.slice A2_2 l2_2.length c2_2)] 39 (0, 0))) ∧ Aside0 (Below w.heap.size w wc))
 case first =>
  have H := HC4.out
  clear HC4
  by_cases c6 : (l0.length : Int) > 200
  ·rw [if_pos c6] at H
   have c6b0 : decide (200 < (l0.length : Int)) = true := decide_eq_true c6
   have c6b1 : decide (200 < l0.length) = true := decide_eq_true (by omega)
   clear c6
   (first | rw [c6b0] | (simp only [i64_w, i32_w]; rw [c6b0]) | skip)
   have H' := q13 H
   clear H
   go_wp2
   go_meet
   case rel => exact ⟨_, (true), (by first | rfl | (simp; done) | (simp [*]; done)), H', ⟨by first | omega | exact q17 _⟩, ⟨by (with_reducible repeat (first | refine q0 ?_ _ | refine q1 ?_ | refine q2 ?_ _)); exact BK382.out⟩, ⟨by repeat (first | (with_reducible first | exact HB.out | apply q3 | apply q4 | apply q5 | refine q6 ?_ GE382.out) | exact HB.out)⟩⟩
  ·rw [if_neg c6] at H
   have c6b0 : decide (200 < (l0.length : Int)) = false := decide_eq_false c6
   have c6b1 : decide (200 < l0.length) = false := decide_eq_false (by omega)
   clear c6
   (first | rw [c6b0] | (simp only [i64_w, i32_w]; rw [c6b0]) | skip)
   by_cases c7 : (l1.length : Int) > 200
   ·rw [if_pos c7] at H
    have c7b0 : decide (200 < (l1.length : Int)) = true := decide_eq_true c7
    have c7b1 : decide (200 < l1.length) = true := decide_eq_true (by omega)
    clear c7
    have H' := q13 H
    clear H
    go_wp2
    go_meet
    case rel => exact ⟨_, (true), (by first | rfl | (simp; done) | (simp [*]; done)), H', ⟨by first | omega | exact q17 _⟩, ⟨by (with_reducible repeat (first | refine q0 ?_ _ | refine q1 ?_ | refine q2 ?_ _)); exact BK382.out⟩, ⟨by repeat (first | (with_reducible first | exact HB.out | apply q3 | apply q4 | apply q5 | refine q6 ?_ GE382.out) | exact HB.out)⟩⟩
   ·rw [if_neg c7] at H
    have c7b0 : decide (200 < (l1.length : Int)) = false := decide_eq_false c7
    have c7b1 : decide (200 < l1.length) = false := decide_eq_false (by omega)
    clear c7
    have H' := q13 H
    clear H
    have hcz8_0 : w5.cell? ⟨gb382, 0, none⟩ = some (.int .i64 a2_0) := (q9 BK382.out 0).trans rfl
    have hcz8_1 : w5.cell? ⟨gb382, 1, none⟩ = some (.int .i64 a2_1) := (q9 BK382.out 1).trans rfl
    have hcz8_2 : w5.cell? ⟨gb382, 2, none⟩ = some (.slice A2_2 l2_2.length c2_2) := (q9 BK382.out 2).trans rfl
    have hfz8_0 := q11 BK382.out 0
    have hfz8_1 := q11 BK382.out 1
    have hfz8_2 := q11 BK382.out 2
    go_wp2
    go_meet
    case rel => exact ⟨_, (decide ((l2_2.length : Int) > 50)), (by first | rfl | (simp; done) | (simp [*]; done)), H', ⟨by first | omega | exact q17 _⟩, ⟨by (with_reducible repeat (first | refine q0 ?_ _ | refine q1 ?_ | refine q2 ?_ _)); exact BK382.out⟩, ⟨by repeat (first | (with_reducible first | exact HB.out | apply q3 | apply q4 | apply q5 | refine q6 ?_ GE382.out) | exact HB.out)⟩⟩
 case rest =>
  clear HC4
  try clear c1
  try clear c2
  try clear p2
  try clear c4
  try clear c6
  try clear c6b0
  try clear c6b1
  try clear c7
  try clear c7b0
  try clear c7b1
  obtain ⟨kq, x29_3, rfl, HA, HJ3, BK382, HB⟩ := hcut
  cases kq with
  | zero => exact absurd HA.out (by simp [frisketlaw36_ComparePatches.j0])
  | succ kj3 =>
   have H := HA.out
   clear HA
   simp only [frisketlaw36_ComparePatches.j0] at H
   by_cases c9 : x29_3 = true
   ·subst c9
    have H1 : ((frisketlaw36_sane.f kj3).bind fun t383 => (some t383)) = some r := by rw [if_pos rfl] at H; exact H
    clear H
    have H := H1
    clear H1
    replace H := Option.bind_eq_some_iff.mp H
    obtain ⟨t383, A100, H⟩ := H
    replace H : (some t383) = some r := H
    have A10 := q13 A100
    clear A100
    obtain rfl := Option.some.inj H
    go_wp2_with (first | ((with_reducible refine gate_callee (f := 7) rfl ?_); refine goesL_ (some 30) rfl rfl Try.func7 (by kernel_rfl) rfl #[] rfl (by (try simp only [List.map_toArray, List.map_cons, List.map_nil]); first | done | rfl | (simp only [List.length_drop, List.length_take]; rfl)) ?_; (with_reducible refine (frisketlaw36_sane.calls kj3  t383 _ A10.out).mono ?_); rintro e w11 ⟨rfl, hb⟩; refine ⟨_, rfl, ?_⟩; have n0_ := q13 (q8 (g := gb382) (o := .cells #[.int .i64 a2_0, .int .i64 a2_1, .slice A2_2 l2_2.length c2_2] 39 (0, 0)) (gK BK382) hb); have n1_ := q13 (q12 (by repeat (first | (with_reducible first | exact HB.out | apply q3 | apply q4 | apply q5 | refine q6 ?_ GE382.out) | exact HB.out)) hb); clear BK382; clear HB; have BK382 := n0_; have HB := n1_; clear n0_ n1_; (try clear hb); (try clear hb2); (try clear hk); (try clear hi)))
    go_ret
    exact ⟨by first | rfl | (simp [errW_none, errW_some] <;> rfl) | (simp [*, errW_none, errW_some] <;> rfl), by repeat (first | (with_reducible first | exact HB.out | apply q3 | apply q4 | apply q5 | refine q6 ?_ GE382.out) | exact HB.out)⟩
   ·replace c9 := Bool.eq_false_iff.mpr c9
    subst c9
    have H1 : ((frisketlaw36_row.f kj3 l0).bind fun t384 => ((frisketlaw36_row.f kj3 l1).bind fun t387 => ((compare_Patched.f kj3 t384 t387).bind fun bt390 => ((frisketlaw36_patch.f bt390.1 bt390.2.1 bt390.2.2).bind fun bt396 => ((frisketref36_Patched.f kj3 t384 t387).bind fun bt401 => ((frisketref36_SamePatch.f kj3 bt396.1 bt396.2.1 bt396.2.2 bt401.1 bt401.2.1 bt401.2.2).bind fun t406 => (if (t406 = true) then ((compare_Use.f kj3 t384 bt390.1 bt390.2.1 bt390.2.2).bind fun bt407 => ((compare_Use.f kj3 t384 a2_0 a2_1 l2_2).bind fun bt411 => ((frisketlaw36_patch.f a2_0 a2_1 l2_2).bind fun bt415 => ((frisketref36_Use.f kj3 t384 bt415.1 bt415.2.1 bt415.2.2).bind fun bt420 => (if bt407.2 = 0 then ((frisketref36_SameMarks.f kj3 bt407.1 t387).bind fun t424 => (if t424 = true then (if bt411.2 = bt420.2 then ((frisketref36_SameMarks.f kj3 bt411.1 bt420.1).bind fun t425 => (if t425 = true then ((frisketlaw36_sane.f kj3).bind fun t426 => (some t426)) else (none))) else (none)) else (none))) else (none)))))) else (none)))))))) = some r := by rw [if_neg (show ¬ (false = true) by decide)] at H; exact H
    clear H
    have H := H1
    clear H1
    replace H := Option.bind_eq_some_iff.mp H
    obtain ⟨t384, A120, H⟩ := H
    replace H : ((frisketlaw36_row.f kj3 l1).bind fun t387 => ((compare_Patched.f kj3 t384 t387).bind fun bt390 => ((frisketlaw36_patch.f bt390.1 bt390.2.1 bt390.2.2).bind fun bt396 => ((frisketref36_Patched.f kj3 t384 t387).bind fun bt401 => ((frisketref36_SamePatch.f kj3 bt396.1 bt396.2.1 bt396.2.2 bt401.1 bt401.2.1 bt401.2.2).bind fun t406 => (if (t406 = true) then ((compare_Use.f kj3 t384 bt390.1 bt390.2.1 bt390.2.2).bind fun bt407 => ((compare_Use.f kj3 t384 a2_0 a2_1 l2_2).bind fun bt411 => ((frisketlaw36_patch.f a2_0 a2_1 l2_2).bind fun bt415 => ((frisketref36_Use.f kj3 t384 bt415.1 bt415.2.1 bt415.2.2).bind fun bt420 => (if bt407.2 = 0 then ((frisketref36_SameMarks.f kj3 bt407.1 t387).bind fun t424 => (if t424 = true then (if bt411.2 = bt420.2 then ((frisketref36_SameMarks.f kj3 bt411.1 bt420.1).bind fun t425 => (if t425 = true then ((frisketlaw36_sane.f kj3).bind fun t426 => (some t426)) else (none))) else (none)) else (none))) else (none)))))) else (none))))))) = some r := H
    have A12 := q13 A120
    clear A120
    replace H := Option.bind_eq_some_iff.mp H
    obtain ⟨t387, A130, H⟩ := H
    replace H : ((compare_Patched.f kj3 t384 t387).bind fun bt390 => ((frisketlaw36_patch.f bt390.1 bt390.2.1 bt390.2.2).bind fun bt396 => ((frisketref36_Patched.f kj3 t384 t387).bind fun bt401 => ((frisketref36_SamePatch.f kj3 bt396.1 bt396.2.1 bt396.2.2 bt401.1 bt401.2.1 bt401.2.2).bind fun t406 => (if (t406 = true) then ((compare_Use.f kj3 t384 bt390.1 bt390.2.1 bt390.2.2).bind fun bt407 => ((compare_Use.f kj3 t384 a2_0 a2_1 l2_2).bind fun bt411 => ((frisketlaw36_patch.f a2_0 a2_1 l2_2).bind fun bt415 => ((frisketref36_Use.f kj3 t384 bt415.1 bt415.2.1 bt415.2.2).bind fun bt420 => (if bt407.2 = 0 then ((frisketref36_SameMarks.f kj3 bt407.1 t387).bind fun t424 => (if t424 = true then (if bt411.2 = bt420.2 then ((frisketref36_SameMarks.f kj3 bt411.1 bt420.1).bind fun t425 => (if t425 = true then ((frisketlaw36_sane.f kj3).bind fun t426 => (some t426)) else (none))) else (none)) else (none))) else (none)))))) else (none)))))) = some r := H
    have A13 := q13 A130
    clear A130
    replace H := Option.bind_eq_some_iff.mp H
    obtain ⟨⟨t390, t391, t392⟩, A140, H⟩ := H
    replace H : ((frisketlaw36_patch.f t390 t391 t392).bind fun bt396 => ((frisketref36_Patched.f kj3 t384 t387).bind fun bt401 => ((frisketref36_SamePatch.f kj3 bt396.1 bt396.2.1 bt396.2.2 bt401.1 bt401.2.1 bt401.2.2).bind fun t406 => (if (t406 = true) then ((compare_Use.f kj3 t384 t390 t391 t392).bind fun bt407 => ((compare_Use.f kj3 t384 a2_0 a2_1 l2_2).bind fun bt411 => ((frisketlaw36_patch.f a2_0 a2_1 l2_2).bind fun bt415 => ((frisketref36_Use.f kj3 t384 bt415.1 bt415.2.1 bt415.2.2).bind fun bt420 => (if bt407.2 = 0 then ((frisketref36_SameMarks.f kj3 bt407.1 t387).bind fun t424 => (if t424 = true then (if bt411.2 = bt420.2 then ((frisketref36_SameMarks.f kj3 bt411.1 bt420.1).bind fun t425 => (if t425 = true then ((frisketlaw36_sane.f kj3).bind fun t426 => (some t426)) else (none))) else (none)) else (none))) else (none)))))) else (none))))) = some r := H
    have A14 := q13 A140
    clear A140
    replace H := Option.bind_eq_some_iff.mp H
    obtain ⟨⟨t396, t397, t398⟩, A150, H⟩ := H
    replace H : ((frisketref36_Patched.f kj3 t384 t387).bind fun bt401 => ((frisketref36_SamePatch.f kj3 t396 t397 t398 bt401.1 bt401.2.1 bt401.2.2).bind fun t406 => (if (t406 = true) then ((compare_Use.f kj3 t384 t390 t391 t392).bind fun bt407 => ((compare_Use.f kj3 t384 a2_0 a2_1 l2_2).bind fun bt411 => ((frisketlaw36_patch.f a2_0 a2_1 l2_2).bind fun bt415 => ((frisketref36_Use.f kj3 t384 bt415.1 bt415.2.1 bt415.2.2).bind fun bt420 => (if bt407.2 = 0 then ((frisketref36_SameMarks.f kj3 bt407.1 t387).bind fun t424 => (if t424 = true then (if bt411.2 = bt420.2 then ((frisketref36_SameMarks.f kj3 bt411.1 bt420.1).bind fun t425 => (if t425 = true then ((frisketlaw36_sane.f kj3).bind fun t426 => (some t426)) else (none))) else (none)) else (none))) else (none)))))) else (none)))) = some r := H
    have A15 := q13 A150
    clear A150
    replace H := Option.bind_eq_some_iff.mp H
    obtain ⟨⟨t401, t402, t403⟩, A160, H⟩ := H
    replace H : ((frisketref36_SamePatch.f kj3 t396 t397 t398 t401 t402 t403).bind fun t406 => (if (t406 = true) then ((compare_Use.f kj3 t384 t390 t391 t392).bind fun bt407 => ((compare_Use.f kj3 t384 a2_0 a2_1 l2_2).bind fun bt411 => ((frisketlaw36_patch.f a2_0 a2_1 l2_2).bind fun bt415 => ((frisketref36_Use.f kj3 t384 bt415.1 bt415.2.1 bt415.2.2).bind fun bt420 => (if bt407.2 = 0 then ((frisketref36_SameMarks.f kj3 bt407.1 t387).bind fun t424 => (if t424 = true then (if bt411.2 = bt420.2 then ((frisketref36_SameMarks.f kj3 bt411.1 bt420.1).bind fun t425 => (if t425 = true then ((frisketlaw36_sane.f kj3).bind fun t426 => (some t426)) else (none))) else (none)) else (none))) else (none)))))) else (none))) = some r := H
    have A16 := q13 A160
    clear A160
    replace H := Option.bind_eq_some_iff.mp H
    obtain ⟨t406, A170, H⟩ := H
    replace H : (if (t406 = true) then ((compare_Use.f kj3 t384 t390 t391 t392).bind fun bt407 => ((compare_Use.f kj3 t384 a2_0 a2_1 l2_2).bind fun bt411 => ((frisketlaw36_patch.f a2_0 a2_1 l2_2).bind fun bt415 => ((frisketref36_Use.f kj3 t384 bt415.1 bt415.2.1 bt415.2.2).bind fun bt420 => (if bt407.2 = 0 then ((frisketref36_SameMarks.f kj3 bt407.1 t387).bind fun t424 => (if t424 = true then (if bt411.2 = bt420.2 then ((frisketref36_SameMarks.f kj3 bt411.1 bt420.1).bind fun t425 => (if t425 = true then ((frisketlaw36_sane.f kj3).bind fun t426 => (some t426)) else (none))) else (none)) else (none))) else (none)))))) else (none)) = some r := H
    have A17 := q13 A170
    clear A170
    by_cases c18 : (t406 = true)
    ·subst c18
     have H1 : ((compare_Use.f kj3 t384 t390 t391 t392).bind fun bt407 => ((compare_Use.f kj3 t384 a2_0 a2_1 l2_2).bind fun bt411 => ((frisketlaw36_patch.f a2_0 a2_1 l2_2).bind fun bt415 => ((frisketref36_Use.f kj3 t384 bt415.1 bt415.2.1 bt415.2.2).bind fun bt420 => (if bt407.2 = 0 then ((frisketref36_SameMarks.f kj3 bt407.1 t387).bind fun t424 => (if t424 = true then (if bt411.2 = bt420.2 then ((frisketref36_SameMarks.f kj3 bt411.1 bt420.1).bind fun t425 => (if t425 = true then ((frisketlaw36_sane.f kj3).bind fun t426 => (some t426)) else (none))) else (none)) else (none))) else (none)))))) = some r := by rw [if_pos rfl] at H; exact H
     clear H
     have H := H1
     clear H1
     replace H := Option.bind_eq_some_iff.mp H
     obtain ⟨⟨t407, t410⟩, A190, H⟩ := H
     replace H : ((compare_Use.f kj3 t384 a2_0 a2_1 l2_2).bind fun bt411 => ((frisketlaw36_patch.f a2_0 a2_1 l2_2).bind fun bt415 => ((frisketref36_Use.f kj3 t384 bt415.1 bt415.2.1 bt415.2.2).bind fun bt420 => (if t410 = 0 then ((frisketref36_SameMarks.f kj3 t407 t387).bind fun t424 => (if t424 = true then (if bt411.2 = bt420.2 then ((frisketref36_SameMarks.f kj3 bt411.1 bt420.1).bind fun t425 => (if t425 = true then ((frisketlaw36_sane.f kj3).bind fun t426 => (some t426)) else (none))) else (none)) else (none))) else (none))))) = some r := H
     have A19 := q13 A190
     clear A190
     replace H := Option.bind_eq_some_iff.mp H
     obtain ⟨⟨t411, t414⟩, A200, H⟩ := H
     replace H : ((frisketlaw36_patch.f a2_0 a2_1 l2_2).bind fun bt415 => ((frisketref36_Use.f kj3 t384 bt415.1 bt415.2.1 bt415.2.2).bind fun bt420 => (if t410 = 0 then ((frisketref36_SameMarks.f kj3 t407 t387).bind fun t424 => (if t424 = true then (if t414 = bt420.2 then ((frisketref36_SameMarks.f kj3 t411 bt420.1).bind fun t425 => (if t425 = true then ((frisketlaw36_sane.f kj3).bind fun t426 => (some t426)) else (none))) else (none)) else (none))) else (none)))) = some r := H
     have A20 := q13 A200
     clear A200
     replace H := Option.bind_eq_some_iff.mp H
     obtain ⟨⟨t415, t416, t417⟩, A210, H⟩ := H
     replace H : ((frisketref36_Use.f kj3 t384 t415 t416 t417).bind fun bt420 => (if t410 = 0 then ((frisketref36_SameMarks.f kj3 t407 t387).bind fun t424 => (if t424 = true then (if t414 = bt420.2 then ((frisketref36_SameMarks.f kj3 t411 bt420.1).bind fun t425 => (if t425 = true then ((frisketlaw36_sane.f kj3).bind fun t426 => (some t426)) else (none))) else (none)) else (none))) else (none))) = some r := H
     have A21 := q13 A210
     clear A210
     replace H := Option.bind_eq_some_iff.mp H
     obtain ⟨⟨t420, t423⟩, A220, H⟩ := H
     replace H : (if t410 = 0 then ((frisketref36_SameMarks.f kj3 t407 t387).bind fun t424 => (if t424 = true then (if t414 = t423 then ((frisketref36_SameMarks.f kj3 t411 t420).bind fun t425 => (if t425 = true then ((frisketlaw36_sane.f kj3).bind fun t426 => (some t426)) else (none))) else (none)) else (none))) else (none)) = some r := H
     have A22 := q13 A220
     clear A220
     by_cases c23 : t410 = 0
     ·rw [if_pos c23] at H
      have c23b0 : (t410 == 0) = true := beq_iff_eq.mpr c23
      have c23b1 : (t410 != 0) = false := bne_eq_false_iff_eq.mpr c23
      clear c23
      replace H := Option.bind_eq_some_iff.mp H
      obtain ⟨t424, A240, H⟩ := H
      replace H : (if t424 = true then (if t414 = t423 then ((frisketref36_SameMarks.f kj3 t411 t420).bind fun t425 => (if t425 = true then ((frisketlaw36_sane.f kj3).bind fun t426 => (some t426)) else (none))) else (none)) else (none)) = some r := H
      have A24 := q13 A240
      clear A240
      by_cases c25 : t424 = true
      ·subst c25
       have H1 : (if t414 = t423 then ((frisketref36_SameMarks.f kj3 t411 t420).bind fun t425 => (if t425 = true then ((frisketlaw36_sane.f kj3).bind fun t426 => (some t426)) else (none))) else (none)) = some r := by rw [if_pos rfl] at H; exact H
       clear H
       have H := H1
       clear H1
       by_cases c26 : t414 = t423
       ·rw [if_pos c26] at H
        have c26b0 : (t414 == t423) = true := beq_iff_eq.mpr c26
        have c26b1 : (t414 != t423) = false := bne_eq_false_iff_eq.mpr c26
        clear c26
        replace H := Option.bind_eq_some_iff.mp H
        obtain ⟨t425, A270, H⟩ := H
        replace H : (if t425 = true then ((frisketlaw36_sane.f kj3).bind fun t426 => (some t426)) else (none)) = some r := H
        have A27 := q13 A270
        clear A270
        by_cases c28 : t425 = true
        ·subst c28
         have H1 : ((frisketlaw36_sane.f kj3).bind fun t426 => (some t426)) = some r := by rw [if_pos rfl] at H; exact H
         clear H
         have H := H1
         clear H1
         replace H := Option.bind_eq_some_iff.mp H
         obtain ⟨t426, A290, H⟩ := H
         replace H : (some t426) = some r := H
         have A29 := q13 A290
         clear A290
         obtain rfl := Option.some.inj H
         go_wp2_with (first | ((with_reducible refine gate_callee (f := 15) rfl ?_); refine goesL_ (some 32) rfl rfl Try.func15 (by kernel_rfl) rfl #[.slice A0 l0.length c0] rfl (by (try simp only [List.map_toArray, List.map_cons, List.map_nil]); first | done | rfl | (simp only [List.length_drop, List.length_take]; rfl)) ?_; (with_reducible refine (frisketlaw36_row.calls kj3 _ _ l0 t384 _ ?side1 ?side2 A12.out).mono ?_); (case side1 => repeat (first | exact (Kd.C_below HR0.out HB.out) | (with_reducible refine q18 ?_ _) | (with_reducible refine q19 ?_ _) | (with_reducible refine q20 ?_))); (case side2 => exact HC0.out); rintro e w30 ⟨v385, rfl, ho0, hb⟩; refine ⟨_, rfl, ?_⟩; have n0_ := q13 (Kd.N_lower (Kd.N_mono (ok' := fun k_ => k_ ≠ gb382) (Kd.S_N (Kd.S_bound ho0)) (fun k_ hk_ => (Kd.freshB (g := gb382) (o := .cells #[.int .i64 a2_0, .int .i64 a2_1, .slice A2_2 l2_2.length c2_2] 39 (0, 0)) (gK BK382) k_ hk_.2.1))) (q7 (by repeat (first | (with_reducible first | exact HB.out | apply q3 | apply q4 | apply q5 | refine q6 ?_ GE382.out) | exact HB.out)))); have n1_ := q13 (q8 (g := gb382) (o := .cells #[.int .i64 a2_0, .int .i64 a2_1, .slice A2_2 l2_2.length c2_2] 39 (0, 0)) (gK BK382) hb); have n2_ := q13 (q12 (by repeat (first | (with_reducible first | exact HB.out | apply q3 | apply q4 | apply q5 | refine q6 ?_ GE382.out) | exact HB.out)) hb); clear BK382; clear HB; have HO386 := n0_; have BK382 := n1_; have HB := n2_; clear n0_ n1_ n2_; (try clear hb); (try clear hb2); (try clear hk); (try clear hi); (try clear ho0)) | ((with_reducible refine gate_callee (f := 15) rfl ?_); refine goesL_ (some 34) rfl rfl Try.func15 (by kernel_rfl) rfl #[.slice A1 l1.length c1] rfl (by (try simp only [List.map_toArray, List.map_cons, List.map_nil]); first | done | rfl | (simp only [List.length_drop, List.length_take]; rfl)) ?_; (with_reducible refine (frisketlaw36_row.calls kj3 _ _ l1 t387 _ ?side1 ?side2 A13.out).mono ?_); (case side1 => repeat (first | exact (Kd.C_below HR1.out HB.out) | (with_reducible refine q18 ?_ _) | (with_reducible refine q19 ?_ _) | (with_reducible refine q20 ?_))); (case side2 => exact HC1.out); rintro e w31 ⟨v388, rfl, ho0, hb⟩; refine ⟨_, rfl, ?_⟩; have n0_ := q13 (Kd.N_elder' (gN HO386) (by first | exact q43 ho0 | exact q44 ho0 | exact Kd.S_base ho0) hb); have n1_ := q13 (Kd.N_lower (Kd.N_mono (ok' := fun k_ => some k_ ≠ (v385 : Value).ownBlock ∧ k_ ≠ gb382) (Kd.S_N (Kd.S_bound ho0)) (fun k_ hk_ => ⟨(Kd.fresh' (Kd.N_lt (gN HO386)) k_ hk_.2.1), (Kd.freshB (g := gb382) (o := .cells #[.int .i64 a2_0, .int .i64 a2_1, .slice A2_2 l2_2.length c2_2] 39 (0, 0)) (gK BK382) k_ hk_.2.1)⟩)) (q7 (by repeat (first | (with_reducible first | exact HB.out | apply q3 | apply q4 | apply q5 | refine q6 ?_ GE382.out) | exact HB.out)))); have n2_ := q13 (q8 (g := gb382) (o := .cells #[.int .i64 a2_0, .int .i64 a2_1, .slice A2_2 l2_2.length c2_2] 39 (0, 0)) (gK BK382) hb); have n3_ := q13 (q12 (by repeat (first | (with_reducible first | exact HB.out | apply q3 | apply q4 | apply q5 | refine q6 ?_ GE382.out) | exact HB.out)) hb); clear HO386; clear BK382; clear HB; have HO386 := n0_; have HO389 := n1_; have BK382 := n2_; have HB := n3_; clear n0_ n1_ n2_ n3_; (try clear hb); (try clear hb2); (try clear hk); (try clear hi); (try clear ho0); obtain ⟨Ao32, co32, eo32⟩ := Kd.N_slice HO386.out; subst eo32; obtain ⟨Ao33, co33, eo33⟩ := Kd.N_slice HO389.out; subst eo33) | ((with_reducible refine gate_callee (f := 16) rfl ?_); refine goesL_ (some 37) rfl rfl Try.func16 (by kernel_rfl) rfl #[.slice Ao32 t384.length co32, .slice Ao33 t387.length co33] rfl (by (try simp only [List.map_toArray, List.map_cons, List.map_nil]); first | done | rfl | (simp only [List.length_drop, List.length_take]; rfl)) ?_; (with_reducible refine (compare_Patched.calls kj3 _ _ t384 (fun k_ => (some k_ ≠ (.slice Ao32 t384.length co32 : Value).ownBlock ∧ k_ ≠ gb382)) _ _ t387 t390 t391 t392 _ ?side1 ?side2 ?side3 A14.out).mono ?_); (case side1 => repeat (first | exact (Kd.N_reads' HO386.out).2.2 | (with_reducible refine q18 ?_ _) | (with_reducible refine q19 ?_ _) | (with_reducible refine q20 ?_))); (case side2 => exact (Kd.N_reads' HO386.out).2.1); (case side3 => exact Kd.N_V (HO389.out)); rintro e w34 ⟨v393, rfl, ho0, hb⟩; refine ⟨_, rfl, ?_⟩; have n0_ := q13 (Kd.N_elder' (gN HO386) (by first | exact q43 ho0 | exact q44 ho0 | exact Kd.S_base ho0) hb); have n1_ := q13 (Kd.N_elder' (gN HO389) (by first | exact q43 ho0 | exact q44 ho0 | exact Kd.S_base ho0) hb); have n2_ := q13 (Kd.N_lower (Kd.N_mono (ok' := fun k_ => some k_ ≠ (.slice Ao32 t384.length co32 : Value).ownBlock ∧ k_ ≠ gb382) ho0 (fun k_ hk_ => ⟨Or.elim hk_ (fun hs_ => hs_.1) (fun hn_ => (Kd.fresh' (Kd.N_lt (gN HO386)) k_ hn_)), Or.elim hk_ (fun hs_ => hs_.2) (fun hn_ => (Kd.freshB (g := gb382) (o := .cells #[.int .i64 a2_0, .int .i64 a2_1, .slice A2_2 l2_2.length c2_2] 39 (0, 0)) (gK BK382) k_ hn_))⟩)) (q7 (by repeat (first | (with_reducible first | exact HB.out | apply q3 | apply q4 | apply q5 | refine q6 ?_ GE382.out) | exact HB.out)))); have n3_ := q13 (q8 (g := gb382) (o := .cells #[.int .i64 a2_0, .int .i64 a2_1, .slice A2_2 l2_2.length c2_2] 39 (0, 0)) (gK BK382) hb); have n4_ := q13 (q12 (by repeat (first | (with_reducible first | exact HB.out | apply q3 | apply q4 | apply q5 | refine q6 ?_ GE382.out) | exact HB.out)) hb); clear HO386; clear HO389; clear BK382; clear HB; have HO386 := n0_; have HO389 := n1_; have HO394 := n2_; have BK382 := n3_; have HB := n4_; clear n0_ n1_ n2_ n3_ n4_; (try clear hb); (try clear hb2); (try clear hk); (try clear hi); (try clear ho0)) | ((with_reducible refine gate_dst (N := 9) rfl ?_); (try (refine gate_guard (by rfl) ?_; dsimp only)); refine box_event ?hg (N := 9) ?hd (cs := #[.int .i64 0, .int .i64 0, .slice none 0 0]) (t := 39) ?hr ?_; (case hd => rfl); (case hg => rfl); (case hr => first | (go_simp; done) | (go_simp; rfl)); intro gb395 hg w35 hbox hb; have n0_ := q13 (Kd.N_below (Kd.N_elderB (gN HO386) gb395 (Nat.le_of_eq hg.symm)) hb); have n1_ := q13 (Kd.N_below (Kd.N_elderB (gN HO389) gb395 (Nat.le_of_eq hg.symm)) hb); have n2_ := q13 (Kd.N_below (Kd.N_elderB (gN HO394) gb395 (Nat.le_of_eq hg.symm)) hb); have n3_ := q13 (q8 (g := gb382) (o := .cells #[.int .i64 a2_0, .int .i64 a2_1, .slice A2_2 l2_2.length c2_2] 39 (0, 0)) (gK BK382) hb); have n4_ := q13 (q12 (by repeat (first | (with_reducible first | exact HB.out | apply q3 | apply q4 | apply q5 | refine q6 ?_ GE382.out) | exact HB.out)) hb); have n5_ := q13 (hbox); have n6_ := q13 ((by rw [hg]; exact (q7 (by repeat (first | (with_reducible first | exact HB.out | apply q3 | apply q4 | apply q5 | refine q6 ?_ GE382.out) | exact HB.out))) : w.heap.size ≤ gb395)); have n7_ := q13 ((by rw [hg]; exact (q7 (by repeat (first | (with_reducible first | exact HB.out | apply q3 | apply q4 | apply q5 | refine q6 ?_ GE382.out) | exact HB.out))) : w.heap.size ≤ gb395)); have n8_ := q13 ((by rw [hg]; exact Nat.ne_of_lt (blk_lt (g := gb382) (o := .cells #[.int .i64 a2_0, .int .i64 a2_1, .slice A2_2 l2_2.length c2_2] 39 (0, 0)) (gK BK382)) : gb382 ≠ gb395)); have n9_ := q13 ((by rw [hg]; exact Nat.ne_of_gt (blk_lt (g := gb382) (o := .cells #[.int .i64 a2_0, .int .i64 a2_1, .slice A2_2 l2_2.length c2_2] 39 (0, 0)) (gK BK382)) : gb395 ≠ gb382)); clear HO386; clear HO389; clear HO394; clear BK382; clear HB; have HO386 := n0_; have HO389 := n1_; have HO394 := n2_; have BK382 := n3_; have HB := n4_; have BK395 := n5_; have GW395 := n6_; have GE395 := n7_; have NB382_395 := n8_; have NB395_382 := n9_; clear n0_ n1_ n2_ n3_ n4_ n5_ n6_ n7_ n8_ n9_; clear hb hbox hg; have hnb36 := NB395_382.out; have hnc36 := NB382_395.out; have hcz37_0 : w35.cell? ⟨gb395, 0, none⟩ = some (.int .i64 0) := (q9 BK395.out 0).trans rfl; have hcz37_1 : w35.cell? ⟨gb395, 1, none⟩ = some (.int .i64 0) := (q9 BK395.out 1).trans rfl; have hcz37_2 : w35.cell? ⟨gb395, 2, none⟩ = some (.slice none 0 0) := (q9 BK395.out 2).trans rfl; have hfz37_0 := q11 BK395.out 0; have hfz37_1 := q11 BK395.out 1; have hfz37_2 := q11 BK395.out 2; obtain ⟨Ao38, co38, eo38⟩ := Kd.N_slice HO394.out; subst eo38) | ((with_reducible refine gate_store (t := 39) (p := 9) rfl ?_); refine store_event (t := 39) (p := 9) (v := ?vo_w39) (w1 := (((w35.setCell ⟨gb395, 0, none⟩ (.int .i64 t390)).setCell ⟨gb395, 1, none⟩ (.int .i64 t391)).setCell ⟨gb395, 2, none⟩ (.slice Ao38 t392.length co38))) ?hg ?ho ?hn ?hr ?_; (case ho => rfl); (case hg => rfl); (case hn => rfl); (case hr => first | (go_simp; done) | (go_simp; rfl)); intro w39 hw; have n0_ : Aside0 (Kd.N k69 69 w39 w.heap.size (fun k_ => some k_ ≠ (.slice Ao33 t387.length co33 : Value).ownBlock ∧ some k_ ≠ (.slice Ao38 t392.length co38 : Value).ownBlock ∧ k_ ≠ gb382 ∧ k_ ≠ gb395) (.slice Ao32 t384.length co32) t384) := ⟨(by rw [hw]; exact (by (with_reducible repeat (first | apply Kd.N_alloc | apply Kd.N_drewN | apply Kd.N_drew)); exact Kd.N_mono (Kd.N_far (p := ⟨gb395, 2, none⟩) (Kd.N_far (p := ⟨gb395, 1, none⟩) (Kd.N_far (p := ⟨gb395, 0, none⟩) (Kd.N_mono HO386.out (fun k_ hk => (⟨hk, hk.2⟩ : _ ∧ k_ ≠ gb395))) (fun _ hk => hk.2) (.int .i64 t390)) (fun _ hk => hk.2) (.int .i64 t391)) (fun _ hk => hk.2) (.slice Ao38 t392.length co38)) (fun _ hk => ⟨hk.1.1.1.2, ⟨hk.1.1.2, ⟨hk.1.1.1.1, hk.1.2⟩⟩⟩)))⟩; have n1_ : Aside0 (Kd.N k69 69 w39 w.heap.size (fun k_ => some k_ ≠ (.slice Ao32 t384.length co32 : Value).ownBlock ∧ some k_ ≠ (.slice Ao38 t392.length co38 : Value).ownBlock ∧ k_ ≠ gb382 ∧ k_ ≠ gb395) (.slice Ao33 t387.length co33) t387) := ⟨(by rw [hw]; exact (by (with_reducible repeat (first | apply Kd.N_alloc | apply Kd.N_drewN | apply Kd.N_drew)); exact Kd.N_mono (Kd.N_far (p := ⟨gb395, 2, none⟩) (Kd.N_far (p := ⟨gb395, 1, none⟩) (Kd.N_far (p := ⟨gb395, 0, none⟩) (Kd.N_mono HO389.out (fun k_ hk => (⟨hk, hk.2⟩ : _ ∧ k_ ≠ gb395))) (fun _ hk => hk.2) (.int .i64 t390)) (fun _ hk => hk.2) (.int .i64 t391)) (fun _ hk => hk.2) (.slice Ao38 t392.length co38)) (fun _ hk => ⟨hk.1.1.1.1, ⟨hk.1.1.2, ⟨hk.1.1.1.2, hk.1.2⟩⟩⟩)))⟩; have n2_ : Aside0 (Kd.N k69 69 w39 w.heap.size (fun k_ => some k_ ≠ (.slice Ao32 t384.length co32 : Value).ownBlock ∧ k_ ≠ gb382 ∧ k_ ≠ gb395) (.slice Ao38 t392.length co38) t392) := ⟨(by rw [hw]; exact (by (with_reducible repeat (first | apply Kd.N_alloc | apply Kd.N_drewN | apply Kd.N_drew)); exact Kd.N_mono (Kd.N_far (p := ⟨gb395, 2, none⟩) (Kd.N_far (p := ⟨gb395, 1, none⟩) (Kd.N_far (p := ⟨gb395, 0, none⟩) (Kd.N_mono HO394.out (fun k_ hk => (⟨hk, hk.2⟩ : _ ∧ k_ ≠ gb395))) (fun _ hk => hk.2) (.int .i64 t390)) (fun _ hk => hk.2) (.int .i64 t391)) (fun _ hk => hk.2) (.slice Ao38 t392.length co38)) (fun _ hk => ⟨hk.1.1.1, ⟨hk.1.1.2, hk.1.2⟩⟩)))⟩; have n3_ : Aside0 (w39.heap[gb382]? = some (.cells #[.int .i64 a2_0, .int .i64 a2_1, .slice A2_2 l2_2.length c2_2] 39 (0, 0))) := ⟨(by rw [hw]; exact (by (with_reducible repeat (first | refine q0 ?_ _ | refine q1 ?_ | refine q2 ?_ _)); refine blk_far ?_ NB382_395.out _; (with_reducible repeat (first | refine q0 ?_ _ | refine q1 ?_ | refine q2 ?_ _)); refine blk_far ?_ NB382_395.out _; (with_reducible repeat (first | refine q0 ?_ _ | refine q1 ?_ | refine q2 ?_ _)); refine blk_far ?_ NB382_395.out _; (with_reducible repeat (first | refine q0 ?_ _ | refine q1 ?_ | refine q2 ?_ _)); exact BK382.out))⟩; have n4_ : Aside0 (w39.heap[gb395]? = some (.cells #[.int .i64 t390, .int .i64 t391, .slice Ao38 t392.length co38] 39 (0, 0))) := ⟨(by rw [hw]; exact (by (with_reducible repeat (first | refine q0 ?_ _ | refine q1 ?_ | refine q2 ?_ _)); refine blk_put (cs := #[.int .i64 t390, .int .i64 t391, .slice none 0 0]) ?_ 2 _ rfl; (with_reducible repeat (first | refine q0 ?_ _ | refine q1 ?_ | refine q2 ?_ _)); refine blk_put (cs := #[.int .i64 t390, .int .i64 0, .slice none 0 0]) ?_ 1 _ rfl; (with_reducible repeat (first | refine q0 ?_ _ | refine q1 ?_ | refine q2 ?_ _)); refine blk_put (cs := #[.int .i64 0, .int .i64 0, .slice none 0 0]) ?_ 0 _ rfl; (with_reducible repeat (first | refine q0 ?_ _ | refine q1 ?_ | refine q2 ?_ _)); exact BK395.out))⟩; have n5_ : Aside0 (Below w.heap.size w w39) := ⟨(by rw [hw]; exact (by repeat (first | (with_reducible first | exact HB.out | apply q3 | apply q4 | apply q5 | refine q6 ?_ GE382.out | refine q6 ?_ GE395.out) | exact HB.out)))⟩; clear hw; clear HO386; clear HO389; clear HO394; clear BK382; clear BK395; clear HB; have HO386 := n0_; have HO389 := n1_; have HO394 := n2_; have BK382 := n3_; have BK395 := n4_; have HB := n5_; clear n0_ n1_ n2_ n3_ n4_ n5_; have hcz40_0 : w39.cell? ⟨gb395, 0, none⟩ = some (.int .i64 t390) := (q9 BK395.out 0).trans rfl; have hcz40_1 : w39.cell? ⟨gb395, 1, none⟩ = some (.int .i64 t391) := (q9 BK395.out 1).trans rfl; have hcz40_2 : w39.cell? ⟨gb395, 2, none⟩ = some (.slice Ao38 t392.length co38) := (q9 BK395.out 2).trans rfl; have hfz40_0 := q11 BK395.out 0; have hfz40_1 := q11 BK395.out 1; have hfz40_2 := q11 BK395.out 2) | ((with_reducible refine gate_callee (f := 18) rfl ?_); refine goesL_ (some 39) rfl rfl Try.func18 (by kernel_rfl) rfl #[.agg #[.int .i64 t390, .int .i64 t391, .slice Ao38 t392.length co38]] rfl (by (try simp only [List.map_toArray, List.map_cons, List.map_nil]); first | done | rfl | (simp only [List.length_drop, List.length_take]; rfl)) ?_; (with_reducible refine (frisketlaw36_patch.calls t390 t391 (fun k_ => (some k_ ≠ (.slice Ao32 t384.length co32 : Value).ownBlock ∧ (k_ ≠ gb382 ∧ k_ ≠ gb395))) _ _ t392 t396 t397 t398 _ ?side1 A15.out).mono ?_); (case side1 => exact Kd.N_V (HO394.out)); rintro e w41 ⟨v399, rfl, ho0, hb⟩; refine ⟨_, rfl, ?_⟩; have n0_ := q13 (Kd.N_below (gN HO386) hb); have n1_ := q13 (Kd.N_below (gN HO389) hb); have n2_ := q13 (Kd.N_below (gN HO394) hb); have n3_ := q13 (Kd.V_lower (Kd.V_mono (ok' := fun k_ => some k_ ≠ (.slice Ao32 t384.length co32 : Value).ownBlock ∧ k_ ≠ gb382 ∧ k_ ≠ gb395) ho0 (fun k_ hk_ => ⟨Or.elim hk_ (fun hs_ => hs_.1) (fun hn_ => (Kd.fresh' (Kd.N_lt (gN HO386)) k_ hn_)), Or.elim hk_ (fun hs_ => hs_.2.1) (fun hn_ => (Kd.freshB (g := gb382) (o := .cells #[.int .i64 a2_0, .int .i64 a2_1, .slice A2_2 l2_2.length c2_2] 39 (0, 0)) (gK BK382) k_ hn_)), Or.elim hk_ (fun hs_ => hs_.2.2) (fun hn_ => (Kd.freshB (g := gb395) (o := .cells #[.int .i64 t390, .int .i64 t391, .slice Ao38 t392.length co38] 39 (0, 0)) (gK BK395) k_ hn_))⟩)) (q7 (by repeat (first | (with_reducible first | exact HB.out | apply q3 | apply q4 | apply q5 | refine q6 ?_ GE382.out | refine q6 ?_ GE395.out) | exact HB.out)))); have n4_ := q13 (q8 (g := gb382) (o := .cells #[.int .i64 a2_0, .int .i64 a2_1, .slice A2_2 l2_2.length c2_2] 39 (0, 0)) (gK BK382) hb); have n5_ := q13 (q8 (g := gb395) (o := .cells #[.int .i64 t390, .int .i64 t391, .slice Ao38 t392.length co38] 39 (0, 0)) (gK BK395) hb); have n6_ := q13 (q12 (by repeat (first | (with_reducible first | exact HB.out | apply q3 | apply q4 | apply q5 | refine q6 ?_ GE382.out | refine q6 ?_ GE395.out) | exact HB.out)) hb); clear HO386; clear HO389; clear HO394; clear BK382; clear BK395; clear HB; have HO386 := n0_; have HO389 := n1_; have HO394 := n2_; have HO400 := n3_; have BK382 := n4_; have BK395 := n5_; have HB := n6_; clear n0_ n1_ n2_ n3_ n4_ n5_ n6_; (try clear hb); (try clear hb2); (try clear hk); (try clear hi); (try clear ho0)) | ((with_reducible refine gate_callee (f := 19) rfl ?_); refine goesL_ (some 42) rfl rfl Try.func19 (by kernel_rfl) rfl #[.slice Ao32 t384.length co32, .slice Ao33 t387.length co33] rfl (by (try simp only [List.map_toArray, List.map_cons, List.map_nil]); first | done | rfl | (simp only [List.length_drop, List.length_take]; rfl)) ?_; (with_reducible refine (frisketref36_Patched.calls kj3 _ _ t384 (fun k_ => (some k_ ≠ (.slice Ao32 t384.length co32 : Value).ownBlock ∧ (some k_ ≠ (.slice Ao38 t392.length co38 : Value).ownBlock ∧ (k_ ≠ gb382 ∧ k_ ≠ gb395)))) _ _ t387 t401 t402 t403 _ ?side1 ?side2 ?side3 A16.out).mono ?_); (case side1 => repeat (first | exact (Kd.N_reads' HO386.out).2.2 | (with_reducible refine q18 ?_ _) | (with_reducible refine q19 ?_ _) | (with_reducible refine q20 ?_))); (case side2 => exact (Kd.N_reads' HO386.out).2.1); (case side3 => exact Kd.N_V (HO389.out)); rintro e w42 ⟨v404, rfl, ho0, hb⟩; refine ⟨_, rfl, ?_⟩; have n0_ := q13 (Kd.N_elder' (gN HO386) (by first | exact q43 ho0 | exact q44 ho0 | exact Kd.S_base ho0) hb); have n1_ := q13 (Kd.N_elder' (gN HO389) (by first | exact q43 ho0 | exact q44 ho0 | exact Kd.S_base ho0) hb); have n2_ := q13 (Kd.N_elder' (gN HO394) (by first | exact q43 ho0 | exact q44 ho0 | exact Kd.S_base ho0) hb); have n3_ := q13 (Kd.V_elder' (gV HO400) (by first | exact q43 ho0 | exact q44 ho0 | exact Kd.S_base ho0) hb); have n4_ := q13 (Kd.N_lower (Kd.N_mono (ok' := fun k_ => some k_ ≠ (.slice Ao32 t384.length co32 : Value).ownBlock ∧ some k_ ≠ (.slice Ao38 t392.length co38 : Value).ownBlock ∧ k_ ≠ gb382 ∧ k_ ≠ gb395) ho0 (fun k_ hk_ => ⟨Or.elim hk_ (fun hs_ => hs_.1) (fun hn_ => (Kd.fresh' (Kd.N_lt (gN HO386)) k_ hn_)), Or.elim hk_ (fun hs_ => hs_.2.1) (fun hn_ => (Kd.fresh' (Kd.N_lt (gN HO394)) k_ hn_)), Or.elim hk_ (fun hs_ => hs_.2.2.1) (fun hn_ => (Kd.freshB (g := gb382) (o := .cells #[.int .i64 a2_0, .int .i64 a2_1, .slice A2_2 l2_2.length c2_2] 39 (0, 0)) (gK BK382) k_ hn_)), Or.elim hk_ (fun hs_ => hs_.2.2.2) (fun hn_ => (Kd.freshB (g := gb395) (o := .cells #[.int .i64 t390, .int .i64 t391, .slice Ao38 t392.length co38] 39 (0, 0)) (gK BK395) k_ hn_))⟩)) (q7 (by repeat (first | (with_reducible first | exact HB.out | apply q3 | apply q4 | apply q5 | refine q6 ?_ GE382.out | refine q6 ?_ GE395.out) | exact HB.out)))); have n5_ := q13 (q8 (g := gb382) (o := .cells #[.int .i64 a2_0, .int .i64 a2_1, .slice A2_2 l2_2.length c2_2] 39 (0, 0)) (gK BK382) hb); have n6_ := q13 (q8 (g := gb395) (o := .cells #[.int .i64 t390, .int .i64 t391, .slice Ao38 t392.length co38] 39 (0, 0)) (gK BK395) hb); have n7_ := q13 (q12 (by repeat (first | (with_reducible first | exact HB.out | apply q3 | apply q4 | apply q5 | refine q6 ?_ GE382.out | refine q6 ?_ GE395.out) | exact HB.out)) hb); clear HO386; clear HO389; clear HO394; clear HO400; clear BK382; clear BK395; clear HB; have HO386 := n0_; have HO389 := n1_; have HO394 := n2_; have HO400 := n3_; have HO405 := n4_; have BK382 := n5_; have BK395 := n6_; have HB := n7_; clear n0_ n1_ n2_ n3_ n4_ n5_ n6_ n7_; (try clear hb); (try clear hb2); (try clear hk); (try clear hi); (try clear ho0); obtain ⟨Ao43, co43, eo43⟩ := Kd.V_slice HO400.out; subst eo43; obtain ⟨Ao44, co44, eo44⟩ := Kd.N_slice HO405.out; subst eo44) | ((with_reducible refine gate_callee (f := 17) rfl ?_); refine goesL_ (some 43) rfl rfl Try.func17 (by kernel_rfl) rfl #[.agg #[.int .i64 t396, .int .i64 t397, .slice Ao43 t398.length co43], .agg #[.int .i64 t401, .int .i64 t402, .slice Ao44 t403.length co44]] rfl (by (try simp only [List.map_toArray, List.map_cons, List.map_nil]); first | done | rfl | (simp only [List.length_drop, List.length_take]; rfl)) ?_; (with_reducible refine (frisketref36_SamePatch.calls kj3 t396 t397 _ _ t398 t401 t402 _ _ t403 true _ ?side1 ?side2 ?side3 ?side4 A17.out).mono ?_); (case side1 => repeat (first | exact (Kd.V_reads' HO400.out).2.2 | (with_reducible refine q18 ?_ _) | (with_reducible refine q19 ?_ _) | (with_reducible refine q20 ?_))); (case side2 => exact (Kd.V_reads' HO400.out).2.1); (case side3 => repeat (first | exact (Kd.N_reads' HO405.out).2.2 | (with_reducible refine q18 ?_ _) | (with_reducible refine q19 ?_ _) | (with_reducible refine q20 ?_))); (case side4 => exact (Kd.N_reads' HO405.out).2.1); rintro e w45 ⟨rfl, hb⟩; refine ⟨_, rfl, ?_⟩; have n0_ := q13 (Kd.N_below (gN HO386) hb); have n1_ := q13 (Kd.N_below (gN HO389) hb); have n2_ := q13 (Kd.N_below (gN HO394) hb); have n3_ := q13 (Kd.V_below (gV HO400) hb); have n4_ := q13 (Kd.N_below (gN HO405) hb); have n5_ := q13 (q8 (g := gb382) (o := .cells #[.int .i64 a2_0, .int .i64 a2_1, .slice A2_2 l2_2.length c2_2] 39 (0, 0)) (gK BK382) hb); have n6_ := q13 (q8 (g := gb395) (o := .cells #[.int .i64 t390, .int .i64 t391, .slice Ao38 t392.length co38] 39 (0, 0)) (gK BK395) hb); have n7_ := q13 (q12 (by repeat (first | (with_reducible first | exact HB.out | apply q3 | apply q4 | apply q5 | refine q6 ?_ GE382.out | refine q6 ?_ GE395.out) | exact HB.out)) hb); clear HO386; clear HO389; clear HO394; clear HO400; clear HO405; clear BK382; clear BK395; clear HB; have HO386 := n0_; have HO389 := n1_; have HO394 := n2_; have HO400 := n3_; have HO405 := n4_; have BK382 := n5_; have BK395 := n6_; have HB := n7_; clear n0_ n1_ n2_ n3_ n4_ n5_ n6_ n7_; (try clear hb); (try clear hb2); (try clear hk); (try clear hi); have hcz46_0 : w45.cell? ⟨gb395, 0, none⟩ = some (.int .i64 t390) := (q9 BK395.out 0).trans rfl; have hcz46_1 : w45.cell? ⟨gb395, 1, none⟩ = some (.int .i64 t391) := (q9 BK395.out 1).trans rfl; have hcz46_2 : w45.cell? ⟨gb395, 2, none⟩ = some (.slice Ao38 t392.length co38) := (q9 BK395.out 2).trans rfl; have hfz46_0 := q11 BK395.out 0; have hfz46_1 := q11 BK395.out 1; have hfz46_2 := q11 BK395.out 2) | ((with_reducible refine gate_callee (f := 20) rfl ?_); refine goesL_ (some 48) rfl rfl Try.func20 (by kernel_rfl) rfl #[.slice Ao32 t384.length co32, .agg #[.int .i64 t390, .int .i64 t391, .slice Ao38 t392.length co38]] rfl (by (try simp only [List.map_toArray, List.map_cons, List.map_nil]); first | done | rfl | (simp only [List.length_drop, List.length_take]; rfl)) ?_; (with_reducible refine (compare_Use.calls kj3 (fun k_ => ((some k_ ≠ (.slice Ao33 t387.length co33 : Value).ownBlock ∧ (some k_ ≠ (.slice Ao38 t392.length co38 : Value).ownBlock ∧ (k_ ≠ gb382 ∧ k_ ≠ gb395))) ∧ some k_ ≠ (.slice Ao44 t403.length co44 : Value).ownBlock)) _ _ t384 t390 t391 (fun k_ => ((some k_ ≠ (.slice Ao32 t384.length co32 : Value).ownBlock ∧ (k_ ≠ gb382 ∧ k_ ≠ gb395)) ∧ some k_ ≠ (.slice Ao44 t403.length co44 : Value).ownBlock)) _ _ t392 t407 t410 _ ?side1 ?side2 A19.out).mono ?_); (case side1 => exact Kd.N_V (HO386.out)); (case side2 => exact Kd.N_V (HO394.out)); rintro e w47 ⟨v408, rfl, ho0, hb⟩; refine ⟨_, rfl, ?_⟩; have n0_ := q13 (Kd.N_elder' (gN HO386) (by first | exact q43 ho0 | exact q44 ho0 | exact Kd.S_base ho0) hb); have n1_ := q13 (Kd.N_elder' (gN HO389) (by first | exact q43 ho0 | exact q44 ho0 | exact Kd.S_base ho0) hb); have n2_ := q13 (Kd.N_elder' (gN HO394) (by first | exact q43 ho0 | exact q44 ho0 | exact Kd.S_base ho0) hb); have n3_ := q13 (Kd.V_elder' (gV HO400) (by first | exact q43 ho0 | exact q44 ho0 | exact Kd.S_base ho0) hb); have n4_ := q13 (Kd.N_elder' (gN HO405) (by first | exact q43 ho0 | exact q44 ho0 | exact Kd.S_base ho0) hb); have n5_ := q13 (Kd.N_lower (Kd.N_mono (ok' := fun k_ => some k_ ≠ (.slice Ao44 t403.length co44 : Value).ownBlock ∧ k_ ≠ gb382 ∧ k_ ≠ gb395) ho0 (fun k_ hk_ => ⟨Or.elim hk_ (fun hs_ => Or.elim hs_ (fun hs_ => hs_.2) (fun hs_ => hs_.2)) (fun hn_ => (Kd.fresh' (Kd.N_lt (gN HO405)) k_ hn_)), Or.elim hk_ (fun hs_ => Or.elim hs_ (fun hs_ => hs_.1.2.2.1) (fun hs_ => hs_.1.2.1)) (fun hn_ => (Kd.freshB (g := gb382) (o := .cells #[.int .i64 a2_0, .int .i64 a2_1, .slice A2_2 l2_2.length c2_2] 39 (0, 0)) (gK BK382) k_ hn_)), Or.elim hk_ (fun hs_ => Or.elim hs_ (fun hs_ => hs_.1.2.2.2) (fun hs_ => hs_.1.2.2)) (fun hn_ => (Kd.freshB (g := gb395) (o := .cells #[.int .i64 t390, .int .i64 t391, .slice Ao38 t392.length co38] 39 (0, 0)) (gK BK395) k_ hn_))⟩)) (q7 (by repeat (first | (with_reducible first | exact HB.out | apply q3 | apply q4 | apply q5 | refine q6 ?_ GE382.out | refine q6 ?_ GE395.out) | exact HB.out)))); have n6_ := q13 (q8 (g := gb382) (o := .cells #[.int .i64 a2_0, .int .i64 a2_1, .slice A2_2 l2_2.length c2_2] 39 (0, 0)) (gK BK382) hb); have n7_ := q13 (q8 (g := gb395) (o := .cells #[.int .i64 t390, .int .i64 t391, .slice Ao38 t392.length co38] 39 (0, 0)) (gK BK395) hb); have n8_ := q13 (q12 (by repeat (first | (with_reducible first | exact HB.out | apply q3 | apply q4 | apply q5 | refine q6 ?_ GE382.out | refine q6 ?_ GE395.out) | exact HB.out)) hb); clear HO386; clear HO389; clear HO394; clear HO400; clear HO405; clear BK382; clear BK395; clear HB; have HO386 := n0_; have HO389 := n1_; have HO394 := n2_; have HO400 := n3_; have HO405 := n4_; have HO409 := n5_; have BK382 := n6_; have BK395 := n7_; have HB := n8_; clear n0_ n1_ n2_ n3_ n4_ n5_ n6_ n7_ n8_; (try clear hb); (try clear hb2); (try clear hk); (try clear hi); (try clear ho0); have hcz48_0 : w47.cell? ⟨gb382, 0, none⟩ = some (.int .i64 a2_0) := (q9 BK382.out 0).trans rfl; have hcz48_1 : w47.cell? ⟨gb382, 1, none⟩ = some (.int .i64 a2_1) := (q9 BK382.out 1).trans rfl; have hcz48_2 : w47.cell? ⟨gb382, 2, none⟩ = some (.slice A2_2 l2_2.length c2_2) := (q9 BK382.out 2).trans rfl; have hfz48_0 := q11 BK382.out 0; have hfz48_1 := q11 BK382.out 1; have hfz48_2 := q11 BK382.out 2) | ((with_reducible refine gate_callee (f := 20) rfl ?_); refine goesL_ (some 54) rfl rfl Try.func20 (by kernel_rfl) rfl #[.slice Ao32 t384.length co32, .agg #[.int .i64 a2_0, .int .i64 a2_1, .slice A2_2 l2_2.length c2_2]] rfl (by (try simp only [List.map_toArray, List.map_cons, List.map_nil]); first | done | rfl | (simp only [List.length_drop, List.length_take]; rfl)) ?_; (with_reducible refine (compare_Use.calls kj3 (fun k_ => (((some k_ ≠ (.slice Ao33 t387.length co33 : Value).ownBlock ∧ (some k_ ≠ (.slice Ao38 t392.length co38 : Value).ownBlock ∧ (k_ ≠ gb382 ∧ k_ ≠ gb395))) ∧ some k_ ≠ (.slice Ao44 t403.length co44 : Value).ownBlock) ∧ some k_ ≠ (v408 : Value).ownBlock)) _ _ t384 a2_0 a2_1 (fun k_ => k_ < w.heap.size) _ _ l2_2 t411 t414 _ ?side1 ?side2 A20.out).mono ?_); (case side1 => exact Kd.N_V (HO386.out)); (case side2 => exact Kd.V_mk HC2_2.out (Kd.F_below (Kd.C_F k69_heap HR2_2.out) (by repeat (first | (with_reducible first | exact HB.out | apply q3 | apply q4 | apply q5 | refine q6 ?_ GE382.out | refine q6 ?_ GE395.out) | exact HB.out)))); rintro e w49 ⟨v412, rfl, ho0, hb⟩; refine ⟨_, rfl, ?_⟩; have n0_ := q13 (Kd.N_elder' (gN HO386) (by first | exact q43 ho0 | exact q44 ho0 | exact Kd.S_base ho0) hb); have n1_ := q13 (Kd.N_elder' (gN HO389) (by first | exact q43 ho0 | exact q44 ho0 | exact Kd.S_base ho0) hb); have n2_ := q13 (Kd.N_elder' (gN HO394) (by first | exact q43 ho0 | exact q44 ho0 | exact Kd.S_base ho0) hb); have n3_ := q13 (Kd.V_elder' (gV HO400) (by first | exact q43 ho0 | exact q44 ho0 | exact Kd.S_base ho0) hb); have n4_ := q13 (Kd.N_elder' (gN HO405) (by first | exact q43 ho0 | exact q44 ho0 | exact Kd.S_base ho0) hb); have n5_ := q13 (Kd.N_elder' (gN HO409) (by first | exact q43 ho0 | exact q44 ho0 | exact Kd.S_base ho0) hb); have n6_ := q13 (Kd.N_lower (Kd.N_mono (ok' := fun k_ => some k_ ≠ (.slice Ao33 t387.length co33 : Value).ownBlock ∧ some k_ ≠ (.slice Ao38 t392.length co38 : Value).ownBlock ∧ some k_ ≠ (.slice Ao44 t403.length co44 : Value).ownBlock ∧ some k_ ≠ (v408 : Value).ownBlock ∧ k_ ≠ gb382 ∧ k_ ≠ gb395) ho0 (fun k_ hk_ => ⟨Or.elim hk_ (fun hs_ => Or.elim hs_ (fun hs_ => hs_.1.1.1) (fun hs_ => fun e_ => Nat.not_le.2 hs_ (q43 HO389.out k_ e_.symm))) (fun hn_ => (Kd.fresh' (Kd.N_lt (gN HO389)) k_ hn_)), Or.elim hk_ (fun hs_ => Or.elim hs_ (fun hs_ => hs_.1.1.2.1) (fun hs_ => fun e_ => Nat.not_le.2 hs_ (q43 HO394.out k_ e_.symm))) (fun hn_ => (Kd.fresh' (Kd.N_lt (gN HO394)) k_ hn_)), Or.elim hk_ (fun hs_ => Or.elim hs_ (fun hs_ => hs_.1.2) (fun hs_ => fun e_ => Nat.not_le.2 hs_ (q43 HO405.out k_ e_.symm))) (fun hn_ => (Kd.fresh' (Kd.N_lt (gN HO405)) k_ hn_)), Or.elim hk_ (fun hs_ => Or.elim hs_ (fun hs_ => hs_.2) (fun hs_ => fun e_ => Nat.not_le.2 hs_ (q43 HO409.out k_ e_.symm))) (fun hn_ => (Kd.fresh' (Kd.N_lt (gN HO409)) k_ hn_)), Or.elim hk_ (fun hs_ => Or.elim hs_ (fun hs_ => hs_.1.1.2.2.1) (fun hs_ => fun e_ => Nat.not_le.2 hs_ (by rw [e_]; exact GW382.out))) (fun hn_ => (Kd.freshB (g := gb382) (o := .cells #[.int .i64 a2_0, .int .i64 a2_1, .slice A2_2 l2_2.length c2_2] 39 (0, 0)) (gK BK382) k_ hn_)), Or.elim hk_ (fun hs_ => Or.elim hs_ (fun hs_ => hs_.1.1.2.2.2) (fun hs_ => fun e_ => Nat.not_le.2 hs_ (by rw [e_]; exact GW395.out))) (fun hn_ => (Kd.freshB (g := gb395) (o := .cells #[.int .i64 t390, .int .i64 t391, .slice Ao38 t392.length co38] 39 (0, 0)) (gK BK395) k_ hn_))⟩)) (q7 (by repeat (first | (with_reducible first | exact HB.out | apply q3 | apply q4 | apply q5 | refine q6 ?_ GE382.out | refine q6 ?_ GE395.out) | exact HB.out)))); have n7_ := q13 (q8 (g := gb382) (o := .cells #[.int .i64 a2_0, .int .i64 a2_1, .slice A2_2 l2_2.length c2_2] 39 (0, 0)) (gK BK382) hb); have n8_ := q13 (q8 (g := gb395) (o := .cells #[.int .i64 t390, .int .i64 t391, .slice Ao38 t392.length co38] 39 (0, 0)) (gK BK395) hb); have n9_ := q13 (q12 (by repeat (first | (with_reducible first | exact HB.out | apply q3 | apply q4 | apply q5 | refine q6 ?_ GE382.out | refine q6 ?_ GE395.out) | exact HB.out)) hb); clear HO386; clear HO389; clear HO394; clear HO400; clear HO405; clear HO409; clear BK382; clear BK395; clear HB; have HO386 := n0_; have HO389 := n1_; have HO394 := n2_; have HO400 := n3_; have HO405 := n4_; have HO409 := n5_; have HO413 := n6_; have BK382 := n7_; have BK395 := n8_; have HB := n9_; clear n0_ n1_ n2_ n3_ n4_ n5_ n6_ n7_ n8_ n9_; (try clear hb); (try clear hb2); (try clear hk); (try clear hi); (try clear ho0); have hcz50_0 : w49.cell? ⟨gb382, 0, none⟩ = some (.int .i64 a2_0) := (q9 BK382.out 0).trans rfl; have hcz50_1 : w49.cell? ⟨gb382, 1, none⟩ = some (.int .i64 a2_1) := (q9 BK382.out 1).trans rfl; have hcz50_2 : w49.cell? ⟨gb382, 2, none⟩ = some (.slice A2_2 l2_2.length c2_2) := (q9 BK382.out 2).trans rfl; have hfz50_0 := q11 BK382.out 0; have hfz50_1 := q11 BK382.out 1; have hfz50_2 := q11 BK382.out 2) | ((with_reducible refine gate_callee (f := 18) rfl ?_); refine goesL_ (some 60) rfl rfl Try.func18 (by kernel_rfl) rfl #[.agg #[.int .i64 a2_0, .int .i64 a2_1, .slice A2_2 l2_2.length c2_2]] rfl (by (try simp only [List.map_toArray, List.map_cons, List.map_nil]); first | done | rfl | (simp only [List.length_drop, List.length_take]; rfl)) ?_; (with_reducible refine (frisketlaw36_patch.calls a2_0 a2_1 (fun k_ => k_ < w.heap.size) _ _ l2_2 t415 t416 t417 _ ?side1 A21.out).mono ?_); (case side1 => exact Kd.V_mk HC2_2.out (Kd.F_below (Kd.C_F k69_heap HR2_2.out) (by repeat (first | (with_reducible first | exact HB.out | apply q3 | apply q4 | apply q5 | refine q6 ?_ GE382.out | refine q6 ?_ GE395.out) | exact HB.out)))); rintro e w51 ⟨v418, rfl, ho0, hb⟩; refine ⟨_, rfl, ?_⟩; have n0_ := q13 (Kd.N_below (gN HO386) hb); have n1_ := q13 (Kd.N_below (gN HO389) hb); have n2_ := q13 (Kd.N_below (gN HO394) hb); have n3_ := q13 (Kd.V_below (gV HO400) hb); have n4_ := q13 (Kd.N_below (gN HO405) hb); have n5_ := q13 (Kd.N_below (gN HO409) hb); have n6_ := q13 (Kd.N_below (gN HO413) hb); have n7_ := q13 (Kd.V_lower (Kd.V_mono (ok' := fun k_ => some k_ ≠ (.slice Ao32 t384.length co32 : Value).ownBlock ∧ some k_ ≠ (.slice Ao33 t387.length co33 : Value).ownBlock ∧ some k_ ≠ (.slice Ao38 t392.length co38 : Value).ownBlock ∧ some k_ ≠ (.slice Ao44 t403.length co44 : Value).ownBlock ∧ some k_ ≠ (v408 : Value).ownBlock ∧ some k_ ≠ (v412 : Value).ownBlock ∧ k_ ≠ gb382 ∧ k_ ≠ gb395) ho0 (fun k_ hk_ => ⟨Or.elim hk_ (fun hs_ => fun e_ => Nat.not_le.2 hs_ (q43 HO386.out k_ e_.symm)) (fun hn_ => (Kd.fresh' (Kd.N_lt (gN HO386)) k_ hn_)), Or.elim hk_ (fun hs_ => fun e_ => Nat.not_le.2 hs_ (q43 HO389.out k_ e_.symm)) (fun hn_ => (Kd.fresh' (Kd.N_lt (gN HO389)) k_ hn_)), Or.elim hk_ (fun hs_ => fun e_ => Nat.not_le.2 hs_ (q43 HO394.out k_ e_.symm)) (fun hn_ => (Kd.fresh' (Kd.N_lt (gN HO394)) k_ hn_)), Or.elim hk_ (fun hs_ => fun e_ => Nat.not_le.2 hs_ (q43 HO405.out k_ e_.symm)) (fun hn_ => (Kd.fresh' (Kd.N_lt (gN HO405)) k_ hn_)), Or.elim hk_ (fun hs_ => fun e_ => Nat.not_le.2 hs_ (q43 HO409.out k_ e_.symm)) (fun hn_ => (Kd.fresh' (Kd.N_lt (gN HO409)) k_ hn_)), Or.elim hk_ (fun hs_ => fun e_ => Nat.not_le.2 hs_ (q43 HO413.out k_ e_.symm)) (fun hn_ => (Kd.fresh' (Kd.N_lt (gN HO413)) k_ hn_)), Or.elim hk_ (fun hs_ => fun e_ => Nat.not_le.2 hs_ (by rw [e_]; exact GW382.out)) (fun hn_ => (Kd.freshB (g := gb382) (o := .cells #[.int .i64 a2_0, .int .i64 a2_1, .slice A2_2 l2_2.length c2_2] 39 (0, 0)) (gK BK382) k_ hn_)), Or.elim hk_ (fun hs_ => fun e_ => Nat.not_le.2 hs_ (by rw [e_]; exact GW395.out)) (fun hn_ => (Kd.freshB (g := gb395) (o := .cells #[.int .i64 t390, .int .i64 t391, .slice Ao38 t392.length co38] 39 (0, 0)) (gK BK395) k_ hn_))⟩)) (q7 (by repeat (first | (with_reducible first | exact HB.out | apply q3 | apply q4 | apply q5 | refine q6 ?_ GE382.out | refine q6 ?_ GE395.out) | exact HB.out)))); have n8_ := q13 (q8 (g := gb382) (o := .cells #[.int .i64 a2_0, .int .i64 a2_1, .slice A2_2 l2_2.length c2_2] 39 (0, 0)) (gK BK382) hb); have n9_ := q13 (q8 (g := gb395) (o := .cells #[.int .i64 t390, .int .i64 t391, .slice Ao38 t392.length co38] 39 (0, 0)) (gK BK395) hb); have n10_ := q13 (q12 (by repeat (first | (with_reducible first | exact HB.out | apply q3 | apply q4 | apply q5 | refine q6 ?_ GE382.out | refine q6 ?_ GE395.out) | exact HB.out)) hb); clear HO386; clear HO389; clear HO394; clear HO400; clear HO405; clear HO409; clear HO413; clear BK382; clear BK395; clear HB; have HO386 := n0_; have HO389 := n1_; have HO394 := n2_; have HO400 := n3_; have HO405 := n4_; have HO409 := n5_; have HO413 := n6_; have HO419 := n7_; have BK382 := n8_; have BK395 := n9_; have HB := n10_; clear n0_ n1_ n2_ n3_ n4_ n5_ n6_ n7_ n8_ n9_ n10_; (try clear hb); (try clear hb2); (try clear hk); (try clear hi); (try clear ho0); obtain ⟨Ao52, co52, eo52⟩ := Kd.V_slice HO419.out; subst eo52) | ((with_reducible refine gate_callee (f := 21) rfl ?_); refine goesL_ (some 61) rfl rfl Try.func21 (by kernel_rfl) rfl #[.slice Ao32 t384.length co32, .agg #[.int .i64 t415, .int .i64 t416, .slice Ao52 t417.length co52]] rfl (by (try simp only [List.map_toArray, List.map_cons, List.map_nil]); first | done | rfl | (simp only [List.length_drop, List.length_take]; rfl)) ?_; (with_reducible refine (frisketref36_Use.calls kj3 (fun k_ => ((((some k_ ≠ (.slice Ao33 t387.length co33 : Value).ownBlock ∧ (some k_ ≠ (.slice Ao38 t392.length co38 : Value).ownBlock ∧ (k_ ≠ gb382 ∧ k_ ≠ gb395))) ∧ some k_ ≠ (.slice Ao44 t403.length co44 : Value).ownBlock) ∧ some k_ ≠ (v408 : Value).ownBlock) ∧ some k_ ≠ (v412 : Value).ownBlock)) _ _ t384 t415 t416 (fun k_ => (some k_ ≠ (.slice Ao32 t384.length co32 : Value).ownBlock ∧ (some k_ ≠ (.slice Ao33 t387.length co33 : Value).ownBlock ∧ (some k_ ≠ (.slice Ao38 t392.length co38 : Value).ownBlock ∧ (some k_ ≠ (.slice Ao44 t403.length co44 : Value).ownBlock ∧ (some k_ ≠ (v408 : Value).ownBlock ∧ (some k_ ≠ (v412 : Value).ownBlock ∧ (k_ ≠ gb382 ∧ k_ ≠ gb395)))))))) _ _ t417 t420 t423 _ ?side1 ?side2 A22.out).mono ?_); (case side1 => exact Kd.N_V (HO386.out)); (case side2 => exact HO419.out); rintro e w53 ⟨v421, rfl, ho0, hb⟩; refine ⟨_, rfl, ?_⟩; have n0_ := q13 (Kd.N_elder' (gN HO386) (by first | exact q43 ho0 | exact q44 ho0 | exact Kd.S_base ho0) hb); have n1_ := q13 (Kd.N_elder' (gN HO389) (by first | exact q43 ho0 | exact q44 ho0 | exact Kd.S_base ho0) hb); have n2_ := q13 (Kd.N_elder' (gN HO394) (by first | exact q43 ho0 | exact q44 ho0 | exact Kd.S_base ho0) hb); have n3_ := q13 (Kd.V_elder' (gV HO400) (by first | exact q43 ho0 | exact q44 ho0 | exact Kd.S_base ho0) hb); have n4_ := q13 (Kd.N_elder' (gN HO405) (by first | exact q43 ho0 | exact q44 ho0 | exact Kd.S_base ho0) hb); have n5_ := q13 (Kd.N_elder' (gN HO409) (by first | exact q43 ho0 | exact q44 ho0 | exact Kd.S_base ho0) hb); have n6_ := q13 (Kd.N_elder' (gN HO413) (by first | exact q43 ho0 | exact q44 ho0 | exact Kd.S_base ho0) hb); have n7_ := q13 (Kd.V_elder' (gV HO419) (by first | exact q43 ho0 | exact q44 ho0 | exact Kd.S_base ho0) hb); have n8_ := q13 (Kd.N_lower (Kd.N_mono (ok' := fun k_ => some k_ ≠ (.slice Ao33 t387.length co33 : Value).ownBlock ∧ some k_ ≠ (.slice Ao38 t392.length co38 : Value).ownBlock ∧ some k_ ≠ (.slice Ao44 t403.length co44 : Value).ownBlock ∧ some k_ ≠ (v408 : Value).ownBlock ∧ some k_ ≠ (v412 : Value).ownBlock ∧ k_ ≠ gb382 ∧ k_ ≠ gb395) ho0 (fun k_ hk_ => ⟨Or.elim hk_ (fun hs_ => Or.elim hs_ (fun hs_ => hs_.1.1.1.1) (fun hs_ => hs_.2.1)) (fun hn_ => (Kd.fresh' (Kd.N_lt (gN HO389)) k_ hn_)), Or.elim hk_ (fun hs_ => Or.elim hs_ (fun hs_ => hs_.1.1.1.2.1) (fun hs_ => hs_.2.2.1)) (fun hn_ => (Kd.fresh' (Kd.N_lt (gN HO394)) k_ hn_)), Or.elim hk_ (fun hs_ => Or.elim hs_ (fun hs_ => hs_.1.1.2) (fun hs_ => hs_.2.2.2.1)) (fun hn_ => (Kd.fresh' (Kd.N_lt (gN HO405)) k_ hn_)), Or.elim hk_ (fun hs_ => Or.elim hs_ (fun hs_ => hs_.1.2) (fun hs_ => hs_.2.2.2.2.1)) (fun hn_ => (Kd.fresh' (Kd.N_lt (gN HO409)) k_ hn_)), Or.elim hk_ (fun hs_ => Or.elim hs_ (fun hs_ => hs_.2) (fun hs_ => hs_.2.2.2.2.2.1)) (fun hn_ => (Kd.fresh' (Kd.N_lt (gN HO413)) k_ hn_)), Or.elim hk_ (fun hs_ => Or.elim hs_ (fun hs_ => hs_.1.1.1.2.2.1) (fun hs_ => hs_.2.2.2.2.2.2.1)) (fun hn_ => (Kd.freshB (g := gb382) (o := .cells #[.int .i64 a2_0, .int .i64 a2_1, .slice A2_2 l2_2.length c2_2] 39 (0, 0)) (gK BK382) k_ hn_)), Or.elim hk_ (fun hs_ => Or.elim hs_ (fun hs_ => hs_.1.1.1.2.2.2) (fun hs_ => hs_.2.2.2.2.2.2.2)) (fun hn_ => (Kd.freshB (g := gb395) (o := .cells #[.int .i64 t390, .int .i64 t391, .slice Ao38 t392.length co38] 39 (0, 0)) (gK BK395) k_ hn_))⟩)) (q7 (by repeat (first | (with_reducible first | exact HB.out | apply q3 | apply q4 | apply q5 | refine q6 ?_ GE382.out | refine q6 ?_ GE395.out) | exact HB.out)))); have n9_ := q13 (q8 (g := gb382) (o := .cells #[.int .i64 a2_0, .int .i64 a2_1, .slice A2_2 l2_2.length c2_2] 39 (0, 0)) (gK BK382) hb); have n10_ := q13 (q8 (g := gb395) (o := .cells #[.int .i64 t390, .int .i64 t391, .slice Ao38 t392.length co38] 39 (0, 0)) (gK BK395) hb); have n11_ := q13 (q12 (by repeat (first | (with_reducible first | exact HB.out | apply q3 | apply q4 | apply q5 | refine q6 ?_ GE382.out | refine q6 ?_ GE395.out) | exact HB.out)) hb); clear HO386; clear HO389; clear HO394; clear HO400; clear HO405; clear HO409; clear HO413; clear HO419; clear BK382; clear BK395; clear HB; have HO386 := n0_; have HO389 := n1_; have HO394 := n2_; have HO400 := n3_; have HO405 := n4_; have HO409 := n5_; have HO413 := n6_; have HO419 := n7_; have HO422 := n8_; have BK382 := n9_; have BK395 := n10_; have HB := n11_; clear n0_ n1_ n2_ n3_ n4_ n5_ n6_ n7_ n8_ n9_ n10_ n11_; (try clear hb); (try clear hb2); (try clear hk); (try clear hi); (try clear ho0); obtain ⟨Ao54, co54, eo54⟩ := Kd.N_slice HO409.out; subst eo54) | (go_at_call 12; (with_reducible refine (frisketref36_SameMarks.calls kj3 _ _ t407 _ _ t387 true _ ?side1 ?side2 ?side3 ?side4 A24.out).mono ?_); (case side1 => repeat (first | exact (Kd.N_reads' HO409.out).2.2 | (with_reducible refine q18 ?_ _) | (with_reducible refine q19 ?_ _) | (with_reducible refine q20 ?_))); (case side2 => exact (Kd.N_reads' HO409.out).2.1); (case side3 => repeat (first | exact (Kd.N_reads' HO389.out).2.2 | (with_reducible refine q18 ?_ _) | (with_reducible refine q19 ?_ _) | (with_reducible refine q20 ?_))); (case side4 => exact (Kd.N_reads' HO389.out).2.1); rintro e w55 ⟨rfl, hb⟩; have n0_ := q13 (Kd.N_below (gN HO386) hb); have n1_ := q13 (Kd.N_below (gN HO389) hb); have n2_ := q13 (Kd.N_below (gN HO394) hb); have n3_ := q13 (Kd.V_below (gV HO400) hb); have n4_ := q13 (Kd.N_below (gN HO405) hb); have n5_ := q13 (Kd.N_below (gN HO409) hb); have n6_ := q13 (Kd.N_below (gN HO413) hb); have n7_ := q13 (Kd.V_below (gV HO419) hb); have n8_ := q13 (Kd.N_below (gN HO422) hb); have n9_ := q13 (q8 (g := gb382) (o := .cells #[.int .i64 a2_0, .int .i64 a2_1, .slice A2_2 l2_2.length c2_2] 39 (0, 0)) (gK BK382) hb); have n10_ := q13 (q8 (g := gb395) (o := .cells #[.int .i64 t390, .int .i64 t391, .slice Ao38 t392.length co38] 39 (0, 0)) (gK BK395) hb); have n11_ := q13 (q12 (by repeat (first | (with_reducible first | exact HB.out | apply q3 | apply q4 | apply q5 | refine q6 ?_ GE382.out | refine q6 ?_ GE395.out) | exact HB.out)) hb); clear HO386; clear HO389; clear HO394; clear HO400; clear HO405; clear HO409; clear HO413; clear HO419; clear HO422; clear BK382; clear BK395; clear HB; have HO386 := n0_; have HO389 := n1_; have HO394 := n2_; have HO400 := n3_; have HO405 := n4_; have HO409 := n5_; have HO413 := n6_; have HO419 := n7_; have HO422 := n8_; have BK382 := n9_; have BK395 := n10_; have HB := n11_; clear n0_ n1_ n2_ n3_ n4_ n5_ n6_ n7_ n8_ n9_ n10_ n11_; (try clear hb); (try clear hb2); (try clear hk); (try clear hi); obtain ⟨Ao56, co56, eo56⟩ := Kd.N_slice HO413.out; subst eo56; obtain ⟨Ao57, co57, eo57⟩ := Kd.N_slice HO422.out; subst eo57) | (go_at_call 12; (with_reducible refine (frisketref36_SameMarks.calls kj3 _ _ t411 _ _ t420 true _ ?side1 ?side2 ?side3 ?side4 A27.out).mono ?_); (case side1 => repeat (first | exact (Kd.N_reads' HO413.out).2.2 | (with_reducible refine q18 ?_ _) | (with_reducible refine q19 ?_ _) | (with_reducible refine q20 ?_))); (case side2 => exact (Kd.N_reads' HO413.out).2.1); (case side3 => repeat (first | exact (Kd.N_reads' HO422.out).2.2 | (with_reducible refine q18 ?_ _) | (with_reducible refine q19 ?_ _) | (with_reducible refine q20 ?_))); (case side4 => exact (Kd.N_reads' HO422.out).2.1); rintro e w58 ⟨rfl, hb⟩; have n0_ := q13 (Kd.N_below (gN HO386) hb); have n1_ := q13 (Kd.N_below (gN HO389) hb); have n2_ := q13 (Kd.N_below (gN HO394) hb); have n3_ := q13 (Kd.V_below (gV HO400) hb); have n4_ := q13 (Kd.N_below (gN HO405) hb); have n5_ := q13 (Kd.N_below (gN HO409) hb); have n6_ := q13 (Kd.N_below (gN HO413) hb); have n7_ := q13 (Kd.V_below (gV HO419) hb); have n8_ := q13 (Kd.N_below (gN HO422) hb); have n9_ := q13 (q8 (g := gb382) (o := .cells #[.int .i64 a2_0, .int .i64 a2_1, .slice A2_2 l2_2.length c2_2] 39 (0, 0)) (gK BK382) hb); have n10_ := q13 (q8 (g := gb395) (o := .cells #[.int .i64 t390, .int .i64 t391, .slice Ao38 t392.length co38] 39 (0, 0)) (gK BK395) hb); have n11_ := q13 (q12 (by repeat (first | (with_reducible first | exact HB.out | apply q3 | apply q4 | apply q5 | refine q6 ?_ GE382.out | refine q6 ?_ GE395.out) | exact HB.out)) hb); clear HO386; clear HO389; clear HO394; clear HO400; clear HO405; clear HO409; clear HO413; clear HO419; clear HO422; clear BK382; clear BK395; clear HB; have HO386 := n0_; have HO389 := n1_; have HO394 := n2_; have HO400 := n3_; have HO405 := n4_; have HO409 := n5_; have HO413 := n6_; have HO419 := n7_; have HO422 := n8_; have BK382 := n9_; have BK395 := n10_; have HB := n11_; clear n0_ n1_ n2_ n3_ n4_ n5_ n6_ n7_ n8_ n9_ n10_ n11_; (try clear hb); (try clear hb2); (try clear hk); (try clear hi)) | (go_at_call 7; (with_reducible refine (frisketlaw36_sane.calls kj3  t426 _ A29.out).mono ?_); rintro e w59 ⟨rfl, hb⟩; have n0_ := q13 (Kd.N_below (gN HO386) hb); have n1_ := q13 (Kd.N_below (gN HO389) hb); have n2_ := q13 (Kd.N_below (gN HO394) hb); have n3_ := q13 (Kd.V_below (gV HO400) hb); have n4_ := q13 (Kd.N_below (gN HO405) hb); have n5_ := q13 (Kd.N_below (gN HO409) hb); have n6_ := q13 (Kd.N_below (gN HO413) hb); have n7_ := q13 (Kd.V_below (gV HO419) hb); have n8_ := q13 (Kd.N_below (gN HO422) hb); have n9_ := q13 (q8 (g := gb382) (o := .cells #[.int .i64 a2_0, .int .i64 a2_1, .slice A2_2 l2_2.length c2_2] 39 (0, 0)) (gK BK382) hb); have n10_ := q13 (q8 (g := gb395) (o := .cells #[.int .i64 t390, .int .i64 t391, .slice Ao38 t392.length co38] 39 (0, 0)) (gK BK395) hb); have n11_ := q13 (q12 (by repeat (first | (with_reducible first | exact HB.out | apply q3 | apply q4 | apply q5 | refine q6 ?_ GE382.out | refine q6 ?_ GE395.out) | exact HB.out)) hb); clear HO386; clear HO389; clear HO394; clear HO400; clear HO405; clear HO409; clear HO413; clear HO419; clear HO422; clear BK382; clear BK395; clear HB; have HO386 := n0_; have HO389 := n1_; have HO394 := n2_; have HO400 := n3_; have HO405 := n4_; have HO409 := n5_; have HO413 := n6_; have HO419 := n7_; have HO422 := n8_; have BK382 := n9_; have BK395 := n10_; have HB := n11_; clear n0_ n1_ n2_ n3_ n4_ n5_ n6_ n7_ n8_ n9_ n10_ n11_; (try clear hb); (try clear hb2); (try clear hk); (try clear hi)))
         go_ret
         exact ⟨by first | rfl | (simp [errW_none, errW_some] <;> rfl) | (simp [*, errW_none, errW_some] <;> rfl), by repeat (first | (with_reducible first | exact HB.out | apply q3 | apply q4 | apply q5 | refine q6 ?_ GE382.out | refine q6 ?_ GE395.out) | exact HB.out)⟩
        ·replace c28 := Bool.eq_false_iff.mpr c28
         subst c28
         have H1 : (none) = some r := by rw [if_neg (show ¬ (false = true) by decide)] at H; exact H
         clear H
         have H := H1
         clear H1
         exact absurd H (by simp)
       ·rw [if_neg c26] at H
        exact absurd H (by simp)
      ·replace c25 := Bool.eq_false_iff.mpr c25
       subst c25
       have H1 : (none) = some r := by rw [if_neg (show ¬ (false = true) by decide)] at H; exact H
       clear H
       have H := H1
       clear H1
       exact absurd H (by simp)
     ·rw [if_neg c23] at H
      exact absurd H (by simp)
    ·replace c18 := Bool.eq_false_iff.mpr c18
     subst c18
     have H1 : (none) = some r := by rw [if_neg (show ¬ (false = true) by decide)] at H; exact H
     clear H
     have H := H1
     clear H1
     exact absurd H (by simp)

end Go.Proofs.Ytgjmljjnminefaa.QCP
