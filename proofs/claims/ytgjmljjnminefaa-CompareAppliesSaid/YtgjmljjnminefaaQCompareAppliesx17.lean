import Derived.Lib.SliceRun
import Derived.Test.YtgjmljjnminefaaQCompareAppliesx0
import Derived.Test.YtgjmljjnminefaaQCompareAppliesx8
import Derived.Test.YtgjmljjnminefaaQCompareAppliesx11
import Derived.Test.YtgjmljjnminefaaQCompareAppliesx13
import Derived.Test.YtgjmljjnminefaaQCompareAppliesx14
import Derived.Test.YtgjmljjnminefaaQCompareAppliesx16
import Derived.Test.YtgjmljjnminefaaArrEq
import Derived.Test.YtgjmljjnminefaaZip2
import Derived.Test.YtgjmljjnminefaaZip
namespace Go.Proofs.Ytgjmljjnminefaa.QCompareApplies
open Go.Proofs.Ytgjmljjnminefaa.Zip Go.Proofs.Ytgjmljjnminefaa.Zip2 Go.RowKit Go.Proofs.YtgjmljjnminefaaW.PrintWords Go.Proofs.YtgjmljjnminefaaW.PrintLast Go.Proofs.YtgjmljjnminefaaW.PrintMore
attribute [local go_sem] max2_int min2_int max_two min_two max_three min_three max_four min_four   -- for this text's walks alone
set_option linter.unusedVariables false
set_option linter.unusedSimpArgs false

def frisketref36_Cost.l0 : Nat → List (S84) → Int → Int → Option (Int)
 | 0, _, _, _ => none
 | k + 1, x0, x3, x4 => if x4 < (x0.length : Int) then (if 0 ≤ x4 then (if ((rd_T84 x0 x4).f0) = 0 then (frisketref36_Cost.l0 k x0 x3 (wrap64 (x4 + 1))) else (frisketref36_Cost.l0 k x0 (wrap64 (x3 + 1)) (wrap64 (x4 + 1)))) else (none)) else (some x3)
def frisketref36_Cost.f (k : Nat) (l0 : List (S84)) : Option (Int) := frisketref36_Cost.l0 k l0 0 0
theorem frisketref36_Cost.mono_l : ∀ k, (∀ y0 y1 y2, LeO (frisketref36_Cost.l0 k y0 y1 y2) (frisketref36_Cost.l0 (k + 1) y0 y1 y2))
 | 0 => fun _ _ _ r h => by simp [frisketref36_Cost.l0] at h
 | k + 1 => by
  have ih0 := frisketref36_Cost.mono_l k
  ·intro y0 y1 y2
   unfold frisketref36_Cost.l0
   repeat' first
   | (with_reducible exact ih0 _ _ _)
   | (with_reducible exact LeO.refl _)
   | (with_reducible exact LeO.none _)
   | (with_reducible refine LeO.ite ?_ ?_)
   | (with_reducible refine LeO.bind ?_ (fun _ => ?_))
   | exact ih0 _ _ _
   | exact LeO.none _
   | refine LeO.ite ?_ ?_
   | refine LeO.bind ?_ (fun _ => ?_)
theorem frisketref36_Cost.mono : ∀ a0 k, LeO (frisketref36_Cost.f k a0) (frisketref36_Cost.f (k + 1) a0) := by
 intro a0 k
 have ih0 := frisketref36_Cost.mono_l k
 unfold frisketref36_Cost.f
 repeat' first
   | (with_reducible exact ih0 _ _ _)
   | (with_reducible exact LeO.refl _)
   | (with_reducible exact LeO.none _)
   | (with_reducible refine LeO.ite ?_ ?_)
   | (with_reducible refine LeO.bind ?_ (fun _ => ?_))
   | exact ih0 _ _ _
   | exact LeO.none _
   | refine LeO.ite ?_ ?_
   | refine LeO.bind ?_ (fun _ => ?_)
set_option maxHeartbeats 8000000 in
set_option maxRecDepth 100000 in
theorem frisketref36_Cost.calls (k : Nat) (A0 : Option Addr) (c0 : Nat) (l0 : List (S84)) (r : Int) (w : World) (hr0 : Kd.C k84 w A0 l0.length l0) (hc0 : l0.length ≤ c0) (h : frisketref36_Cost.f k l0 = some r) :
  Calls Try.prog 28 #[.slice A0 l0.length c0] w fun e w' => e = .returned (.int .i64 r) ∧ Drawn0 w w' := by
 have HR0 := q13 hr0
 have HC0 := q13 hc0
 clear hr0 hc0
 have H : (frisketref36_Cost.l0 k l0 0 0) = some r := h
 clear h
 have H' := q13 H
 clear H
 go_enter Try.func28, Try.ntmps28
 go_wp2
 go_loopg [3, 4] k (fun kq v3 v4 w' => ∃ (x3_1 : Int) (x4_1 : Int), v3 = .int .i64 x3_1 ∧ v4 = .int .i64 x4_1 ∧ Aside0 (frisketref36_Cost.l0 kq l0 x3_1 x4_1 = some r) ∧ Aside0 (kq ≤ k) ∧ Drawn0 w w')
 case atStart => exact ⟨(0), (0), (by first | rfl | (simp; done) | (simp [*]; done)), (by first | rfl | (simp; done) | (simp [*]; done)), H', ⟨q17 _⟩, by repeat (first | exact Drawn0.refl _ | apply Drawn0.step)⟩
 case round =>
  clear H'
  obtain ⟨x3_1, x4_1, rfl, rfl, HA, HK1, ⟨m1, rfl⟩⟩ := hrel
  cases gk with
  | zero => exact absurd HA.out (by simp [frisketref36_Cost.l0])
  | succ k1 =>
   have H := HA.out
   clear HA
   simp only [frisketref36_Cost.l0] at H
   by_cases c2 : x4_1 < (l0.length : Int)
   ·rw [if_pos c2] at H
    have c2b0 : decide (x4_1 < (l0.length : Int)) = true := decide_eq_true c2
    clear c2
    by_cases c3 : 0 ≤ x4_1
    ·rw [if_pos c3] at H
     have c3b0 : decide (0 ≤ x4_1) = true := decide_eq_true c3
     clear c3
     by_cases c4 : ((rd_T84 l0 x4_1).f0) = 0
     ·rw [if_pos c4] at H
      have c4b0 : (((rd_T84 l0 x4_1).f0) == 0) = true := beq_iff_eq.mpr c4
      have c4b1 : (((rd_T84 l0 x4_1).f0) != 0) = false := bne_eq_false_iff_eq.mpr c4
      clear c4
      have H' := q13 H
      clear H
      have p354 : 0 ≤ (x4_1 : Int) := q15 (by assumption)
      have q354 : x4_1 < (l0.length : Int) := q15 (by assumption)
      obtain ⟨ad354, e354, hx354_0, hx354_1, hx354_2⟩ := at_T84 HR0.out x4_1 p354 q354
      cases e354
      replace p354 := eq_true p354
      replace q354 := eq_true q354
      go_wp2
      go_roundg k1
      case measure => have := HK1.out; omega
      case rel => exact ⟨(x3_1), (wrap64 (x4_1 + 1)), (by first | rfl | (simp; done) | (simp [*]; done)), (by first | rfl | (simp; done) | (simp [*]; done)), H', ⟨by have := HK1.out; omega⟩, by repeat (first | exact Drawn0.refl _ | apply Drawn0.step)⟩
     ·rw [if_neg c4] at H
      have c4b0 : (((rd_T84 l0 x4_1).f0) == 0) = false := beq_eq_false_iff_ne.mpr c4
      have c4b1 : (((rd_T84 l0 x4_1).f0) != 0) = true := bne_iff_ne.mpr c4
      have H' := q13 H
      clear H
      have p354 : 0 ≤ (x4_1 : Int) := q15 (by assumption)
      have q354 : x4_1 < (l0.length : Int) := q15 (by assumption)
      obtain ⟨ad354, e354, hx354_0, hx354_1, hx354_2⟩ := at_T84 HR0.out x4_1 p354 q354
      cases e354
      replace p354 := eq_true p354
      replace q354 := eq_true q354
      go_wp2
      go_roundg k1
      case measure => have := HK1.out; omega
      case rel => exact ⟨(wrap64 (x3_1 + 1)), (wrap64 (x4_1 + 1)), (by first | rfl | (simp; done) | (simp [*]; done)), (by first | rfl | (simp; done) | (simp [*]; done)), H', ⟨by have := HK1.out; omega⟩, by repeat (first | exact Drawn0.refl _ | apply Drawn0.step)⟩
    ·rw [if_neg c3] at H
     exact absurd H (by simp)
   ·rw [if_neg c2] at H
    have c2b0 : decide (x4_1 < (l0.length : Int)) = false := decide_eq_false c2
    clear c2
    obtain rfl := Option.some.inj H
    go_wp2
    go_ret
    exact ⟨by first | rfl | (simp; done) | (simp [*]; done), by repeat (first | exact Drawn0.refl _ | apply Drawn0.step)⟩

def frisketlaw36_CompareApplies.j0 : Nat → List Int → List (S54) → List Int → Bool → Option (Bool)
 | 0, _, _, _, _ => none
 | k + 1, x0, x1, x2, x25 => if x25 = true then ((frisketlaw36_sane.f k).bind fun t355 => (some t355)) else ((frisketlaw36_numbered.f k x0).bind fun t356 => ((frisketlaw36_numbered.f k x2).bind fun t359 => ((compare_Apply.f k t356 x1 t359).bind fun bt362 => ((frisketlaw36_as.f k t356).bind fun t366 => ((frisketlaw36_edits.f k x1).bind fun t369 => ((frisketlaw36_as.f k t359).bind fun t372 => ((frisketref36_Apply.f k t366 t369 t372).bind fun bt375 => (if bt362.2 = bt375.2 then ((frisketlaw36_as.f k bt362.1).bind fun t379 => ((frisketref36_SamePages.f k t379 bt375.1).bind fun t382 => (if t382 = true then ((compare_Cost.f k x1).bind fun t383 => ((frisketlaw36_edits.f k x1).bind fun t384 => ((frisketref36_Cost.f k t384).bind fun t387 => (if t383 = t387 then ((frisketlaw36_sane.f k).bind fun t388 => (some t388)) else (none))))) else (none)))) else (none)))))))))
def frisketlaw36_CompareApplies.f (k : Nat) (l0 : List Int) (l1 : List (S54)) (l2 : List Int) : Option (Bool) := if (l0.length : Int) > 60 then (frisketlaw36_CompareApplies.j0 k l0 l1 l2 true) else (if (l2.length : Int) > 60 then (frisketlaw36_CompareApplies.j0 k l0 l1 l2 true) else (frisketlaw36_CompareApplies.j0 k l0 l1 l2 (decide ((l1.length : Int) > 200))))
theorem frisketlaw36_CompareApplies.mono_l : ∀ k, (∀ y0 y1 y2 y3, LeO (frisketlaw36_CompareApplies.j0 k y0 y1 y2 y3) (frisketlaw36_CompareApplies.j0 (k + 1) y0 y1 y2 y3))
 | 0 => fun _ _ _ _ r h => by simp [frisketlaw36_CompareApplies.j0] at h
 | k + 1 => by
  have ih0 := frisketlaw36_CompareApplies.mono_l k
  ·intro y0 y1 y2 y3
   unfold frisketlaw36_CompareApplies.j0
   repeat' first
   | (with_reducible exact ih0 _ _ _ _)
   | (with_reducible exact compare_Apply.mono _ _ _ _)
   | (with_reducible exact compare_Cost.mono _ _)
   | (with_reducible exact frisketlaw36_as.mono _ _)
   | (with_reducible exact frisketlaw36_edits.mono _ _)
   | (with_reducible exact frisketlaw36_numbered.mono _ _)
   | (with_reducible exact frisketlaw36_sane.mono _)
   | (with_reducible exact frisketref36_Apply.mono _ _ _ _)
   | (with_reducible exact frisketref36_Cost.mono _ _)
   | (with_reducible exact frisketref36_SamePages.mono _ _ _)
   | (with_reducible exact LeO.refl _)
   | (with_reducible exact LeO.none _)
   | (with_reducible refine LeO.ite ?_ ?_)
   | (with_reducible refine LeO.bind ?_ (fun _ => ?_))
   | exact ih0 _ _ _ _
   | exact compare_Apply.mono _ _ _ _
   | exact compare_Cost.mono _ _
   | exact frisketlaw36_as.mono _ _
   | exact frisketlaw36_edits.mono _ _
   | exact frisketlaw36_numbered.mono _ _
   | exact frisketlaw36_sane.mono _
   | exact frisketref36_Apply.mono _ _ _ _
   | exact frisketref36_Cost.mono _ _
   | exact frisketref36_SamePages.mono _ _ _
   | exact LeO.none _
   | refine LeO.ite ?_ ?_
   | refine LeO.bind ?_ (fun _ => ?_)
theorem frisketlaw36_CompareApplies.mono : ∀ a0 a1 a2 k, LeO (frisketlaw36_CompareApplies.f k a0 a1 a2) (frisketlaw36_CompareApplies.f (k + 1) a0 a1 a2) := by
 intro a0 a1 a2 k
 have ih0 := frisketlaw36_CompareApplies.mono_l k
 unfold frisketlaw36_CompareApplies.f
 repeat' first
   | (with_reducible exact ih0 _ _ _ _)
   | (with_reducible exact compare_Apply.mono _ _ _ _)
   | (with_reducible exact compare_Cost.mono _ _)
   | (with_reducible exact frisketlaw36_as.mono _ _)
   | (with_reducible exact frisketlaw36_edits.mono _ _)
   | (with_reducible exact frisketlaw36_numbered.mono _ _)
   | (with_reducible exact frisketlaw36_sane.mono _)
   | (with_reducible exact frisketref36_Apply.mono _ _ _ _)
   | (with_reducible exact frisketref36_Cost.mono _ _)
   | (with_reducible exact frisketref36_SamePages.mono _ _ _)
   | (with_reducible exact LeO.refl _)
   | (with_reducible exact LeO.none _)
   | (with_reducible refine LeO.ite ?_ ?_)
   | (with_reducible refine LeO.bind ?_ (fun _ => ?_))
   | exact ih0 _ _ _ _
   | exact compare_Apply.mono _ _ _ _
   | exact compare_Cost.mono _ _
   | exact frisketlaw36_as.mono _ _
   | exact frisketlaw36_edits.mono _ _
   | exact frisketlaw36_numbered.mono _ _
   | exact frisketlaw36_sane.mono _
   | exact frisketref36_Apply.mono _ _ _ _
   | exact frisketref36_Cost.mono _ _
   | exact frisketref36_SamePages.mono _ _ _
   | exact LeO.none _
   | refine LeO.ite ?_ ?_
   | refine LeO.bind ?_ (fun _ => ?_)
set_option maxHeartbeats 8000000 in
set_option maxRecDepth 100000 in
theorem frisketlaw36_CompareApplies.calls (k : Nat) (A0 : Option Addr) (c0 : Nat) (l0 : List Int) (A1 : Option Addr) (c1 : Nat) (l1 : List (S54)) (A2 : Option Addr) (c2 : Nat) (l2 : List Int) (r : Bool) (w : World) (hr0 : Kd.C (Kd.int .u8) w A0 l0.length l0) (hc0 : l0.length ≤ c0) (hr1 : Kd.C k54 w A1 l1.length l1) (hc1 : l1.length ≤ c1) (hr2 : Kd.C (Kd.int .u8) w A2 l2.length l2) (hc2 : l2.length ≤ c2) (h : frisketlaw36_CompareApplies.f k l0 l1 l2 = some r) :
  Calls Try.prog 6 #[.slice A0 l0.length c0, .slice A1 l1.length c1, .slice A2 l2.length c2] w fun e w' => e = .returned (.bool r) ∧ Below w.heap.size w w' := by
 have HR0 := q13 hr0
 have HC0 := q13 hc0
 clear hr0 hc0
 have HR1 := q13 hr1
 have HC1 := q13 hc1
 clear hr1 hc1
 have HR2 := q13 hr2
 have HC2 := q13 hc2
 clear hr2 hc2
 have HB := q13 (Below.refl w.heap.size w)
 have H : (if (l0.length : Int) > 60 then (frisketlaw36_CompareApplies.j0 k l0 l1 l2 true) else (if (l2.length : Int) > 60 then (frisketlaw36_CompareApplies.j0 k l0 l1 l2 true) else (frisketlaw36_CompareApplies.j0 k l0 l1 l2 (decide ((l1.length : Int) > 200))))) = some r := h
 clear h
 have HC4 := q13 H
 clear H
 go_enter Try.func6, Try.ntmps6
 go_upto_region 1 with (fail)
 go_cut [25] (fun v25 wc => ∃ (kq : Nat) (x25_3 : Bool), v25 = .bool x25_3 ∧ Aside0 (frisketlaw36_CompareApplies.j0 kq l0 l1 l2 x25_3 = some r) ∧ Aside0 (kq ≤ k) ∧ Aside0 (Below w.heap.size w wc))
 case first =>
  have H := HC4.out
  clear HC4
  by_cases c5 : (l0.length : Int) > 60
  ·rw [if_pos c5] at H
   have c5b0 : decide (60 < (l0.length : Int)) = true := decide_eq_true c5
   have c5b1 : decide (60 < l0.length) = true := decide_eq_true (by omega)
   clear c5
   (first | rw [c5b0] | (simp only [i64_w, i32_w]; rw [c5b0]) | skip)
   have H' := q13 H
   clear H
   go_wp2
   go_meet
   case rel => exact ⟨_, (true), (by first | rfl | (simp; done) | (simp [*]; done)), H', ⟨by first | omega | exact q17 _⟩, ⟨gB HB⟩⟩
  ·rw [if_neg c5] at H
   have c5b0 : decide (60 < (l0.length : Int)) = false := decide_eq_false c5
   have c5b1 : decide (60 < l0.length) = false := decide_eq_false (by omega)
   clear c5
   (first | rw [c5b0] | (simp only [i64_w, i32_w]; rw [c5b0]) | skip)
   by_cases c6 : (l2.length : Int) > 60
   ·rw [if_pos c6] at H
    have c6b0 : decide (60 < (l2.length : Int)) = true := decide_eq_true c6
    have c6b1 : decide (60 < l2.length) = true := decide_eq_true (by omega)
    clear c6
    have H' := q13 H
    clear H
    go_wp2
    go_meet
    case rel => exact ⟨_, (true), (by first | rfl | (simp; done) | (simp [*]; done)), H', ⟨by first | omega | exact q17 _⟩, ⟨gB HB⟩⟩
   ·rw [if_neg c6] at H
    have c6b0 : decide (60 < (l2.length : Int)) = false := decide_eq_false c6
    have c6b1 : decide (60 < l2.length) = false := decide_eq_false (by omega)
    clear c6
    have H' := q13 H
    clear H
    go_wp2
    go_meet
    case rel => exact ⟨_, (decide ((l1.length : Int) > 200)), (by first | rfl | (simp; done) | (simp [*]; done)), H', ⟨by first | omega | exact q17 _⟩, ⟨gB HB⟩⟩
 case rest =>
  clear HC4
  try clear c1
  try clear c2
  try clear p2
  try clear c5
  try clear c5b0
  try clear c5b1
  try clear c6
  try clear c6b0
  try clear c6b1
  obtain ⟨kq, x25_3, rfl, HA, HJ3, HB⟩ := hcut
  cases kq with
  | zero => exact absurd HA.out (by simp [frisketlaw36_CompareApplies.j0])
  | succ kj3 =>
   have H := HA.out
   clear HA
   simp only [frisketlaw36_CompareApplies.j0] at H
   by_cases c7 : x25_3 = true
   ·subst c7
    have H1 : ((frisketlaw36_sane.f kj3).bind fun t355 => (some t355)) = some r := by rw [if_pos rfl] at H; exact H
    clear H
    have H := H1
    clear H1
    replace H := Option.bind_eq_some_iff.mp H
    obtain ⟨t355, A80, H⟩ := H
    replace H : (some t355) = some r := H
    have A8 := q13 A80
    clear A80
    obtain rfl := Option.some.inj H
    go_wp2_with (first | ((with_reducible refine gate_callee (f := 7) rfl ?_); refine goesL_ (some 26) rfl rfl Try.func7 (by kernel_rfl) rfl #[] rfl (by (try simp only [List.map_toArray, List.map_cons, List.map_nil]); first | done | rfl | (simp only [List.length_drop, List.length_take]; rfl)) ?_; (with_reducible refine (frisketlaw36_sane.calls kj3  t355 _ A8.out).mono ?_); rintro e w9 ⟨rfl, hb⟩; refine ⟨_, rfl, ?_⟩; have n0_ := q13 (q12 (gB HB) hb); clear HB; have HB := n0_; clear n0_; (try clear hb); (try clear hb2); (try clear hk); (try clear hi)))
    go_ret
    exact ⟨by first | rfl | (simp [errW_none, errW_some] <;> rfl) | (simp [*, errW_none, errW_some] <;> rfl), gB HB⟩
   ·replace c7 := Bool.eq_false_iff.mpr c7
    subst c7
    have H1 : ((frisketlaw36_numbered.f kj3 l0).bind fun t356 => ((frisketlaw36_numbered.f kj3 l2).bind fun t359 => ((compare_Apply.f kj3 t356 l1 t359).bind fun bt362 => ((frisketlaw36_as.f kj3 t356).bind fun t366 => ((frisketlaw36_edits.f kj3 l1).bind fun t369 => ((frisketlaw36_as.f kj3 t359).bind fun t372 => ((frisketref36_Apply.f kj3 t366 t369 t372).bind fun bt375 => (if bt362.2 = bt375.2 then ((frisketlaw36_as.f kj3 bt362.1).bind fun t379 => ((frisketref36_SamePages.f kj3 t379 bt375.1).bind fun t382 => (if t382 = true then ((compare_Cost.f kj3 l1).bind fun t383 => ((frisketlaw36_edits.f kj3 l1).bind fun t384 => ((frisketref36_Cost.f kj3 t384).bind fun t387 => (if t383 = t387 then ((frisketlaw36_sane.f kj3).bind fun t388 => (some t388)) else (none))))) else (none)))) else (none))))))))) = some r := by rw [if_neg (show ¬ (false = true) by decide)] at H; exact H
    clear H
    have H := H1
    clear H1
    replace H := Option.bind_eq_some_iff.mp H
    obtain ⟨t356, A100, H⟩ := H
    replace H : ((frisketlaw36_numbered.f kj3 l2).bind fun t359 => ((compare_Apply.f kj3 t356 l1 t359).bind fun bt362 => ((frisketlaw36_as.f kj3 t356).bind fun t366 => ((frisketlaw36_edits.f kj3 l1).bind fun t369 => ((frisketlaw36_as.f kj3 t359).bind fun t372 => ((frisketref36_Apply.f kj3 t366 t369 t372).bind fun bt375 => (if bt362.2 = bt375.2 then ((frisketlaw36_as.f kj3 bt362.1).bind fun t379 => ((frisketref36_SamePages.f kj3 t379 bt375.1).bind fun t382 => (if t382 = true then ((compare_Cost.f kj3 l1).bind fun t383 => ((frisketlaw36_edits.f kj3 l1).bind fun t384 => ((frisketref36_Cost.f kj3 t384).bind fun t387 => (if t383 = t387 then ((frisketlaw36_sane.f kj3).bind fun t388 => (some t388)) else (none))))) else (none)))) else (none)))))))) = some r := H
    have A10 := q13 A100
    clear A100
    replace H := Option.bind_eq_some_iff.mp H
    obtain ⟨t359, A110, H⟩ := H
    replace H : ((compare_Apply.f kj3 t356 l1 t359).bind fun bt362 => ((frisketlaw36_as.f kj3 t356).bind fun t366 => ((frisketlaw36_edits.f kj3 l1).bind fun t369 => ((frisketlaw36_as.f kj3 t359).bind fun t372 => ((frisketref36_Apply.f kj3 t366 t369 t372).bind fun bt375 => (if bt362.2 = bt375.2 then ((frisketlaw36_as.f kj3 bt362.1).bind fun t379 => ((frisketref36_SamePages.f kj3 t379 bt375.1).bind fun t382 => (if t382 = true then ((compare_Cost.f kj3 l1).bind fun t383 => ((frisketlaw36_edits.f kj3 l1).bind fun t384 => ((frisketref36_Cost.f kj3 t384).bind fun t387 => (if t383 = t387 then ((frisketlaw36_sane.f kj3).bind fun t388 => (some t388)) else (none))))) else (none)))) else (none))))))) = some r := H
    have A11 := q13 A110
    clear A110
    replace H := Option.bind_eq_some_iff.mp H
    obtain ⟨⟨t362, t365⟩, A120, H⟩ := H
    replace H : ((frisketlaw36_as.f kj3 t356).bind fun t366 => ((frisketlaw36_edits.f kj3 l1).bind fun t369 => ((frisketlaw36_as.f kj3 t359).bind fun t372 => ((frisketref36_Apply.f kj3 t366 t369 t372).bind fun bt375 => (if t365 = bt375.2 then ((frisketlaw36_as.f kj3 t362).bind fun t379 => ((frisketref36_SamePages.f kj3 t379 bt375.1).bind fun t382 => (if t382 = true then ((compare_Cost.f kj3 l1).bind fun t383 => ((frisketlaw36_edits.f kj3 l1).bind fun t384 => ((frisketref36_Cost.f kj3 t384).bind fun t387 => (if t383 = t387 then ((frisketlaw36_sane.f kj3).bind fun t388 => (some t388)) else (none))))) else (none)))) else (none)))))) = some r := H
    have A12 := q13 A120
    clear A120
    replace H := Option.bind_eq_some_iff.mp H
    obtain ⟨t366, A130, H⟩ := H
    replace H : ((frisketlaw36_edits.f kj3 l1).bind fun t369 => ((frisketlaw36_as.f kj3 t359).bind fun t372 => ((frisketref36_Apply.f kj3 t366 t369 t372).bind fun bt375 => (if t365 = bt375.2 then ((frisketlaw36_as.f kj3 t362).bind fun t379 => ((frisketref36_SamePages.f kj3 t379 bt375.1).bind fun t382 => (if t382 = true then ((compare_Cost.f kj3 l1).bind fun t383 => ((frisketlaw36_edits.f kj3 l1).bind fun t384 => ((frisketref36_Cost.f kj3 t384).bind fun t387 => (if t383 = t387 then ((frisketlaw36_sane.f kj3).bind fun t388 => (some t388)) else (none))))) else (none)))) else (none))))) = some r := H
    have A13 := q13 A130
    clear A130
    replace H := Option.bind_eq_some_iff.mp H
    obtain ⟨t369, A140, H⟩ := H
    replace H : ((frisketlaw36_as.f kj3 t359).bind fun t372 => ((frisketref36_Apply.f kj3 t366 t369 t372).bind fun bt375 => (if t365 = bt375.2 then ((frisketlaw36_as.f kj3 t362).bind fun t379 => ((frisketref36_SamePages.f kj3 t379 bt375.1).bind fun t382 => (if t382 = true then ((compare_Cost.f kj3 l1).bind fun t383 => ((frisketlaw36_edits.f kj3 l1).bind fun t384 => ((frisketref36_Cost.f kj3 t384).bind fun t387 => (if t383 = t387 then ((frisketlaw36_sane.f kj3).bind fun t388 => (some t388)) else (none))))) else (none)))) else (none)))) = some r := H
    have A14 := q13 A140
    clear A140
    replace H := Option.bind_eq_some_iff.mp H
    obtain ⟨t372, A150, H⟩ := H
    replace H : ((frisketref36_Apply.f kj3 t366 t369 t372).bind fun bt375 => (if t365 = bt375.2 then ((frisketlaw36_as.f kj3 t362).bind fun t379 => ((frisketref36_SamePages.f kj3 t379 bt375.1).bind fun t382 => (if t382 = true then ((compare_Cost.f kj3 l1).bind fun t383 => ((frisketlaw36_edits.f kj3 l1).bind fun t384 => ((frisketref36_Cost.f kj3 t384).bind fun t387 => (if t383 = t387 then ((frisketlaw36_sane.f kj3).bind fun t388 => (some t388)) else (none))))) else (none)))) else (none))) = some r := H
    have A15 := q13 A150
    clear A150
    replace H := Option.bind_eq_some_iff.mp H
    obtain ⟨⟨t375, t378⟩, A160, H⟩ := H
    replace H : (if t365 = t378 then ((frisketlaw36_as.f kj3 t362).bind fun t379 => ((frisketref36_SamePages.f kj3 t379 t375).bind fun t382 => (if t382 = true then ((compare_Cost.f kj3 l1).bind fun t383 => ((frisketlaw36_edits.f kj3 l1).bind fun t384 => ((frisketref36_Cost.f kj3 t384).bind fun t387 => (if t383 = t387 then ((frisketlaw36_sane.f kj3).bind fun t388 => (some t388)) else (none))))) else (none)))) else (none)) = some r := H
    have A16 := q13 A160
    clear A160
    by_cases c17 : t365 = t378
    ·rw [if_pos c17] at H
     have c17b0 : (t365 == t378) = true := beq_iff_eq.mpr c17
     have c17b1 : (t365 != t378) = false := bne_eq_false_iff_eq.mpr c17
     clear c17
     replace H := Option.bind_eq_some_iff.mp H
     obtain ⟨t379, A180, H⟩ := H
     replace H : ((frisketref36_SamePages.f kj3 t379 t375).bind fun t382 => (if t382 = true then ((compare_Cost.f kj3 l1).bind fun t383 => ((frisketlaw36_edits.f kj3 l1).bind fun t384 => ((frisketref36_Cost.f kj3 t384).bind fun t387 => (if t383 = t387 then ((frisketlaw36_sane.f kj3).bind fun t388 => (some t388)) else (none))))) else (none))) = some r := H
     have A18 := q13 A180
     clear A180
     replace H := Option.bind_eq_some_iff.mp H
     obtain ⟨t382, A190, H⟩ := H
     replace H : (if t382 = true then ((compare_Cost.f kj3 l1).bind fun t383 => ((frisketlaw36_edits.f kj3 l1).bind fun t384 => ((frisketref36_Cost.f kj3 t384).bind fun t387 => (if t383 = t387 then ((frisketlaw36_sane.f kj3).bind fun t388 => (some t388)) else (none))))) else (none)) = some r := H
     have A19 := q13 A190
     clear A190
     by_cases c20 : t382 = true
     ·subst c20
      have H1 : ((compare_Cost.f kj3 l1).bind fun t383 => ((frisketlaw36_edits.f kj3 l1).bind fun t384 => ((frisketref36_Cost.f kj3 t384).bind fun t387 => (if t383 = t387 then ((frisketlaw36_sane.f kj3).bind fun t388 => (some t388)) else (none))))) = some r := by rw [if_pos rfl] at H; exact H
      clear H
      have H := H1
      clear H1
      replace H := Option.bind_eq_some_iff.mp H
      obtain ⟨t383, A210, H⟩ := H
      replace H : ((frisketlaw36_edits.f kj3 l1).bind fun t384 => ((frisketref36_Cost.f kj3 t384).bind fun t387 => (if t383 = t387 then ((frisketlaw36_sane.f kj3).bind fun t388 => (some t388)) else (none)))) = some r := H
      have A21 := q13 A210
      clear A210
      replace H := Option.bind_eq_some_iff.mp H
      obtain ⟨t384, A220, H⟩ := H
      replace H : ((frisketref36_Cost.f kj3 t384).bind fun t387 => (if t383 = t387 then ((frisketlaw36_sane.f kj3).bind fun t388 => (some t388)) else (none))) = some r := H
      have A22 := q13 A220
      clear A220
      replace H := Option.bind_eq_some_iff.mp H
      obtain ⟨t387, A230, H⟩ := H
      replace H : (if t383 = t387 then ((frisketlaw36_sane.f kj3).bind fun t388 => (some t388)) else (none)) = some r := H
      have A23 := q13 A230
      clear A230
      by_cases c24 : t383 = t387
      ·rw [if_pos c24] at H
       have c24b0 : (t383 == t387) = true := beq_iff_eq.mpr c24
       have c24b1 : (t383 != t387) = false := bne_eq_false_iff_eq.mpr c24
       clear c24
       replace H := Option.bind_eq_some_iff.mp H
       obtain ⟨t388, A250, H⟩ := H
       replace H : (some t388) = some r := H
       have A25 := q13 A250
       clear A250
       obtain rfl := Option.some.inj H
       go_wp2_with (first | ((with_reducible refine gate_callee (f := 22) rfl ?_); refine goesL_ (some 28) rfl rfl Try.func22 (by kernel_rfl) rfl #[.slice A0 l0.length c0] rfl (by (try simp only [List.map_toArray, List.map_cons, List.map_nil]); first | done | rfl | (simp only [List.length_drop, List.length_take]; rfl)) ?_; (with_reducible refine (frisketlaw36_numbered.calls kj3 _ _ l0 t356 _ ?side1 ?side2 A10.out).mono ?_); (case side1 => repeat (first | exact (Kd.C_below HR0.out HB.out) | (with_reducible refine q18 ?_ _) | (with_reducible refine q19 ?_ _) | (with_reducible refine q20 ?_))); (case side2 => exact HC0.out); rintro e w26 ⟨v357, rfl, ho0, hb⟩; refine ⟨_, rfl, ?_⟩; have n0_ := q13 (Kd.N_lower (Kd.N_mono (ok' := fun k_ => True) (Kd.R_N (Kd.R_bound ho0)) (fun k_ hk_ => trivial)) (q7 (gB HB))); have n1_ := q13 (q12 (gB HB) hb); clear HB; have HO358 := n0_; have HB := n1_; clear n0_ n1_; (try clear hb); (try clear hb2); (try clear hk); (try clear hi); (try clear ho0)) | ((with_reducible refine gate_callee (f := 22) rfl ?_); refine goesL_ (some 30) rfl rfl Try.func22 (by kernel_rfl) rfl #[.slice A2 l2.length c2] rfl (by (try simp only [List.map_toArray, List.map_cons, List.map_nil]); first | done | rfl | (simp only [List.length_drop, List.length_take]; rfl)) ?_; (with_reducible refine (frisketlaw36_numbered.calls kj3 _ _ l2 t359 _ ?side1 ?side2 A11.out).mono ?_); (case side1 => repeat (first | exact (Kd.C_below HR2.out HB.out) | (with_reducible refine q18 ?_ _) | (with_reducible refine q19 ?_ _) | (with_reducible refine q20 ?_))); (case side2 => exact HC2.out); rintro e w27 ⟨v360, rfl, ho0, hb⟩; refine ⟨_, rfl, ?_⟩; have n0_ := q13 (Kd.N_elder' (gN HO358) (by first | exact Kd.N_base ho0 | exact Kd.R_base ho0) hb); have n1_ := q13 (Kd.N_lower (Kd.N_mono (ok' := fun k_ => some k_ ≠ (v357 : Value).ownBlock) (Kd.R_N (Kd.R_bound ho0)) (fun k_ hk_ => (Kd.fresh' (Kd.N_lt (gN HO358)) k_ hk_.2.1))) (q7 (gB HB))); have n2_ := q13 (q12 (gB HB) hb); clear HO358; clear HB; have HO358 := n0_; have HO361 := n1_; have HB := n2_; clear n0_ n1_ n2_; (try clear hb); (try clear hb2); (try clear hk); (try clear hi); (try clear ho0); obtain ⟨Ao28, co28, eo28⟩ := Kd.N_slice HO358.out; subst eo28; obtain ⟨Ao29, co29, eo29⟩ := Kd.N_slice HO361.out; subst eo29) | ((with_reducible refine gate_callee (f := 23) rfl ?_); refine goesL_ (some 35) rfl rfl Try.func23 (by kernel_rfl) rfl #[.slice Ao28 t356.length co28, .slice A1 l1.length c1, .slice Ao29 t359.length co29] rfl (by (try simp only [List.map_toArray, List.map_cons, List.map_nil]); first | done | rfl | (simp only [List.length_drop, List.length_take]; rfl)) ?_; (with_reducible refine (compare_Apply.calls kj3 (fun k_ => (True ∧ some k_ ≠ (.slice Ao29 t359.length co29 : Value).ownBlock)) _ _ t356 _ _ l1 (fun k_ => some k_ ≠ (.slice Ao28 t356.length co28 : Value).ownBlock) _ _ t359 t362 t365 _ ?side1 ?side2 ?side3 ?side4 A12.out).mono ?_); (case side1 => exact Kd.N_V (HO358.out)); (case side2 => repeat (first | exact (Kd.C_below HR1.out HB.out) | (with_reducible refine q18 ?_ _) | (with_reducible refine q19 ?_ _) | (with_reducible refine q20 ?_))); (case side3 => exact HC1.out); (case side4 => exact Kd.N_V (HO361.out)); rintro e w30 ⟨v363, rfl, ho0, hb⟩; refine ⟨_, rfl, ?_⟩; have n0_ := q13 (Kd.N_elder' (gN HO358) (by first | exact Kd.N_base ho0 | exact Kd.R_base ho0) hb); have n1_ := q13 (Kd.N_elder' (gN HO361) (by first | exact Kd.N_base ho0 | exact Kd.R_base ho0) hb); have n2_ := q13 (Kd.N_lower (Kd.N_mono (ok' := fun k_ => True) ho0 (fun k_ hk_ => trivial)) (q7 (gB HB))); have n3_ := q13 (q12 (gB HB) hb); clear HO358; clear HO361; clear HB; have HO358 := n0_; have HO361 := n1_; have HO364 := n2_; have HB := n3_; clear n0_ n1_ n2_ n3_; (try clear hb); (try clear hb2); (try clear hk); (try clear hi); (try clear ho0)) | ((with_reducible refine gate_callee (f := 9) rfl ?_); refine goesL_ (some 40) rfl rfl Try.func9 (by kernel_rfl) rfl #[.slice Ao28 t356.length co28] rfl (by (try simp only [List.map_toArray, List.map_cons, List.map_nil]); first | done | rfl | (simp only [List.length_drop, List.length_take]; rfl)) ?_; (with_reducible refine (frisketlaw36_as.calls kj3 (fun k_ => ((True ∧ some k_ ≠ (.slice Ao29 t359.length co29 : Value).ownBlock) ∧ some k_ ≠ (v363 : Value).ownBlock)) _ _ t356 t366 _ ?side1 A13.out).mono ?_); (case side1 => exact Kd.N_V (HO358.out)); rintro e w31 ⟨v367, rfl, ho0, hb⟩; refine ⟨_, rfl, ?_⟩; have n0_ := q13 (Kd.N_elder' (gN HO358) (by first | exact Kd.N_base ho0 | exact Kd.R_base ho0) hb); have n1_ := q13 (Kd.N_elder' (gN HO361) (by first | exact Kd.N_base ho0 | exact Kd.R_base ho0) hb); have n2_ := q13 (Kd.N_elder' (gN HO364) (by first | exact Kd.N_base ho0 | exact Kd.R_base ho0) hb); have n3_ := q13 (Kd.N_lower (Kd.N_mono (ok' := fun k_ => some k_ ≠ (.slice Ao29 t359.length co29 : Value).ownBlock ∧ some k_ ≠ (v363 : Value).ownBlock) ho0 (fun k_ hk_ => ⟨Or.elim hk_ (fun hs_ => hs_.1.2) (fun hn_ => (Kd.fresh' (Kd.N_lt (gN HO361)) k_ hn_)), Or.elim hk_ (fun hs_ => hs_.2) (fun hn_ => (Kd.fresh' (Kd.N_lt (gN HO364)) k_ hn_))⟩)) (q7 (gB HB))); have n4_ := q13 (q12 (gB HB) hb); clear HO358; clear HO361; clear HO364; clear HB; have HO358 := n0_; have HO361 := n1_; have HO364 := n2_; have HO368 := n3_; have HB := n4_; clear n0_ n1_ n2_ n3_ n4_; (try clear hb); (try clear hb2); (try clear hk); (try clear hi); (try clear ho0)) | ((with_reducible refine gate_callee (f := 27) rfl ?_); refine goesL_ (some 42) rfl rfl Try.func27 (by kernel_rfl) rfl #[.slice A1 l1.length c1] rfl (by (try simp only [List.map_toArray, List.map_cons, List.map_nil]); first | done | rfl | (simp only [List.length_drop, List.length_take]; rfl)) ?_; (with_reducible refine (frisketlaw36_edits.calls kj3 _ _ l1 t369 _ ?side1 ?side2 A14.out).mono ?_); (case side1 => repeat (first | exact (Kd.C_below HR1.out HB.out) | (with_reducible refine q18 ?_ _) | (with_reducible refine q19 ?_ _) | (with_reducible refine q20 ?_))); (case side2 => exact HC1.out); rintro e w32 ⟨v370, rfl, ho0, hb⟩; refine ⟨_, rfl, ?_⟩; have n0_ := q13 (Kd.N_elder' (gN HO358) (Kd.R_base ho0) hb); have n1_ := q13 (Kd.N_elder' (gN HO361) (Kd.R_base ho0) hb); have n2_ := q13 (Kd.N_elder' (gN HO364) (Kd.R_base ho0) hb); have n3_ := q13 (Kd.N_elder' (gN HO368) (Kd.R_base ho0) hb); have n4_ := q13 (Kd.R_lower ho0 (q7 (gB HB))); have n5_ := q13 (q12 (gB HB) hb); clear HO358; clear HO361; clear HO364; clear HO368; clear HB; have HO358 := n0_; have HO361 := n1_; have HO364 := n2_; have HO368 := n3_; have HO371 := n4_; have HB := n5_; clear n0_ n1_ n2_ n3_ n4_ n5_; (try clear hb); (try clear hb2); (try clear hk); (try clear hi); (try clear ho0)) | ((with_reducible refine gate_callee (f := 9) rfl ?_); refine goesL_ (some 44) rfl rfl Try.func9 (by kernel_rfl) rfl #[.slice Ao29 t359.length co29] rfl (by (try simp only [List.map_toArray, List.map_cons, List.map_nil]); first | done | rfl | (simp only [List.length_drop, List.length_take]; rfl)) ?_; (with_reducible refine (frisketlaw36_as.calls kj3 (fun k_ => (((some k_ ≠ (.slice Ao28 t356.length co28 : Value).ownBlock ∧ some k_ ≠ (v363 : Value).ownBlock) ∧ some k_ ≠ (v367 : Value).ownBlock) ∧ some k_ ≠ (v370 : Value).ownBlock)) _ _ t359 t372 _ ?side1 A15.out).mono ?_); (case side1 => exact Kd.N_V (HO361.out)); rintro e w33 ⟨v373, rfl, ho0, hb⟩; refine ⟨_, rfl, ?_⟩; have n0_ := q13 (Kd.N_elder' (gN HO358) (by first | exact Kd.N_base ho0 | exact Kd.R_base ho0) hb); have n1_ := q13 (Kd.N_elder' (gN HO361) (by first | exact Kd.N_base ho0 | exact Kd.R_base ho0) hb); have n2_ := q13 (Kd.N_elder' (gN HO364) (by first | exact Kd.N_base ho0 | exact Kd.R_base ho0) hb); have n3_ := q13 (Kd.N_elder' (gN HO368) (by first | exact Kd.N_base ho0 | exact Kd.R_base ho0) hb); have n4_ := q13 (Kd.R_below (gR HO371) hb); have n5_ := q13 (Kd.N_lower (Kd.N_mono (ok' := fun k_ => some k_ ≠ (.slice Ao28 t356.length co28 : Value).ownBlock ∧ some k_ ≠ (v363 : Value).ownBlock ∧ some k_ ≠ (v367 : Value).ownBlock ∧ some k_ ≠ (v370 : Value).ownBlock) ho0 (fun k_ hk_ => ⟨Or.elim hk_ (fun hs_ => hs_.1.1.1) (fun hn_ => (Kd.fresh' (Kd.N_lt (gN HO358)) k_ hn_)), Or.elim hk_ (fun hs_ => hs_.1.1.2) (fun hn_ => (Kd.fresh' (Kd.N_lt (gN HO364)) k_ hn_)), Or.elim hk_ (fun hs_ => hs_.1.2) (fun hn_ => (Kd.fresh' (Kd.N_lt (gN HO368)) k_ hn_)), Or.elim hk_ (fun hs_ => hs_.2) (fun hn_ => (Kd.fresh' (Kd.R_lt (gR HO371)) k_ hn_))⟩)) (q7 (gB HB))); have n6_ := q13 (q12 (gB HB) hb); clear HO358; clear HO361; clear HO364; clear HO368; clear HO371; clear HB; have HO358 := n0_; have HO361 := n1_; have HO364 := n2_; have HO368 := n3_; have HO371 := n4_; have HO374 := n5_; have HB := n6_; clear n0_ n1_ n2_ n3_ n4_ n5_ n6_; (try clear hb); (try clear hb2); (try clear hk); (try clear hi); (try clear ho0); obtain ⟨Ao34, co34, eo34⟩ := Kd.N_slice HO368.out; subst eo34; obtain ⟨Ao35, co35, eo35⟩ := Kd.R_slice HO371.out; subst eo35; obtain ⟨Ao36, co36, eo36⟩ := Kd.N_slice HO374.out; subst eo36) | ((with_reducible refine gate_callee (f := 26) rfl ?_); refine goesL_ (some 45) rfl rfl Try.func26 (by kernel_rfl) rfl #[.slice Ao34 t366.length co34, .slice Ao35 t369.length co35, .slice Ao36 t372.length co36] rfl (by (try simp only [List.map_toArray, List.map_cons, List.map_nil]); first | done | rfl | (simp only [List.length_drop, List.length_take]; rfl)) ?_; (with_reducible refine (frisketref36_Apply.calls kj3 _ _ t366 _ _ t369 (fun k_ => (some k_ ≠ (.slice Ao28 t356.length co28 : Value).ownBlock ∧ (some k_ ≠ (v363 : Value).ownBlock ∧ (some k_ ≠ (.slice Ao34 t366.length co34 : Value).ownBlock ∧ some k_ ≠ (.slice Ao35 t369.length co35 : Value).ownBlock)))) _ _ t372 t375 t378 _ ?side1 ?side2 ?side3 ?side4 ?side5 A16.out).mono ?_); (case side1 => repeat (first | exact (Kd.N_reads' HO368.out).2.2 | (with_reducible refine q18 ?_ _) | (with_reducible refine q19 ?_ _) | (with_reducible refine q20 ?_))); (case side2 => exact (Kd.N_reads' HO368.out).2.1); (case side3 => repeat (first | exact (Kd.R_reads' HO371.out).2.2 | (with_reducible refine q18 ?_ _) | (with_reducible refine q19 ?_ _) | (with_reducible refine q20 ?_))); (case side4 => exact (Kd.R_reads' HO371.out).2.1); (case side5 => exact Kd.N_V (HO374.out)); rintro e w37 ⟨v376, rfl, ho0, hb⟩; refine ⟨_, rfl, ?_⟩; have n0_ := q13 (Kd.N_elder' (gN HO358) (by first | exact Kd.N_base ho0 | exact Kd.R_base ho0) hb); have n1_ := q13 (Kd.N_elder' (gN HO361) (by first | exact Kd.N_base ho0 | exact Kd.R_base ho0) hb); have n2_ := q13 (Kd.N_elder' (gN HO364) (by first | exact Kd.N_base ho0 | exact Kd.R_base ho0) hb); have n3_ := q13 (Kd.N_elder' (gN HO368) (by first | exact Kd.N_base ho0 | exact Kd.R_base ho0) hb); have n4_ := q13 (Kd.R_below (gR HO371) hb); have n5_ := q13 (Kd.N_elder' (gN HO374) (by first | exact Kd.N_base ho0 | exact Kd.R_base ho0) hb); have n6_ := q13 (Kd.N_lower (Kd.N_mono (ok' := fun k_ => some k_ ≠ (.slice Ao28 t356.length co28 : Value).ownBlock ∧ some k_ ≠ (v363 : Value).ownBlock ∧ some k_ ≠ (.slice Ao34 t366.length co34 : Value).ownBlock ∧ some k_ ≠ (.slice Ao35 t369.length co35 : Value).ownBlock) ho0 (fun k_ hk_ => ⟨Or.elim hk_ (fun hs_ => hs_.1) (fun hn_ => (Kd.fresh' (Kd.N_lt (gN HO358)) k_ hn_)), Or.elim hk_ (fun hs_ => hs_.2.1) (fun hn_ => (Kd.fresh' (Kd.N_lt (gN HO364)) k_ hn_)), Or.elim hk_ (fun hs_ => hs_.2.2.1) (fun hn_ => (Kd.fresh' (Kd.N_lt (gN HO368)) k_ hn_)), Or.elim hk_ (fun hs_ => hs_.2.2.2) (fun hn_ => (Kd.fresh' (Kd.R_lt (gR HO371)) k_ hn_))⟩)) (q7 (gB HB))); have n7_ := q13 (q12 (gB HB) hb); clear HO358; clear HO361; clear HO364; clear HO368; clear HO371; clear HO374; clear HB; have HO358 := n0_; have HO361 := n1_; have HO364 := n2_; have HO368 := n3_; have HO371 := n4_; have HO374 := n5_; have HO377 := n6_; have HB := n7_; clear n0_ n1_ n2_ n3_ n4_ n5_ n6_ n7_; (try clear hb); (try clear hb2); (try clear hk); (try clear hi); (try clear ho0); obtain ⟨Ao38, co38, eo38⟩ := Kd.N_slice HO364.out; subst eo38) | (go_at_call 9; (with_reducible refine (frisketlaw36_as.calls kj3 (fun k_ => ((((True ∧ some k_ ≠ (.slice Ao34 t366.length co34 : Value).ownBlock) ∧ some k_ ≠ (.slice Ao35 t369.length co35 : Value).ownBlock) ∧ some k_ ≠ (.slice Ao36 t372.length co36 : Value).ownBlock) ∧ some k_ ≠ (v376 : Value).ownBlock)) _ _ t362 t379 _ ?side1 A18.out).mono ?_); (case side1 => exact Kd.N_V (HO364.out)); rintro e w39 ⟨v380, rfl, ho0, hb⟩; have n0_ := q13 (Kd.N_elder' (gN HO358) (by first | exact Kd.N_base ho0 | exact Kd.R_base ho0) hb); have n1_ := q13 (Kd.N_elder' (gN HO361) (by first | exact Kd.N_base ho0 | exact Kd.R_base ho0) hb); have n2_ := q13 (Kd.N_elder' (gN HO364) (by first | exact Kd.N_base ho0 | exact Kd.R_base ho0) hb); have n3_ := q13 (Kd.N_elder' (gN HO368) (by first | exact Kd.N_base ho0 | exact Kd.R_base ho0) hb); have n4_ := q13 (Kd.R_below (gR HO371) hb); have n5_ := q13 (Kd.N_elder' (gN HO374) (by first | exact Kd.N_base ho0 | exact Kd.R_base ho0) hb); have n6_ := q13 (Kd.N_elder' (gN HO377) (by first | exact Kd.N_base ho0 | exact Kd.R_base ho0) hb); have n7_ := q13 (Kd.N_lower (Kd.N_mono (ok' := fun k_ => some k_ ≠ (.slice Ao34 t366.length co34 : Value).ownBlock ∧ some k_ ≠ (.slice Ao35 t369.length co35 : Value).ownBlock ∧ some k_ ≠ (.slice Ao36 t372.length co36 : Value).ownBlock ∧ some k_ ≠ (v376 : Value).ownBlock) ho0 (fun k_ hk_ => ⟨Or.elim hk_ (fun hs_ => hs_.1.1.1.2) (fun hn_ => (Kd.fresh' (Kd.N_lt (gN HO368)) k_ hn_)), Or.elim hk_ (fun hs_ => hs_.1.1.2) (fun hn_ => (Kd.fresh' (Kd.R_lt (gR HO371)) k_ hn_)), Or.elim hk_ (fun hs_ => hs_.1.2) (fun hn_ => (Kd.fresh' (Kd.N_lt (gN HO374)) k_ hn_)), Or.elim hk_ (fun hs_ => hs_.2) (fun hn_ => (Kd.fresh' (Kd.N_lt (gN HO377)) k_ hn_))⟩)) (q7 (gB HB))); have n8_ := q13 (q12 (gB HB) hb); clear HO358; clear HO361; clear HO364; clear HO368; clear HO371; clear HO374; clear HO377; clear HB; have HO358 := n0_; have HO361 := n1_; have HO364 := n2_; have HO368 := n3_; have HO371 := n4_; have HO374 := n5_; have HO377 := n6_; have HO381 := n7_; have HB := n8_; clear n0_ n1_ n2_ n3_ n4_ n5_ n6_ n7_ n8_; (try clear hb); (try clear hb2); (try clear hk); (try clear hi); (try clear ho0); obtain ⟨Ao40, co40, eo40⟩ := Kd.N_slice HO381.out; subst eo40; obtain ⟨Ao41, co41, eo41⟩ := Kd.N_slice HO377.out; subst eo41) | (go_at_call 10; (with_reducible refine (frisketref36_SamePages.calls kj3 _ _ t379 _ _ t375 true _ ?side1 ?side2 ?side3 ?side4 A19.out).mono ?_); (case side1 => repeat (first | exact (Kd.N_reads' HO381.out).2.2 | (with_reducible refine q18 ?_ _) | (with_reducible refine q19 ?_ _) | (with_reducible refine q20 ?_))); (case side2 => exact (Kd.N_reads' HO381.out).2.1); (case side3 => repeat (first | exact (Kd.N_reads' HO377.out).2.2 | (with_reducible refine q18 ?_ _) | (with_reducible refine q19 ?_ _) | (with_reducible refine q20 ?_))); (case side4 => exact (Kd.N_reads' HO377.out).2.1); rintro e w42 ⟨rfl, hb⟩; have n0_ := q13 (Kd.N_below (gN HO358) hb); have n1_ := q13 (Kd.N_below (gN HO361) hb); have n2_ := q13 (Kd.N_below (gN HO364) hb); have n3_ := q13 (Kd.N_below (gN HO368) hb); have n4_ := q13 (Kd.R_below (gR HO371) hb); have n5_ := q13 (Kd.N_below (gN HO374) hb); have n6_ := q13 (Kd.N_below (gN HO377) hb); have n7_ := q13 (Kd.N_below (gN HO381) hb); have n8_ := q13 (q12 (gB HB) hb); clear HO358; clear HO361; clear HO364; clear HO368; clear HO371; clear HO374; clear HO377; clear HO381; clear HB; have HO358 := n0_; have HO361 := n1_; have HO364 := n2_; have HO368 := n3_; have HO371 := n4_; have HO374 := n5_; have HO377 := n6_; have HO381 := n7_; have HB := n8_; clear n0_ n1_ n2_ n3_ n4_ n5_ n6_ n7_ n8_; (try clear hb); (try clear hb2); (try clear hk); (try clear hi)) | (go_at_call 25; (with_reducible refine (compare_Cost.calls kj3 _ _ l1 t383 _ ?side1 ?side2 A21.out).mono ?_); (case side1 => repeat (first | exact (Kd.C_below HR1.out HB.out) | (with_reducible refine q18 ?_ _) | (with_reducible refine q19 ?_ _) | (with_reducible refine q20 ?_))); (case side2 => exact HC1.out); rintro e w43 ⟨rfl, hb⟩; have n0_ := q13 (Kd.N_below (gN HO358) hb); have n1_ := q13 (Kd.N_below (gN HO361) hb); have n2_ := q13 (Kd.N_below (gN HO364) hb); have n3_ := q13 (Kd.N_below (gN HO368) hb); have n4_ := q13 (Kd.R_below (gR HO371) hb); have n5_ := q13 (Kd.N_below (gN HO374) hb); have n6_ := q13 (Kd.N_below (gN HO377) hb); have n7_ := q13 (Kd.N_below (gN HO381) hb); have n8_ := q13 (q12 (gB HB) hb); clear HO358; clear HO361; clear HO364; clear HO368; clear HO371; clear HO374; clear HO377; clear HO381; clear HB; have HO358 := n0_; have HO361 := n1_; have HO364 := n2_; have HO368 := n3_; have HO371 := n4_; have HO374 := n5_; have HO377 := n6_; have HO381 := n7_; have HB := n8_; clear n0_ n1_ n2_ n3_ n4_ n5_ n6_ n7_ n8_; (try clear hb); (try clear hb2); (try clear hk); (try clear hi)) | (go_at_call 27; (with_reducible refine (frisketlaw36_edits.calls kj3 _ _ l1 t384 _ ?side1 ?side2 A22.out).mono ?_); (case side1 => repeat (first | exact (Kd.C_below HR1.out HB.out) | (with_reducible refine q18 ?_ _) | (with_reducible refine q19 ?_ _) | (with_reducible refine q20 ?_))); (case side2 => exact HC1.out); rintro e w44 ⟨v385, rfl, ho0, hb⟩; have n0_ := q13 (Kd.N_elder' (gN HO358) (Kd.R_base ho0) hb); have n1_ := q13 (Kd.N_elder' (gN HO361) (Kd.R_base ho0) hb); have n2_ := q13 (Kd.N_elder' (gN HO364) (Kd.R_base ho0) hb); have n3_ := q13 (Kd.N_elder' (gN HO368) (Kd.R_base ho0) hb); have n4_ := q13 (Kd.R_elder' (gR HO371) (Kd.R_base ho0) hb); have n5_ := q13 (Kd.N_elder' (gN HO374) (Kd.R_base ho0) hb); have n6_ := q13 (Kd.N_elder' (gN HO377) (Kd.R_base ho0) hb); have n7_ := q13 (Kd.N_elder' (gN HO381) (Kd.R_base ho0) hb); have n8_ := q13 (Kd.R_lower (Kd.R_new' ho0 (Kd.R_lt (gR HO371))) (q7 (gB HB))); have n9_ := q13 (q12 (gB HB) hb); clear HO358; clear HO361; clear HO364; clear HO368; clear HO371; clear HO374; clear HO377; clear HO381; clear HB; have HO358 := n0_; have HO361 := n1_; have HO364 := n2_; have HO368 := n3_; have HO371 := n4_; have HO374 := n5_; have HO377 := n6_; have HO381 := n7_; have HO386 := n8_; have HB := n9_; clear n0_ n1_ n2_ n3_ n4_ n5_ n6_ n7_ n8_ n9_; (try clear hb); (try clear hb2); (try clear hk); (try clear hi); (try clear ho0); obtain ⟨Ao45, co45, eo45⟩ := Kd.R_slice HO386.out; subst eo45) | (go_at_call 28; (with_reducible refine (frisketref36_Cost.calls kj3 _ _ t384 t387 _ ?side1 ?side2 A23.out).mono ?_); (case side1 => repeat (first | exact (Kd.R_reads' HO386.out).2.2 | (with_reducible refine q18 ?_ _) | (with_reducible refine q19 ?_ _) | (with_reducible refine q20 ?_))); (case side2 => exact (Kd.R_reads' HO386.out).2.1); rintro e w' ⟨rfl, ⟨nd, rfl⟩⟩) | (go_at_call 7; (with_reducible refine (frisketlaw36_sane.calls kj3  t388 _ A25.out).mono ?_); rintro e w46 ⟨rfl, hb⟩; have n0_ := q13 (Kd.N_below (gN HO358) hb); have n1_ := q13 (Kd.N_below (gN HO361) hb); have n2_ := q13 (Kd.N_below (gN HO364) hb); have n3_ := q13 (Kd.N_below (gN HO368) hb); have n4_ := q13 (Kd.R_below (gR HO371) hb); have n5_ := q13 (Kd.N_below (gN HO374) hb); have n6_ := q13 (Kd.N_below (gN HO377) hb); have n7_ := q13 (Kd.N_below (gN HO381) hb); have n8_ := q13 (Kd.R_below (gR HO386) hb); have n9_ := q13 (q12 (gB HB) hb); clear HO358; clear HO361; clear HO364; clear HO368; clear HO371; clear HO374; clear HO377; clear HO381; clear HO386; clear HB; have HO358 := n0_; have HO361 := n1_; have HO364 := n2_; have HO368 := n3_; have HO371 := n4_; have HO374 := n5_; have HO377 := n6_; have HO381 := n7_; have HO386 := n8_; have HB := n9_; clear n0_ n1_ n2_ n3_ n4_ n5_ n6_ n7_ n8_ n9_; (try clear hb); (try clear hb2); (try clear hk); (try clear hi)))
       go_ret
       exact ⟨by first | rfl | (simp [errW_none, errW_some] <;> rfl) | (simp [*, errW_none, errW_some] <;> rfl), gB HB⟩
      ·rw [if_neg c24] at H
       exact absurd H (by simp)
     ·replace c20 := Bool.eq_false_iff.mpr c20
      subst c20
      have H1 : (none) = some r := by rw [if_neg (show ¬ (false = true) by decide)] at H; exact H
      clear H
      have H := H1
      clear H1
      exact absurd H (by simp)
    ·rw [if_neg c17] at H
     exact absurd H (by simp)

end Go.Proofs.Ytgjmljjnminefaa.QCompareApplies
