import Derived.Lib.SliceRun
import Derived.Test.YtgjmljjnminefaaQCompareAppliesx0
import Derived.Test.YtgjmljjnminefaaQCompareAppliesx10
import Derived.Test.YtgjmljjnminefaaArrEq
import Derived.Test.YtgjmljjnminefaaZip
import Derived.Test.YtgjmljjnminefaaZip2
namespace Go.Proofs.Ytgjmljjnminefaa.QCompareApplies
open Go.Proofs.Ytgjmljjnminefaa.Zip2 Go.Proofs.Ytgjmljjnminefaa.Zip Go.RowKit Go.Proofs.YtgjmljjnminefaaW.PrintWords Go.Proofs.YtgjmljjnminefaaW.PrintLast Go.Proofs.YtgjmljjnminefaaW.PrintMore
attribute [local go_sem] max2_int min2_int max_two min_two max_three min_three max_four min_four   -- for this text's walks alone
set_option linter.unusedVariables false
set_option linter.unusedSimpArgs false

mutual
def frisketref36_Right.l0 : Nat → List (S35) → List (S84) → List (S35) → Int → Int → Int → Option (Bool)
 | 0, _, _, _, _, _, _ => none
 | k + 1, x0, x1, x2, x7, x8, x9 => if x9 < (x1.length : Int) then (if 0 ≤ x9 then (if ((rd_T84 x1 x9).f0) < 0 then (frisketref36_Right.j1 k x0 x1 x2 x7 x8 x9 (((rd_T84 x1 x9).f0) != 2) (((rd_T84 x1 x9).f0) != 1) true ((rd_T84 x1 x9).f0) ((rd_T84 x1 x9).f1) ((rd_T84 x1 x9).f2)) else (if ((rd_T84 x1 x9).f0) > 3 then (frisketref36_Right.j1 k x0 x1 x2 x7 x8 x9 (((rd_T84 x1 x9).f0) != 2) (((rd_T84 x1 x9).f0) != 1) true ((rd_T84 x1 x9).f0) ((rd_T84 x1 x9).f1) ((rd_T84 x1 x9).f2)) else (if ((rd_T84 x1 x9).f0) = 2 then (if ((rd_T84 x1 x9).f0) = 1 then (none) else (if ((rd_T84 x1 x9).f2) = x8 then (if x8 ≥ (x2.length : Int) then (frisketref36_Right.j1 k x0 x1 x2 x7 x8 x9 (((rd_T84 x1 x9).f0) != 2) (((rd_T84 x1 x9).f0) != 1) true ((rd_T84 x1 x9).f0) ((rd_T84 x1 x9).f1) ((rd_T84 x1 x9).f2)) else (if ((rd_T84 x1 x9).f1) = 0 then (frisketref36_Right.j1 k x0 x1 x2 x7 x8 x9 (((rd_T84 x1 x9).f0) != 2) (((rd_T84 x1 x9).f0) != 1) false ((rd_T84 x1 x9).f0) ((rd_T84 x1 x9).f1) ((rd_T84 x1 x9).f2)) else (frisketref36_Right.j1 k x0 x1 x2 x7 x8 x9 (((rd_T84 x1 x9).f0) != 2) (((rd_T84 x1 x9).f0) != 1) true ((rd_T84 x1 x9).f0) ((rd_T84 x1 x9).f1) ((rd_T84 x1 x9).f2)))) else (frisketref36_Right.j1 k x0 x1 x2 x7 x8 x9 (((rd_T84 x1 x9).f0) != 2) (((rd_T84 x1 x9).f0) != 1) true ((rd_T84 x1 x9).f0) ((rd_T84 x1 x9).f1) ((rd_T84 x1 x9).f2)))) else (if ((rd_T84 x1 x9).f1) = x7 then (if x7 ≥ (x0.length : Int) then (frisketref36_Right.j1 k x0 x1 x2 x7 x8 x9 (((rd_T84 x1 x9).f0) != 2) (((rd_T84 x1 x9).f0) != 1) true ((rd_T84 x1 x9).f0) ((rd_T84 x1 x9).f1) ((rd_T84 x1 x9).f2)) else (if ((rd_T84 x1 x9).f0) = 1 then (frisketref36_Right.j1 k x0 x1 x2 x7 x8 x9 (((rd_T84 x1 x9).f0) != 2) (((rd_T84 x1 x9).f0) != 1) (((rd_T84 x1 x9).f2) != 0) ((rd_T84 x1 x9).f0) ((rd_T84 x1 x9).f1) ((rd_T84 x1 x9).f2)) else (if ((rd_T84 x1 x9).f2) = x8 then (if x8 ≥ (x2.length : Int) then (frisketref36_Right.j1 k x0 x1 x2 x7 x8 x9 (((rd_T84 x1 x9).f0) != 2) (((rd_T84 x1 x9).f0) != 1) true ((rd_T84 x1 x9).f0) ((rd_T84 x1 x9).f1) ((rd_T84 x1 x9).f2)) else (frisketref36_Right.j1 k x0 x1 x2 x7 x8 x9 (((rd_T84 x1 x9).f0) != 2) (((rd_T84 x1 x9).f0) != 1) false ((rd_T84 x1 x9).f0) ((rd_T84 x1 x9).f1) ((rd_T84 x1 x9).f2))) else (frisketref36_Right.j1 k x0 x1 x2 x7 x8 x9 (((rd_T84 x1 x9).f0) != 2) (((rd_T84 x1 x9).f0) != 1) true ((rd_T84 x1 x9).f0) ((rd_T84 x1 x9).f1) ((rd_T84 x1 x9).f2))))) else (frisketref36_Right.j1 k x0 x1 x2 x7 x8 x9 (((rd_T84 x1 x9).f0) != 2) (((rd_T84 x1 x9).f0) != 1) true ((rd_T84 x1 x9).f0) ((rd_T84 x1 x9).f1) ((rd_T84 x1 x9).f2)))))) else (none)) else (if x7 = (x0.length : Int) then (some (x8 == (x2.length : Int))) else (some false))
def frisketref36_Right.j1 : Nat → List (S35) → List (S84) → List (S35) → Int → Int → Int → Bool → Bool → Bool → Int → Int → Int → Option (Bool)
 | 0, _, _, _, _, _, _, _, _, _, _, _, _ => none
 | k + 1, x0, x1, x2, x7, x8, x9, x11, x12, x84, x331000, x331001, x331002 => if x84 = true then (some false) else (if x331000 = 0 then (if 0 ≤ x7 then (if x7 < (x0.length : Int) then (if 0 ≤ x8 then (if x8 < (x2.length : Int) then ((frisketref36_Same.f k ((rd_T35 x0 x7).f0) ((rd_T35 x0 x7).f1) ((rd_T35 x2 x8).f0) ((rd_T35 x2 x8).f1)).bind fun t333 => (if (t333 = true) then (if x331000 = 3 then (none) else (frisketref36_Right.j2 k x0 x1 x2 x7 x8 x9 x11 x12 false)) else (frisketref36_Right.j2 k x0 x1 x2 x7 x8 x9 x11 x12 true))) else (none)) else (none)) else (none)) else (none)) else (if x331000 = 3 then (if 0 ≤ x7 then (if x7 < (x0.length : Int) then (if 0 ≤ x8 then (if x8 < (x2.length : Int) then (if ((rd_T35 x0 x7).f0) = ((rd_T35 x2 x8).f0) then ((frisketref36_Same.f k ((rd_T35 x0 x7).f0) ((rd_T35 x0 x7).f1) ((rd_T35 x2 x8).f0) ((rd_T35 x2 x8).f1)).bind fun t338 => (frisketref36_Right.j2 k x0 x1 x2 x7 x8 x9 x11 x12 t338)) else (frisketref36_Right.j2 k x0 x1 x2 x7 x8 x9 x11 x12 true)) else (none)) else (none)) else (none)) else (none)) else (frisketref36_Right.j2 k x0 x1 x2 x7 x8 x9 x11 x12 false)))
def frisketref36_Right.j2 : Nat → List (S35) → List (S84) → List (S35) → Int → Int → Int → Bool → Bool → Bool → Option (Bool)
 | 0, _, _, _, _, _, _, _, _, _ => none
 | k + 1, x0, x1, x2, x7, x8, x9, x11, x12, x128 => if x128 = true then (some false) else (if x11 = true then (if x12 = true then (frisketref36_Right.l0 k x0 x1 x2 (wrap64 (x7 + 1)) (wrap64 (x8 + 1)) (wrap64 (x9 + 1))) else (frisketref36_Right.l0 k x0 x1 x2 (wrap64 (x7 + 1)) x8 (wrap64 (x9 + 1)))) else (if x12 = true then (frisketref36_Right.l0 k x0 x1 x2 x7 (wrap64 (x8 + 1)) (wrap64 (x9 + 1))) else (frisketref36_Right.l0 k x0 x1 x2 x7 x8 (wrap64 (x9 + 1)))))
end
def frisketref36_Right.f (k : Nat) (l0 : List (S35)) (l1 : List (S84)) (l2 : List (S35)) : Option (Bool) := frisketref36_Right.l0 k l0 l1 l2 0 0 0
theorem frisketref36_Right.mono_l : ∀ k, (∀ y0 y1 y2 y3 y4 y5, LeO (frisketref36_Right.l0 k y0 y1 y2 y3 y4 y5) (frisketref36_Right.l0 (k + 1) y0 y1 y2 y3 y4 y5)) ∧ (∀ y0 y1 y2 y3 y4 y5 y6 y7 y8 y9 y10 y11, LeO (frisketref36_Right.j1 k y0 y1 y2 y3 y4 y5 y6 y7 y8 y9 y10 y11) (frisketref36_Right.j1 (k + 1) y0 y1 y2 y3 y4 y5 y6 y7 y8 y9 y10 y11)) ∧ (∀ y0 y1 y2 y3 y4 y5 y6 y7 y8, LeO (frisketref36_Right.j2 k y0 y1 y2 y3 y4 y5 y6 y7 y8) (frisketref36_Right.j2 (k + 1) y0 y1 y2 y3 y4 y5 y6 y7 y8))
 | 0 => ⟨fun _ _ _ _ _ _ r h => by simp [frisketref36_Right.l0] at h, fun _ _ _ _ _ _ _ _ _ _ _ _ r h => by simp [frisketref36_Right.j1] at h, fun _ _ _ _ _ _ _ _ _ r h => by simp [frisketref36_Right.j2] at h⟩
 | k + 1 => by
  obtain ⟨ih0, ih1, ih2⟩ := frisketref36_Right.mono_l k
  refine ⟨?_, ?_, ?_⟩
  ·intro y0 y1 y2 y3 y4 y5
   unfold frisketref36_Right.l0
   repeat' first
   | (with_reducible exact ih0 _ _ _ _ _ _)
   | (with_reducible exact ih1 _ _ _ _ _ _ _ _ _ _ _ _)
   | (with_reducible exact ih2 _ _ _ _ _ _ _ _ _)
   | (with_reducible exact frisketref36_Same.mono _ _ _ _ _)
   | (with_reducible exact LeO.refl _)
   | (with_reducible exact LeO.none _)
   | (with_reducible refine LeO.ite ?_ ?_)
   | (with_reducible refine LeO.bind ?_ (fun _ => ?_))
   | exact ih0 _ _ _ _ _ _
   | exact ih1 _ _ _ _ _ _ _ _ _ _ _ _
   | exact ih2 _ _ _ _ _ _ _ _ _
   | exact frisketref36_Same.mono _ _ _ _ _
   | exact LeO.none _
   | refine LeO.ite ?_ ?_
   | refine LeO.bind ?_ (fun _ => ?_)
  ·intro y0 y1 y2 y3 y4 y5 y6 y7 y8 y9 y10 y11
   unfold frisketref36_Right.j1
   repeat' first
   | (with_reducible exact ih0 _ _ _ _ _ _)
   | (with_reducible exact ih1 _ _ _ _ _ _ _ _ _ _ _ _)
   | (with_reducible exact ih2 _ _ _ _ _ _ _ _ _)
   | (with_reducible exact frisketref36_Same.mono _ _ _ _ _)
   | (with_reducible exact LeO.refl _)
   | (with_reducible exact LeO.none _)
   | (with_reducible refine LeO.ite ?_ ?_)
   | (with_reducible refine LeO.bind ?_ (fun _ => ?_))
   | exact ih0 _ _ _ _ _ _
   | exact ih1 _ _ _ _ _ _ _ _ _ _ _ _
   | exact ih2 _ _ _ _ _ _ _ _ _
   | exact frisketref36_Same.mono _ _ _ _ _
   | exact LeO.none _
   | refine LeO.ite ?_ ?_
   | refine LeO.bind ?_ (fun _ => ?_)
  ·intro y0 y1 y2 y3 y4 y5 y6 y7 y8
   unfold frisketref36_Right.j2
   repeat' first
   | (with_reducible exact ih0 _ _ _ _ _ _)
   | (with_reducible exact ih1 _ _ _ _ _ _ _ _ _ _ _ _)
   | (with_reducible exact ih2 _ _ _ _ _ _ _ _ _)
   | (with_reducible exact frisketref36_Same.mono _ _ _ _ _)
   | (with_reducible exact LeO.refl _)
   | (with_reducible exact LeO.none _)
   | (with_reducible refine LeO.ite ?_ ?_)
   | (with_reducible refine LeO.bind ?_ (fun _ => ?_))
   | exact ih0 _ _ _ _ _ _
   | exact ih1 _ _ _ _ _ _ _ _ _ _ _ _
   | exact ih2 _ _ _ _ _ _ _ _ _
   | exact frisketref36_Same.mono _ _ _ _ _
   | exact LeO.none _
   | refine LeO.ite ?_ ?_
   | refine LeO.bind ?_ (fun _ => ?_)
theorem frisketref36_Right.mono : ∀ a0 a1 a2 k, LeO (frisketref36_Right.f k a0 a1 a2) (frisketref36_Right.f (k + 1) a0 a1 a2) := by
 intro a0 a1 a2 k
 obtain ⟨ih0, ih1, ih2⟩ := frisketref36_Right.mono_l k
 unfold frisketref36_Right.f
 repeat' first
   | (with_reducible exact ih0 _ _ _ _ _ _)
   | (with_reducible exact ih1 _ _ _ _ _ _ _ _ _ _ _ _)
   | (with_reducible exact ih2 _ _ _ _ _ _ _ _ _)
   | (with_reducible exact frisketref36_Same.mono _ _ _ _ _)
   | (with_reducible exact LeO.refl _)
   | (with_reducible exact LeO.none _)
   | (with_reducible refine LeO.ite ?_ ?_)
   | (with_reducible refine LeO.bind ?_ (fun _ => ?_))
   | exact ih0 _ _ _ _ _ _
   | exact ih1 _ _ _ _ _ _ _ _ _ _ _ _
   | exact ih2 _ _ _ _ _ _ _ _ _
   | exact frisketref36_Same.mono _ _ _ _ _
   | exact LeO.none _
   | refine LeO.ite ?_ ?_
   | refine LeO.bind ?_ (fun _ => ?_)
def frisketref36_Right.T10 : Bool × List (List Nat × List Nat) := (true, [([], []), ([0], [0]), ([1], [1]), ([2], [2]), ([3], [3]), ([3], [3]), ([4, 5, 3], [3, 4, 5]), ([6, 3], [3, 6]), ([3], [3]), ([3], [3]), ([8, 9, 3], [3, 8, 9]), ([10, 3], [3, 10]), ([7, 11, 3, 3], [3, 7, 11]), ([12, 3], [3, 12]), ([3, 13], [3, 13]), ([14, 12], [14]), ([15], [15]), ([16, 15], [15, 16]), ([17, 15], [15, 17]), ([18, 15, 15], [15, 18]), ([19], [19]), ([19], [19]), ([20, 21, 19], [19, 20, 21]), ([22, 19], [19, 22]), ([23, 19], [19, 23]), ([19], [19]), ([19], [19]), ([25, 26, 19], [19, 25, 26]), ([27, 19], [19, 27]), ([28, 19], [19, 28]), ([24, 29, 19], [19, 24, 29]), ([30, 19, 19], [19, 30]), ([31], [31]), ([31], [31]), ([32, 33, 31], [31, 32, 33]), ([34, 31], [31, 34]), ([31], [31]), ([31], [31]), ([36, 37, 31], [31, 36, 37]), ([38, 31], [31, 38]), ([35, 39, 31, 31], [31, 35, 39]), ([31, 40, 19], [19, 31, 40]), ([19, 41, 15], [15, 19, 41]), ([15, 42], [15, 42])])
def frisketref36_Right.B10 : List Nat := [0, 1, 3, 7, 15, 15, 63, 127, 15, 15, 783, 1807, 4095, 8191, 16383, 32767, 65535, 131071, 262143, 524287, 1048575, 1048575, 4194303, 8388607, 16777215, 1048575, 1048575, 101711871, 235929599, 504365055, 1073741823, 2147483647, 4294967295, 4294967295, 17179869183, 34359738367, 4294967295, 4294967295, 210453397503, 485331304447, 1099511627775, 2199023255551, 4398046511103, 8796093022207]
theorem frisketref36_Right.tab10 : rtab .any (opsOf Try.f38 10) = frisketref36_Right.T10 := by kernel_rfl
theorem frisketref36_Right.bits10 : waitsOk frisketref36_Right.T10.2 frisketref36_Right.B10 = true := by kernel_rfl
set_option maxHeartbeats 8000000 in
set_option maxRecDepth 100000 in
theorem frisketref36_Right.calls (k : Nat) (A0 : Option Addr) (c0 : Nat) (l0 : List (S35)) (A1 : Option Addr) (c1 : Nat) (l1 : List (S84)) (A2 : Option Addr) (c2 : Nat) (l2 : List (S35)) (r : Bool) (w : World) (hr0 : Kd.C k35 w A0 l0.length l0) (hc0 : l0.length ≤ c0) (hr1 : Kd.C k84 w A1 l1.length l1) (hc1 : l1.length ≤ c1) (hr2 : Kd.C k35 w A2 l2.length l2) (hc2 : l2.length ≤ c2) (h : frisketref36_Right.f k l0 l1 l2 = some r) :
  Calls Try.prog 38 #[.slice A0 l0.length c0, .slice A1 l1.length c1, .slice A2 l2.length c2] w fun e w' => e = .returned (.bool r) ∧ Below w.heap.size w w' := by
 have hu84 := Try.underlying84
 have hu35 := Try.underlying35
 have HR0 := q13 hr0
 have HC0 := q13 hc0
 clear hr0 hc0
 have HR1 := q13 hr1
 have HC1 := q13 hc1
 clear hr1 hc1
 have HR2 := q13 hr2
 have HC2 := q13 hc2
 clear hr2 hc2
 have HB := q13 (Below.refl w.heap.size w)
 have H : (frisketref36_Right.l0 k l0 l1 l2 0 0 0) = some r := h
 clear h
 have H' := q13 H
 clear H
 go_enter Try.func38, Try.ntmps38
 go_wp2
 go_loopg [7, 8, 9] k (fun kq v7 v8 v9 w' => ∃ (x7_1 : Int) (x8_1 : Int) (x9_1 : Int), v7 = .int .i64 x7_1 ∧ v8 = .int .i64 x8_1 ∧ v9 = .int .i64 x9_1 ∧ Aside0 (frisketref36_Right.l0 kq l0 l1 l2 x7_1 x8_1 x9_1 = some r) ∧ Aside0 (kq ≤ k) ∧ Aside0 (Below w.heap.size w w'))
 case atStart => exact ⟨(0), (0), (0), (by first | rfl | (simp; done) | (simp [*]; done)), (by first | rfl | (simp; done) | (simp [*]; done)), (by first | rfl | (simp; done) | (simp [*]; done)), H', ⟨q17 _⟩, ⟨gB HB⟩⟩
 case round =>
  clear H'
  try clear c1
  try clear c2
  try clear p2
  try clear c3
  obtain ⟨x7_1, x8_1, x9_1, rfl, rfl, rfl, HA, HK1, HB⟩ := hrel
  cases gk with
  | zero => exact absurd HA.out (by simp [frisketref36_Right.l0])
  | succ k1 =>
   have H := HA.out
   clear HA
   simp only [frisketref36_Right.l0] at H
   by_cases c4 : x9_1 < (l1.length : Int)
   ·rw [if_pos c4] at H
    have c4b0 : decide (x9_1 < (l1.length : Int)) = true := decide_eq_true c4
    clear c4
    by_cases c5 : 0 ≤ x9_1
    ·rw [if_pos c5] at H
     have c5b0 : decide (0 ≤ x9_1) = true := decide_eq_true c5
     clear c5
     have HC6 := q13 H
     clear H
     have p329 : 0 ≤ (x9_1 : Int) := q15 (by assumption)
     have q329 : x9_1 < (l1.length : Int) := q15 (by assumption)
     obtain ⟨ad329, e329, hx329_0, hx329_1, hx329_2⟩ := at_T84 HR1.out x9_1 p329 q329
     cases e329
     replace hx329_0 := cl HB.out hx329_0
     replace hx329_1 := cl HB.out hx329_1
     replace hx329_2 := cl HB.out hx329_2
     replace p329 := eq_true p329
     replace q329 := eq_true q329
     go_upto_region 8 with (first | ((with_reducible refine gate_dst (N := 10) rfl ?_); (try (refine gate_guard (by rfl) ?_; dsimp only)); refine box_event ?hg (N := 10) ?hd (cs := #[.int .i64 0, .int .i64 0, .int .i64 0]) (t := 84) ?hr ?_; (case hd => rfl); (case hg => rfl); (case hr => first | (go_simp; done) | (go_simp; rfl)); intro gb330 hg w7 hbox hb; have n0_ := q13 (q12 (gB HB) hb); have n1_ := q13 (hbox); have n2_ := q13 ((by rw [hg]; exact (q7 (gB HB)) : w.heap.size ≤ gb330)); have n3_ := q13 ((by rw [hg]; exact (q7 (gB HB)) : w.heap.size ≤ gb330)); clear HB; have HB := n0_; have BK330 := n1_; have GW330 := n2_; have GE330 := n3_; clear n0_ n1_ n2_ n3_; clear hb hbox hg; have hcz8_0 : w7.cell? ⟨gb330, 0, none⟩ = some (.int .i64 0) := (q9 BK330.out 0).trans rfl; have hcz8_1 : w7.cell? ⟨gb330, 1, none⟩ = some (.int .i64 0) := (q9 BK330.out 1).trans rfl; have hcz8_2 : w7.cell? ⟨gb330, 2, none⟩ = some (.int .i64 0) := (q9 BK330.out 2).trans rfl; have hfz8_0 := q11 BK330.out 0; have hfz8_1 := q11 BK330.out 1; have hfz8_2 := q11 BK330.out 2))
     (try simp only [Act.put, List.setIfInBounds_toArray, List.set_cons_zero, List.set_cons_succ])
     go_cut [84] (fun v84 wc => ∃ (kq : Nat) (x84_5 : Bool), v84 = .bool x84_5 ∧ Aside0 (frisketref36_Right.j1 kq l0 l1 l2 x7_1 x8_1 x9_1 (((rd_T84 l1 x9_1).f0) != 2) (((rd_T84 l1 x9_1).f0) != 1) x84_5 ((rd_T84 l1 x9_1).f0) ((rd_T84 l1 x9_1).f1) ((rd_T84 l1 x9_1).f2) = some r) ∧ Aside0 (kq ≤ k1) ∧ Aside0 (wc.heap[gb330]? = some (.cells #[.int .i64 ((rd_T84 l1 x9_1).f0), .int .i64 ((rd_T84 l1 x9_1).f1), .int .i64 ((rd_T84 l1 x9_1).f2)] 84 (0, 0))) ∧ Aside0 (Below w.heap.size w wc))
     case first =>
      have H := HC6.out
      clear HC6
      by_cases c9 : ((rd_T84 l1 x9_1).f0) < 0
      ·rw [if_pos c9] at H
       have c9b0 : decide (((rd_T84 l1 x9_1).f0) < 0) = true := decide_eq_true c9
       clear c9
       (first | rw [c9b0] | (simp only [i64_w, i32_w]; rw [c9b0]) | skip)
       have H' := q13 H
       clear H
       have hcz10_0 : w7.cell? ⟨gb330, 0, none⟩ = some (.int .i64 0) := (q9 BK330.out 0).trans rfl
       have hcz10_1 : w7.cell? ⟨gb330, 1, none⟩ = some (.int .i64 0) := (q9 BK330.out 1).trans rfl
       have hcz10_2 : w7.cell? ⟨gb330, 2, none⟩ = some (.int .i64 0) := (q9 BK330.out 2).trans rfl
       have hfz10_0 := q11 BK330.out 0
       have hfz10_1 := q11 BK330.out 1
       have hfz10_2 := q11 BK330.out 2
       go_wp2
       go_meet
       case rel => exact ⟨_, (true), (by first | rfl | (simp; done) | (simp [*]; done)), H', ⟨by have := HK1.out; first | omega | exact q17 _⟩, ⟨by (with_reducible repeat (first | refine q0 ?_ _ | refine q1 ?_ | refine q2 ?_ _)); refine blk_put (cs := #[.int .i64 ((rd_T84 l1 x9_1).f0), .int .i64 ((rd_T84 l1 x9_1).f1), .int .i64 0]) ?_ 2 _ rfl; (with_reducible repeat (first | refine q0 ?_ _ | refine q1 ?_ | refine q2 ?_ _)); refine blk_put (cs := #[.int .i64 ((rd_T84 l1 x9_1).f0), .int .i64 0, .int .i64 0]) ?_ 1 _ rfl; (with_reducible repeat (first | refine q0 ?_ _ | refine q1 ?_ | refine q2 ?_ _)); refine blk_put (cs := #[.int .i64 0, .int .i64 0, .int .i64 0]) ?_ 0 _ rfl; (with_reducible repeat (first | refine q0 ?_ _ | refine q1 ?_ | refine q2 ?_ _)); exact BK330.out⟩, ⟨by repeat (first | (with_reducible first | exact HB.out | apply q3 | apply q4 | apply q5 | refine q6 ?_ GE330.out) | exact HB.out)⟩⟩
      ·rw [if_neg c9] at H
       have c9b0 : decide (((rd_T84 l1 x9_1).f0) < 0) = false := decide_eq_false c9
       clear c9
       (first | rw [c9b0] | (simp only [i64_w, i32_w]; rw [c9b0]) | skip)
       by_cases c11 : ((rd_T84 l1 x9_1).f0) > 3
       ·rw [if_pos c11] at H
        have c11b0 : decide (3 < ((rd_T84 l1 x9_1).f0)) = true := decide_eq_true c11
        clear c11
        have H' := q13 H
        clear H
        have hcz12_0 : w7.cell? ⟨gb330, 0, none⟩ = some (.int .i64 0) := (q9 BK330.out 0).trans rfl
        have hcz12_1 : w7.cell? ⟨gb330, 1, none⟩ = some (.int .i64 0) := (q9 BK330.out 1).trans rfl
        have hcz12_2 : w7.cell? ⟨gb330, 2, none⟩ = some (.int .i64 0) := (q9 BK330.out 2).trans rfl
        have hfz12_0 := q11 BK330.out 0
        have hfz12_1 := q11 BK330.out 1
        have hfz12_2 := q11 BK330.out 2
        go_wp2
        go_meet
        case rel => exact ⟨_, (true), (by first | rfl | (simp; done) | (simp [*]; done)), H', ⟨by have := HK1.out; first | omega | exact q17 _⟩, ⟨by (with_reducible repeat (first | refine q0 ?_ _ | refine q1 ?_ | refine q2 ?_ _)); refine blk_put (cs := #[.int .i64 ((rd_T84 l1 x9_1).f0), .int .i64 ((rd_T84 l1 x9_1).f1), .int .i64 0]) ?_ 2 _ rfl; (with_reducible repeat (first | refine q0 ?_ _ | refine q1 ?_ | refine q2 ?_ _)); refine blk_put (cs := #[.int .i64 ((rd_T84 l1 x9_1).f0), .int .i64 0, .int .i64 0]) ?_ 1 _ rfl; (with_reducible repeat (first | refine q0 ?_ _ | refine q1 ?_ | refine q2 ?_ _)); refine blk_put (cs := #[.int .i64 0, .int .i64 0, .int .i64 0]) ?_ 0 _ rfl; (with_reducible repeat (first | refine q0 ?_ _ | refine q1 ?_ | refine q2 ?_ _)); exact BK330.out⟩, ⟨by repeat (first | (with_reducible first | exact HB.out | apply q3 | apply q4 | apply q5 | refine q6 ?_ GE330.out) | exact HB.out)⟩⟩
       ·rw [if_neg c11] at H
        have c11b0 : decide (3 < ((rd_T84 l1 x9_1).f0)) = false := decide_eq_false c11
        clear c11
        by_cases c13 : ((rd_T84 l1 x9_1).f0) = 2
        ·rw [if_pos c13] at H
         have c13b0 : (((rd_T84 l1 x9_1).f0) == 2) = true := beq_iff_eq.mpr c13
         have c13b1 : (((rd_T84 l1 x9_1).f0) != 2) = false := bne_eq_false_iff_eq.mpr c13
         clear c13
         by_cases c14 : ((rd_T84 l1 x9_1).f0) = 1
         ·rw [if_pos c14] at H
          exact absurd H (by simp)
         ·rw [if_neg c14] at H
          have c14b0 : (((rd_T84 l1 x9_1).f0) == 1) = false := beq_eq_false_iff_ne.mpr c14
          have c14b1 : (((rd_T84 l1 x9_1).f0) != 1) = true := bne_iff_ne.mpr c14
          by_cases c15 : ((rd_T84 l1 x9_1).f2) = x8_1
          ·rw [if_pos c15] at H
           have c15b0 : (((rd_T84 l1 x9_1).f2) == x8_1) = true := beq_iff_eq.mpr c15
           have c15b1 : (((rd_T84 l1 x9_1).f2) != x8_1) = false := bne_eq_false_iff_eq.mpr c15
           clear c15
           by_cases c16 : x8_1 ≥ (l2.length : Int)
           ·rw [if_pos c16] at H
            have c16b0 : decide ((l2.length : Int) ≤ x8_1) = true := decide_eq_true c16
            clear c16
            have H' := q13 H
            clear H
            have hcz17_0 : w7.cell? ⟨gb330, 0, none⟩ = some (.int .i64 0) := (q9 BK330.out 0).trans rfl
            have hcz17_1 : w7.cell? ⟨gb330, 1, none⟩ = some (.int .i64 0) := (q9 BK330.out 1).trans rfl
            have hcz17_2 : w7.cell? ⟨gb330, 2, none⟩ = some (.int .i64 0) := (q9 BK330.out 2).trans rfl
            have hfz17_0 := q11 BK330.out 0
            have hfz17_1 := q11 BK330.out 1
            have hfz17_2 := q11 BK330.out 2
            go_wp2
            refine Met.intro ?_
            go_step
            (repeat apply Exists.intro)
            refine ⟨?rel, ?eq⟩
            case eq => (first | rfl | (simp only [c15b1, c14b1, c13b1]; rfl))
            case rel => exact ⟨_, (true), (by first | rfl | (simp; done) | (simp [*]; done)), H', ⟨by have := HK1.out; first | omega | exact q17 _⟩, ⟨by (with_reducible repeat (first | refine q0 ?_ _ | refine q1 ?_ | refine q2 ?_ _)); refine blk_put (cs := #[.int .i64 ((rd_T84 l1 x9_1).f0), .int .i64 ((rd_T84 l1 x9_1).f1), .int .i64 0]) ?_ 2 _ rfl; (with_reducible repeat (first | refine q0 ?_ _ | refine q1 ?_ | refine q2 ?_ _)); refine blk_put (cs := #[.int .i64 ((rd_T84 l1 x9_1).f0), .int .i64 0, .int .i64 0]) ?_ 1 _ rfl; (with_reducible repeat (first | refine q0 ?_ _ | refine q1 ?_ | refine q2 ?_ _)); refine blk_put (cs := #[.int .i64 0, .int .i64 0, .int .i64 0]) ?_ 0 _ rfl; (with_reducible repeat (first | refine q0 ?_ _ | refine q1 ?_ | refine q2 ?_ _)); exact BK330.out⟩, ⟨by repeat (first | (with_reducible first | exact HB.out | apply q3 | apply q4 | apply q5 | refine q6 ?_ GE330.out) | exact HB.out)⟩⟩
           ·rw [if_neg c16] at H
            have c16b0 : decide ((l2.length : Int) ≤ x8_1) = false := decide_eq_false c16
            clear c16
            by_cases c18 : ((rd_T84 l1 x9_1).f1) = 0
            ·rw [if_pos c18] at H
             have c18b0 : (((rd_T84 l1 x9_1).f1) == 0) = true := beq_iff_eq.mpr c18
             have c18b1 : (((rd_T84 l1 x9_1).f1) != 0) = false := bne_eq_false_iff_eq.mpr c18
             clear c18
             have H' := q13 H
             clear H
             have hcz19_0 : w7.cell? ⟨gb330, 0, none⟩ = some (.int .i64 0) := (q9 BK330.out 0).trans rfl
             have hcz19_1 : w7.cell? ⟨gb330, 1, none⟩ = some (.int .i64 0) := (q9 BK330.out 1).trans rfl
             have hcz19_2 : w7.cell? ⟨gb330, 2, none⟩ = some (.int .i64 0) := (q9 BK330.out 2).trans rfl
             have hfz19_0 := q11 BK330.out 0
             have hfz19_1 := q11 BK330.out 1
             have hfz19_2 := q11 BK330.out 2
             go_wp2
             refine Met.intro ?_
             go_step
             (repeat apply Exists.intro)
             refine ⟨?rel, ?eq⟩
             case eq => (first | rfl | (simp only [c18b1, c15b1, c14b1, c13b1]; rfl))
             case rel => exact ⟨_, (false), (by first | rfl | (simp; done) | (simp [*]; done)), H', ⟨by have := HK1.out; first | omega | exact q17 _⟩, ⟨by (with_reducible repeat (first | refine q0 ?_ _ | refine q1 ?_ | refine q2 ?_ _)); refine blk_put (cs := #[.int .i64 ((rd_T84 l1 x9_1).f0), .int .i64 ((rd_T84 l1 x9_1).f1), .int .i64 0]) ?_ 2 _ rfl; (with_reducible repeat (first | refine q0 ?_ _ | refine q1 ?_ | refine q2 ?_ _)); refine blk_put (cs := #[.int .i64 ((rd_T84 l1 x9_1).f0), .int .i64 0, .int .i64 0]) ?_ 1 _ rfl; (with_reducible repeat (first | refine q0 ?_ _ | refine q1 ?_ | refine q2 ?_ _)); refine blk_put (cs := #[.int .i64 0, .int .i64 0, .int .i64 0]) ?_ 0 _ rfl; (with_reducible repeat (first | refine q0 ?_ _ | refine q1 ?_ | refine q2 ?_ _)); exact BK330.out⟩, ⟨by repeat (first | (with_reducible first | exact HB.out | apply q3 | apply q4 | apply q5 | refine q6 ?_ GE330.out) | exact HB.out)⟩⟩
            ·rw [if_neg c18] at H
             have c18b0 : (((rd_T84 l1 x9_1).f1) == 0) = false := beq_eq_false_iff_ne.mpr c18
             have c18b1 : (((rd_T84 l1 x9_1).f1) != 0) = true := bne_iff_ne.mpr c18
             have H' := q13 H
             clear H
             have hcz20_0 : w7.cell? ⟨gb330, 0, none⟩ = some (.int .i64 0) := (q9 BK330.out 0).trans rfl
             have hcz20_1 : w7.cell? ⟨gb330, 1, none⟩ = some (.int .i64 0) := (q9 BK330.out 1).trans rfl
             have hcz20_2 : w7.cell? ⟨gb330, 2, none⟩ = some (.int .i64 0) := (q9 BK330.out 2).trans rfl
             have hfz20_0 := q11 BK330.out 0
             have hfz20_1 := q11 BK330.out 1
             have hfz20_2 := q11 BK330.out 2
             go_wp2
             refine Met.intro ?_
             go_step
             (repeat apply Exists.intro)
             refine ⟨?rel, ?eq⟩
             case eq => (first | rfl | (simp only [c18b1, c18b1, c15b1, c14b1, c13b1]; rfl))
             case rel => exact ⟨_, (true), (by first | rfl | (simp; done) | (simp [*]; done)), H', ⟨by have := HK1.out; first | omega | exact q17 _⟩, ⟨by (with_reducible repeat (first | refine q0 ?_ _ | refine q1 ?_ | refine q2 ?_ _)); refine blk_put (cs := #[.int .i64 ((rd_T84 l1 x9_1).f0), .int .i64 ((rd_T84 l1 x9_1).f1), .int .i64 0]) ?_ 2 _ rfl; (with_reducible repeat (first | refine q0 ?_ _ | refine q1 ?_ | refine q2 ?_ _)); refine blk_put (cs := #[.int .i64 ((rd_T84 l1 x9_1).f0), .int .i64 0, .int .i64 0]) ?_ 1 _ rfl; (with_reducible repeat (first | refine q0 ?_ _ | refine q1 ?_ | refine q2 ?_ _)); refine blk_put (cs := #[.int .i64 0, .int .i64 0, .int .i64 0]) ?_ 0 _ rfl; (with_reducible repeat (first | refine q0 ?_ _ | refine q1 ?_ | refine q2 ?_ _)); exact BK330.out⟩, ⟨by repeat (first | (with_reducible first | exact HB.out | apply q3 | apply q4 | apply q5 | refine q6 ?_ GE330.out) | exact HB.out)⟩⟩
          ·rw [if_neg c15] at H
           have c15b0 : (((rd_T84 l1 x9_1).f2) == x8_1) = false := beq_eq_false_iff_ne.mpr c15
           have c15b1 : (((rd_T84 l1 x9_1).f2) != x8_1) = true := bne_iff_ne.mpr c15
           have H' := q13 H
           clear H
           have hcz21_0 : w7.cell? ⟨gb330, 0, none⟩ = some (.int .i64 0) := (q9 BK330.out 0).trans rfl
           have hcz21_1 : w7.cell? ⟨gb330, 1, none⟩ = some (.int .i64 0) := (q9 BK330.out 1).trans rfl
           have hcz21_2 : w7.cell? ⟨gb330, 2, none⟩ = some (.int .i64 0) := (q9 BK330.out 2).trans rfl
           have hfz21_0 := q11 BK330.out 0
           have hfz21_1 := q11 BK330.out 1
           have hfz21_2 := q11 BK330.out 2
           go_wp2
           refine Met.intro ?_
           go_step
           (repeat apply Exists.intro)
           refine ⟨?rel, ?eq⟩
           case eq => (first | rfl | (simp only [c15b1, c15b1, c14b1, c13b1]; rfl))
           case rel => exact ⟨_, (true), (by first | rfl | (simp; done) | (simp [*]; done)), H', ⟨by have := HK1.out; first | omega | exact q17 _⟩, ⟨by (with_reducible repeat (first | refine q0 ?_ _ | refine q1 ?_ | refine q2 ?_ _)); refine blk_put (cs := #[.int .i64 ((rd_T84 l1 x9_1).f0), .int .i64 ((rd_T84 l1 x9_1).f1), .int .i64 0]) ?_ 2 _ rfl; (with_reducible repeat (first | refine q0 ?_ _ | refine q1 ?_ | refine q2 ?_ _)); refine blk_put (cs := #[.int .i64 ((rd_T84 l1 x9_1).f0), .int .i64 0, .int .i64 0]) ?_ 1 _ rfl; (with_reducible repeat (first | refine q0 ?_ _ | refine q1 ?_ | refine q2 ?_ _)); refine blk_put (cs := #[.int .i64 0, .int .i64 0, .int .i64 0]) ?_ 0 _ rfl; (with_reducible repeat (first | refine q0 ?_ _ | refine q1 ?_ | refine q2 ?_ _)); exact BK330.out⟩, ⟨by repeat (first | (with_reducible first | exact HB.out | apply q3 | apply q4 | apply q5 | refine q6 ?_ GE330.out) | exact HB.out)⟩⟩
        ·rw [if_neg c13] at H
         have c13b0 : (((rd_T84 l1 x9_1).f0) == 2) = false := beq_eq_false_iff_ne.mpr c13
         have c13b1 : (((rd_T84 l1 x9_1).f0) != 2) = true := bne_iff_ne.mpr c13
         by_cases c22 : ((rd_T84 l1 x9_1).f1) = x7_1
         ·rw [if_pos c22] at H
          have c22b0 : (((rd_T84 l1 x9_1).f1) == x7_1) = true := beq_iff_eq.mpr c22
          have c22b1 : (((rd_T84 l1 x9_1).f1) != x7_1) = false := bne_eq_false_iff_eq.mpr c22
          clear c22
          by_cases c23 : x7_1 ≥ (l0.length : Int)
          ·rw [if_pos c23] at H
           have c23b0 : decide ((l0.length : Int) ≤ x7_1) = true := decide_eq_true c23
           clear c23
           have H' := q13 H
           clear H
           have hcz24_0 : w7.cell? ⟨gb330, 0, none⟩ = some (.int .i64 0) := (q9 BK330.out 0).trans rfl
           have hcz24_1 : w7.cell? ⟨gb330, 1, none⟩ = some (.int .i64 0) := (q9 BK330.out 1).trans rfl
           have hcz24_2 : w7.cell? ⟨gb330, 2, none⟩ = some (.int .i64 0) := (q9 BK330.out 2).trans rfl
           have hfz24_0 := q11 BK330.out 0
           have hfz24_1 := q11 BK330.out 1
           have hfz24_2 := q11 BK330.out 2
           go_wp2
           refine Met.intro ?_
           go_step
           (repeat apply Exists.intro)
           refine ⟨?rel, ?eq⟩
           case eq => (first | rfl | (simp only [c22b1, c13b1, c13b1]; rfl))
           case rel => exact ⟨_, (true), (by first | rfl | (simp; done) | (simp [*]; done)), H', ⟨by have := HK1.out; first | omega | exact q17 _⟩, ⟨by (with_reducible repeat (first | refine q0 ?_ _ | refine q1 ?_ | refine q2 ?_ _)); refine blk_put (cs := #[.int .i64 ((rd_T84 l1 x9_1).f0), .int .i64 ((rd_T84 l1 x9_1).f1), .int .i64 0]) ?_ 2 _ rfl; (with_reducible repeat (first | refine q0 ?_ _ | refine q1 ?_ | refine q2 ?_ _)); refine blk_put (cs := #[.int .i64 ((rd_T84 l1 x9_1).f0), .int .i64 0, .int .i64 0]) ?_ 1 _ rfl; (with_reducible repeat (first | refine q0 ?_ _ | refine q1 ?_ | refine q2 ?_ _)); refine blk_put (cs := #[.int .i64 0, .int .i64 0, .int .i64 0]) ?_ 0 _ rfl; (with_reducible repeat (first | refine q0 ?_ _ | refine q1 ?_ | refine q2 ?_ _)); exact BK330.out⟩, ⟨by repeat (first | (with_reducible first | exact HB.out | apply q3 | apply q4 | apply q5 | refine q6 ?_ GE330.out) | exact HB.out)⟩⟩
          ·rw [if_neg c23] at H
           have c23b0 : decide ((l0.length : Int) ≤ x7_1) = false := decide_eq_false c23
           clear c23
           by_cases c25 : ((rd_T84 l1 x9_1).f0) = 1
           ·rw [if_pos c25] at H
            have c25b0 : (((rd_T84 l1 x9_1).f0) == 1) = true := beq_iff_eq.mpr c25
            have c25b1 : (((rd_T84 l1 x9_1).f0) != 1) = false := bne_eq_false_iff_eq.mpr c25
            clear c25
            have H' := q13 H
            clear H
            have hcz26_0 : w7.cell? ⟨gb330, 0, none⟩ = some (.int .i64 0) := (q9 BK330.out 0).trans rfl
            have hcz26_1 : w7.cell? ⟨gb330, 1, none⟩ = some (.int .i64 0) := (q9 BK330.out 1).trans rfl
            have hcz26_2 : w7.cell? ⟨gb330, 2, none⟩ = some (.int .i64 0) := (q9 BK330.out 2).trans rfl
            have hfz26_0 := q11 BK330.out 0
            have hfz26_1 := q11 BK330.out 1
            have hfz26_2 := q11 BK330.out 2
            go_wp2
            refine Met.intro ?_
            go_step
            (repeat apply Exists.intro)
            refine ⟨?rel, ?eq⟩
            case eq => (first | rfl | (simp only [c25b1, c22b1, c13b1, c13b1]; rfl))
            case rel => exact ⟨_, ((((rd_T84 l1 x9_1).f2) != 0)), (by first | rfl | (simp; done) | (simp [*]; done)), H', ⟨by have := HK1.out; first | omega | exact q17 _⟩, ⟨by (with_reducible repeat (first | refine q0 ?_ _ | refine q1 ?_ | refine q2 ?_ _)); refine blk_put (cs := #[.int .i64 ((rd_T84 l1 x9_1).f0), .int .i64 ((rd_T84 l1 x9_1).f1), .int .i64 0]) ?_ 2 _ rfl; (with_reducible repeat (first | refine q0 ?_ _ | refine q1 ?_ | refine q2 ?_ _)); refine blk_put (cs := #[.int .i64 ((rd_T84 l1 x9_1).f0), .int .i64 0, .int .i64 0]) ?_ 1 _ rfl; (with_reducible repeat (first | refine q0 ?_ _ | refine q1 ?_ | refine q2 ?_ _)); refine blk_put (cs := #[.int .i64 0, .int .i64 0, .int .i64 0]) ?_ 0 _ rfl; (with_reducible repeat (first | refine q0 ?_ _ | refine q1 ?_ | refine q2 ?_ _)); exact BK330.out⟩, ⟨by repeat (first | (with_reducible first | exact HB.out | apply q3 | apply q4 | apply q5 | refine q6 ?_ GE330.out) | exact HB.out)⟩⟩
           ·rw [if_neg c25] at H
            have c25b0 : (((rd_T84 l1 x9_1).f0) == 1) = false := beq_eq_false_iff_ne.mpr c25
            have c25b1 : (((rd_T84 l1 x9_1).f0) != 1) = true := bne_iff_ne.mpr c25
            by_cases c27 : ((rd_T84 l1 x9_1).f2) = x8_1
            ·rw [if_pos c27] at H
             have c27b0 : (((rd_T84 l1 x9_1).f2) == x8_1) = true := beq_iff_eq.mpr c27
             have c27b1 : (((rd_T84 l1 x9_1).f2) != x8_1) = false := bne_eq_false_iff_eq.mpr c27
             clear c27
             by_cases c28 : x8_1 ≥ (l2.length : Int)
             ·rw [if_pos c28] at H
              have c28b0 : decide ((l2.length : Int) ≤ x8_1) = true := decide_eq_true c28
              clear c28
              have H' := q13 H
              clear H
              have hcz29_0 : w7.cell? ⟨gb330, 0, none⟩ = some (.int .i64 0) := (q9 BK330.out 0).trans rfl
              have hcz29_1 : w7.cell? ⟨gb330, 1, none⟩ = some (.int .i64 0) := (q9 BK330.out 1).trans rfl
              have hcz29_2 : w7.cell? ⟨gb330, 2, none⟩ = some (.int .i64 0) := (q9 BK330.out 2).trans rfl
              have hfz29_0 := q11 BK330.out 0
              have hfz29_1 := q11 BK330.out 1
              have hfz29_2 := q11 BK330.out 2
              go_wp2
              refine Met.intro ?_
              go_step
              (repeat apply Exists.intro)
              refine ⟨?rel, ?eq⟩
              case eq => (first | rfl | (simp only [c27b1, c25b1, c25b1, c22b1, c13b1, c13b1]; rfl))
              case rel => exact ⟨_, (true), (by first | rfl | (simp; done) | (simp [*]; done)), H', ⟨by have := HK1.out; first | omega | exact q17 _⟩, ⟨by (with_reducible repeat (first | refine q0 ?_ _ | refine q1 ?_ | refine q2 ?_ _)); refine blk_put (cs := #[.int .i64 ((rd_T84 l1 x9_1).f0), .int .i64 ((rd_T84 l1 x9_1).f1), .int .i64 0]) ?_ 2 _ rfl; (with_reducible repeat (first | refine q0 ?_ _ | refine q1 ?_ | refine q2 ?_ _)); refine blk_put (cs := #[.int .i64 ((rd_T84 l1 x9_1).f0), .int .i64 0, .int .i64 0]) ?_ 1 _ rfl; (with_reducible repeat (first | refine q0 ?_ _ | refine q1 ?_ | refine q2 ?_ _)); refine blk_put (cs := #[.int .i64 0, .int .i64 0, .int .i64 0]) ?_ 0 _ rfl; (with_reducible repeat (first | refine q0 ?_ _ | refine q1 ?_ | refine q2 ?_ _)); exact BK330.out⟩, ⟨by repeat (first | (with_reducible first | exact HB.out | apply q3 | apply q4 | apply q5 | refine q6 ?_ GE330.out) | exact HB.out)⟩⟩
             ·rw [if_neg c28] at H
              have c28b0 : decide ((l2.length : Int) ≤ x8_1) = false := decide_eq_false c28
              clear c28
              have H' := q13 H
              clear H
              have hcz30_0 : w7.cell? ⟨gb330, 0, none⟩ = some (.int .i64 0) := (q9 BK330.out 0).trans rfl
              have hcz30_1 : w7.cell? ⟨gb330, 1, none⟩ = some (.int .i64 0) := (q9 BK330.out 1).trans rfl
              have hcz30_2 : w7.cell? ⟨gb330, 2, none⟩ = some (.int .i64 0) := (q9 BK330.out 2).trans rfl
              have hfz30_0 := q11 BK330.out 0
              have hfz30_1 := q11 BK330.out 1
              have hfz30_2 := q11 BK330.out 2
              go_wp2
              refine Met.intro ?_
              go_step
              (repeat apply Exists.intro)
              refine ⟨?rel, ?eq⟩
              case eq => (first | rfl | (simp only [c27b1, c25b1, c25b1, c22b1, c13b1, c13b1]; rfl))
              case rel => exact ⟨_, (false), (by first | rfl | (simp; done) | (simp [*]; done)), H', ⟨by have := HK1.out; first | omega | exact q17 _⟩, ⟨by (with_reducible repeat (first | refine q0 ?_ _ | refine q1 ?_ | refine q2 ?_ _)); refine blk_put (cs := #[.int .i64 ((rd_T84 l1 x9_1).f0), .int .i64 ((rd_T84 l1 x9_1).f1), .int .i64 0]) ?_ 2 _ rfl; (with_reducible repeat (first | refine q0 ?_ _ | refine q1 ?_ | refine q2 ?_ _)); refine blk_put (cs := #[.int .i64 ((rd_T84 l1 x9_1).f0), .int .i64 0, .int .i64 0]) ?_ 1 _ rfl; (with_reducible repeat (first | refine q0 ?_ _ | refine q1 ?_ | refine q2 ?_ _)); refine blk_put (cs := #[.int .i64 0, .int .i64 0, .int .i64 0]) ?_ 0 _ rfl; (with_reducible repeat (first | refine q0 ?_ _ | refine q1 ?_ | refine q2 ?_ _)); exact BK330.out⟩, ⟨by repeat (first | (with_reducible first | exact HB.out | apply q3 | apply q4 | apply q5 | refine q6 ?_ GE330.out) | exact HB.out)⟩⟩
            ·rw [if_neg c27] at H
             have c27b0 : (((rd_T84 l1 x9_1).f2) == x8_1) = false := beq_eq_false_iff_ne.mpr c27
             have c27b1 : (((rd_T84 l1 x9_1).f2) != x8_1) = true := bne_iff_ne.mpr c27
             have H' := q13 H
             clear H
             have hcz31_0 : w7.cell? ⟨gb330, 0, none⟩ = some (.int .i64 0) := (q9 BK330.out 0).trans rfl
             have hcz31_1 : w7.cell? ⟨gb330, 1, none⟩ = some (.int .i64 0) := (q9 BK330.out 1).trans rfl
             have hcz31_2 : w7.cell? ⟨gb330, 2, none⟩ = some (.int .i64 0) := (q9 BK330.out 2).trans rfl
             have hfz31_0 := q11 BK330.out 0
             have hfz31_1 := q11 BK330.out 1
             have hfz31_2 := q11 BK330.out 2
             go_wp2
             refine Met.intro ?_
             go_step
             (repeat apply Exists.intro)
             refine ⟨?rel, ?eq⟩
             case eq => (first | rfl | (simp only [c27b1, c27b1, c25b1, c25b1, c22b1, c13b1, c13b1]; rfl))
             case rel => exact ⟨_, (true), (by first | rfl | (simp; done) | (simp [*]; done)), H', ⟨by have := HK1.out; first | omega | exact q17 _⟩, ⟨by (with_reducible repeat (first | refine q0 ?_ _ | refine q1 ?_ | refine q2 ?_ _)); refine blk_put (cs := #[.int .i64 ((rd_T84 l1 x9_1).f0), .int .i64 ((rd_T84 l1 x9_1).f1), .int .i64 0]) ?_ 2 _ rfl; (with_reducible repeat (first | refine q0 ?_ _ | refine q1 ?_ | refine q2 ?_ _)); refine blk_put (cs := #[.int .i64 ((rd_T84 l1 x9_1).f0), .int .i64 0, .int .i64 0]) ?_ 1 _ rfl; (with_reducible repeat (first | refine q0 ?_ _ | refine q1 ?_ | refine q2 ?_ _)); refine blk_put (cs := #[.int .i64 0, .int .i64 0, .int .i64 0]) ?_ 0 _ rfl; (with_reducible repeat (first | refine q0 ?_ _ | refine q1 ?_ | refine q2 ?_ _)); exact BK330.out⟩, ⟨by repeat (first | (with_reducible first | exact HB.out | apply q3 | apply q4 | apply q5 | refine q6 ?_ GE330.out) | exact HB.out)⟩⟩
         ·rw [if_neg c22] at H
          have c22b0 : (((rd_T84 l1 x9_1).f1) == x7_1) = false := beq_eq_false_iff_ne.mpr c22
          have c22b1 : (((rd_T84 l1 x9_1).f1) != x7_1) = true := bne_iff_ne.mpr c22
          have H' := q13 H
          clear H
          have hcz32_0 : w7.cell? ⟨gb330, 0, none⟩ = some (.int .i64 0) := (q9 BK330.out 0).trans rfl
          have hcz32_1 : w7.cell? ⟨gb330, 1, none⟩ = some (.int .i64 0) := (q9 BK330.out 1).trans rfl
          have hcz32_2 : w7.cell? ⟨gb330, 2, none⟩ = some (.int .i64 0) := (q9 BK330.out 2).trans rfl
          have hfz32_0 := q11 BK330.out 0
          have hfz32_1 := q11 BK330.out 1
          have hfz32_2 := q11 BK330.out 2
          go_wp2
          refine Met.intro ?_
          go_step
          (repeat apply Exists.intro)
          refine ⟨?rel, ?eq⟩
          case eq => (first | rfl | (simp only [c22b1, c22b1, c13b1, c13b1]; rfl))
          case rel => exact ⟨_, (true), (by first | rfl | (simp; done) | (simp [*]; done)), H', ⟨by have := HK1.out; first | omega | exact q17 _⟩, ⟨by (with_reducible repeat (first | refine q0 ?_ _ | refine q1 ?_ | refine q2 ?_ _)); refine blk_put (cs := #[.int .i64 ((rd_T84 l1 x9_1).f0), .int .i64 ((rd_T84 l1 x9_1).f1), .int .i64 0]) ?_ 2 _ rfl; (with_reducible repeat (first | refine q0 ?_ _ | refine q1 ?_ | refine q2 ?_ _)); refine blk_put (cs := #[.int .i64 ((rd_T84 l1 x9_1).f0), .int .i64 0, .int .i64 0]) ?_ 1 _ rfl; (with_reducible repeat (first | refine q0 ?_ _ | refine q1 ?_ | refine q2 ?_ _)); refine blk_put (cs := #[.int .i64 0, .int .i64 0, .int .i64 0]) ?_ 0 _ rfl; (with_reducible repeat (first | refine q0 ?_ _ | refine q1 ?_ | refine q2 ?_ _)); exact BK330.out⟩, ⟨by repeat (first | (with_reducible first | exact HB.out | apply q3 | apply q4 | apply q5 | refine q6 ?_ GE330.out) | exact HB.out)⟩⟩
     case rest =>
      clear HC6
      try clear c1
      try clear c2
      try clear p2
      try clear c3
      try clear p3
      try clear q3
      try clear hx3
      try clear c4
      try clear c4b0
      try clear c5
      try clear c5b0
      try clear c9
      try clear c9b0
      try clear c11
      try clear c11b0
      try clear c13
      try clear c13b0
      try clear c13b1
      try clear c14
      try clear c14b0
      try clear c14b1
      try clear c15
      try clear c15b0
      try clear c15b1
      try clear c16
      try clear c16b0
      try clear c18
      try clear c18b0
      try clear c18b1
      try clear c22
      try clear c22b0
      try clear c22b1
      try clear c23
      try clear c23b0
      try clear c25
      try clear c25b0
      try clear c25b1
      try clear c27
      try clear c27b0
      try clear c27b1
      try clear c28
      try clear c28b0
      try clear p32
      try clear q32
      try clear hx32
      try clear hx329_0
      try clear hx329_1
      try clear hx329_2
      try clear p2
      try clear p329
      try clear q329
      obtain ⟨kq, x84_5, rfl, HA, HJ5, BK330, HB⟩ := hcut
      cases kq with
      | zero => exact absurd HA.out (by simp [frisketref36_Right.j1])
      | succ kj5 =>
       have H := HA.out
       clear HA
       simp only [frisketref36_Right.j1] at H
       by_cases c33 : x84_5 = true
       ·subst c33
        have H1 : (some false) = some r := by rw [if_pos rfl] at H; exact H
        clear H
        have H := H1
        clear H1
        obtain rfl := Option.some.inj H
        go_wp2
        go_ret
        exact ⟨by first | rfl | (simp [errW_none, errW_some] <;> rfl) | (simp [*, errW_none, errW_some] <;> rfl), by repeat (first | (with_reducible first | exact HB.out | apply q3 | apply q4 | apply q5 | refine q6 ?_ GE330.out) | exact HB.out)⟩
       ·replace c33 := Bool.eq_false_iff.mpr c33
        subst c33
        have H1 : (if ((rd_T84 l1 x9_1).f0) = 0 then (if 0 ≤ x7_1 then (if x7_1 < (l0.length : Int) then (if 0 ≤ x8_1 then (if x8_1 < (l2.length : Int) then ((frisketref36_Same.f kj5 ((rd_T35 l0 x7_1).f0) ((rd_T35 l0 x7_1).f1) ((rd_T35 l2 x8_1).f0) ((rd_T35 l2 x8_1).f1)).bind fun t333 => (if (t333 = true) then (if ((rd_T84 l1 x9_1).f0) = 3 then (none) else (frisketref36_Right.j2 kj5 l0 l1 l2 x7_1 x8_1 x9_1 (((rd_T84 l1 x9_1).f0) != 2) (((rd_T84 l1 x9_1).f0) != 1) false)) else (frisketref36_Right.j2 kj5 l0 l1 l2 x7_1 x8_1 x9_1 (((rd_T84 l1 x9_1).f0) != 2) (((rd_T84 l1 x9_1).f0) != 1) true))) else (none)) else (none)) else (none)) else (none)) else (if ((rd_T84 l1 x9_1).f0) = 3 then (if 0 ≤ x7_1 then (if x7_1 < (l0.length : Int) then (if 0 ≤ x8_1 then (if x8_1 < (l2.length : Int) then (if ((rd_T35 l0 x7_1).f0) = ((rd_T35 l2 x8_1).f0) then ((frisketref36_Same.f kj5 ((rd_T35 l0 x7_1).f0) ((rd_T35 l0 x7_1).f1) ((rd_T35 l2 x8_1).f0) ((rd_T35 l2 x8_1).f1)).bind fun t338 => (frisketref36_Right.j2 kj5 l0 l1 l2 x7_1 x8_1 x9_1 (((rd_T84 l1 x9_1).f0) != 2) (((rd_T84 l1 x9_1).f0) != 1) t338)) else (frisketref36_Right.j2 kj5 l0 l1 l2 x7_1 x8_1 x9_1 (((rd_T84 l1 x9_1).f0) != 2) (((rd_T84 l1 x9_1).f0) != 1) true)) else (none)) else (none)) else (none)) else (none)) else (frisketref36_Right.j2 kj5 l0 l1 l2 x7_1 x8_1 x9_1 (((rd_T84 l1 x9_1).f0) != 2) (((rd_T84 l1 x9_1).f0) != 1) false))) = some r := by rw [if_neg (show ¬ (false = true) by decide)] at H; exact H
        clear H
        have H := H1
        clear H1
        have HC34 := q13 H
        clear H
        go_upto_region 10 with (fail)
        go_cut [128] (fun v128 wc => ∃ (kq : Nat) (x128_33 : Bool), v128 = .bool x128_33 ∧ Aside0 (frisketref36_Right.j2 kq l0 l1 l2 x7_1 x8_1 x9_1 (((rd_T84 l1 x9_1).f0) != 2) (((rd_T84 l1 x9_1).f0) != 1) x128_33 = some r) ∧ Aside0 (kq ≤ kj5) ∧ Aside0 (wc.heap[gb330]? = some (.cells #[.int .i64 ((rd_T84 l1 x9_1).f0), .int .i64 ((rd_T84 l1 x9_1).f1), .int .i64 ((rd_T84 l1 x9_1).f2)] 84 (0, 0))) ∧ Aside0 (Below w.heap.size w wc))
        case first =>
         have H := HC34.out
         clear HC34
         by_cases c35 : ((rd_T84 l1 x9_1).f0) = 0
         ·rw [if_pos c35] at H
          have c35b0 : (((rd_T84 l1 x9_1).f0) == 0) = true := beq_iff_eq.mpr c35
          have c35b1 : (((rd_T84 l1 x9_1).f0) != 0) = false := bne_eq_false_iff_eq.mpr c35
          clear c35
          (first | rw [c35b0] | (simp only [i64_w, i32_w]; rw [c35b0]) | skip)
          by_cases c36 : 0 ≤ x7_1
          ·rw [if_pos c36] at H
           have c36b0 : decide (0 ≤ x7_1) = true := decide_eq_true c36
           clear c36
           by_cases c37 : x7_1 < (l0.length : Int)
           ·rw [if_pos c37] at H
            have c37b0 : decide (x7_1 < (l0.length : Int)) = true := decide_eq_true c37
            clear c37
            by_cases c38 : 0 ≤ x8_1
            ·rw [if_pos c38] at H
             have c38b0 : decide (0 ≤ x8_1) = true := decide_eq_true c38
             clear c38
             by_cases c39 : x8_1 < (l2.length : Int)
             ·rw [if_pos c39] at H
              have c39b0 : decide (x8_1 < (l2.length : Int)) = true := decide_eq_true c39
              clear c39
              replace H := Option.bind_eq_some_iff.mp H
              obtain ⟨t333, A400, H⟩ := H
              replace H : (if (t333 = true) then (if ((rd_T84 l1 x9_1).f0) = 3 then (none) else (frisketref36_Right.j2 kj5 l0 l1 l2 x7_1 x8_1 x9_1 (((rd_T84 l1 x9_1).f0) != 2) (((rd_T84 l1 x9_1).f0) != 1) false)) else (frisketref36_Right.j2 kj5 l0 l1 l2 x7_1 x8_1 x9_1 (((rd_T84 l1 x9_1).f0) != 2) (((rd_T84 l1 x9_1).f0) != 1) true)) = some r := H
              have A40 := q13 A400
              clear A400
              by_cases c41 : (t333 = true)
              ·subst c41
               have H1 : (if ((rd_T84 l1 x9_1).f0) = 3 then (none) else (frisketref36_Right.j2 kj5 l0 l1 l2 x7_1 x8_1 x9_1 (((rd_T84 l1 x9_1).f0) != 2) (((rd_T84 l1 x9_1).f0) != 1) false)) = some r := by rw [if_pos rfl] at H; exact H
               clear H
               have H := H1
               clear H1
               by_cases c42 : ((rd_T84 l1 x9_1).f0) = 3
               ·rw [if_pos c42] at H
                exact absurd H (by simp)
               ·rw [if_neg c42] at H
                have c42b0 : (((rd_T84 l1 x9_1).f0) == 3) = false := beq_eq_false_iff_ne.mpr c42
                have c42b1 : (((rd_T84 l1 x9_1).f0) != 3) = true := bne_iff_ne.mpr c42
                have H' := q13 H
                clear H
                try go_wp2
                have n0_ := q13 (q1 BK330.out)
                have n1_ := q13 (q5 HB.out)
                clear BK330
                clear HB
                have BK330 := n0_
                have HB := n1_
                clear n0_ n1_
                have p331 : 0 ≤ (x7_1 : Int) := q15 (by assumption)
                have q331 : x7_1 < (l0.length : Int) := q15 (by assumption)
                obtain ⟨ad331, A331_1, c331_1, e331, hx331_0, hx331_1, hl331_1, hi331_1⟩ := at_T35 HR0.out x7_1 p331 q331
                have hw331_1 := hx331_1
                have hw331_0 := hx331_0
                cases e331
                replace hx331_0 := cl HB.out hx331_0
                replace hx331_1 := cl HB.out hx331_1
                have HR331_1 := q13 hi331_1
                have HC331_1 := q13 hl331_1
                clear hi331_1 hl331_1
                replace p331 := eq_true p331
                replace q331 := eq_true q331
                have p332 : 0 ≤ (x8_1 : Int) := q15 (by assumption)
                have q332 : x8_1 < (l2.length : Int) := q15 (by assumption)
                obtain ⟨ad332, A332_1, c332_1, e332, hx332_0, hx332_1, hl332_1, hi332_1⟩ := at_T35 HR2.out x8_1 p332 q332
                have hw332_1 := hx332_1
                have hw332_0 := hx332_0
                cases e332
                replace hx332_0 := cl HB.out hx332_0
                replace hx332_1 := cl HB.out hx332_1
                have HR332_1 := q13 hi332_1
                have HC332_1 := q13 hl332_1
                clear hi332_1 hl332_1
                replace p332 := eq_true p332
                replace q332 := eq_true q332
                refine start_ (n := 44) (S := fun w' => w'.cell? ⟨gb330, 0, none⟩ = some (.int .i64 ((rd_T84 l1 x9_1).f0)) ∧ w'.cell? ⟨gb330, 1, none⟩ = some (.int .i64 ((rd_T84 l1 x9_1).f1)) ∧ w'.cell? ⟨gb330, 2, none⟩ = some (.int .i64 ((rd_T84 l1 x9_1).f2)) ∧ w'.cell? (ad331.add ((x7_1).toNat * 2)) = some (.int .i64 ((rd_T35 l0 x7_1).f0)) ∧ w'.cell? ⟨(ad331.add ((x7_1).toNat * 2)).block, (ad331.add ((x7_1).toNat * 2)).off + 1, none⟩ = some (.slice A331_1 ((rd_T35 l0 x7_1).f1).length c331_1) ∧ w'.cell? (ad332.add ((x8_1).toNat * 2)) = some (.int .i64 ((rd_T35 l2 x8_1).f0)) ∧ w'.cell? ⟨(ad332.add ((x8_1).toNat * 2)).block, (ad332.add ((x8_1).toNat * 2)).off + 1, none⟩ = some (.slice A332_1 ((rd_T35 l2 x8_1).f1).length c332_1)) (ds := []) (Array.replicate 44 false) (by kernel_rfl) rfl rfl ⟨(q9 BK330.out 0).trans rfl, (q9 BK330.out 1).trans rfl, (q9 BK330.out 2).trans rfl, (cl HB.out hw331_0), (cl HB.out hw331_1), (cl HB.out hw332_0), (cl HB.out hw332_1)⟩ (fun hHeld => ?_); refine with_tabW frisketref36_Right.tab10 frisketref36_Right.bits10 (fun HT_ HW_ => ?_)
                generalize wc.drew = w43 at BK330 HB HR331_1 HR332_1 hx331_0 hx331_1 hx332_0 hx332_1 hHeld ⊢
                refine go_in [0, 1, 2, 3, 4, 5, 6, 8, 9, 10, 7, 11] ?_
                repeat (first | (refine pz (v := ?_) (a' := ?_) HT_ rfl rfl (by kernel_rfl) (fun _ _ _ h => h) (Or.inl ⟨by rfl, ?_⟩) ?_ ?_; rotate_left; (focus intro w'; go_simp; with_reducible rfl); rotate_left; (focus simp only [Act.put, List.setIfInBounds_toArray, List.set_cons_zero, List.set_cons_succ, i64_w, i32_w, u8_w, u8_tm, u8_c, u8_cm]; rfl)) | (refine tz (v := ?_) (a' := ?_) HT_ HW_ rfl rfl hHeld (by kernel_rfl) (fun _ _ _ h => h) (Or.inl ⟨by rfl, ?_⟩) ?_ ?_; rotate_left; (focus rintro w' ⟨s0, s1, s2, s3, s4, s5, s6⟩; go_simp; with_reducible rfl); rotate_left; (focus simp only [Act.put, List.setIfInBounds_toArray, List.set_cons_zero, List.set_cons_succ, i64_w, i32_w, u8_w, u8_tm, u8_c, u8_cm]; rfl)))
                refine go_out ?_
                refine one_ (i := 12) (N := some 97) (fl 44 13 []) rfl rfl (one_of HT_.out (by kernel_rfl)) (by decide) (fun K hK => ?_)
                refine goes_ Try.func14 (by kernel_rfl) rfl #[.agg #[.int .i64 ((rd_T35 l0 x7_1).f0), .slice A331_1 ((rd_T35 l0 x7_1).f1).length c331_1], .agg #[.int .i64 ((rd_T35 l2 x8_1).f0), .slice A332_1 ((rd_T35 l2 x8_1).f1).length c332_1]] (by rfl) rfl rfl (by (try simp only [List.map_toArray, List.map_cons, List.map_nil]); first | done | rfl | (simp only [List.length_drop, List.length_take]; rfl)) ?_
                with_reducible refine (frisketref36_Same.calls kj5 ((rd_T35 l0 x7_1).f0) _ _ ((rd_T35 l0 x7_1).f1) ((rd_T35 l2 x8_1).f0) _ _ ((rd_T35 l2 x8_1).f1) true _ ?side1 ?side2 ?side3 ?side4 A40.out).mono ?_
                (case side1 => repeat (first | exact (Kd.C_below HR331_1.out HB.out) | (with_reducible refine q18 ?_ _) | (with_reducible refine q19 ?_ _) | (with_reducible refine q20 ?_)))
                (case side2 => exact HC331_1.out)
                (case side3 => repeat (first | exact (Kd.C_below HR332_1.out HB.out) | (with_reducible refine q18 ?_ _) | (with_reducible refine q19 ?_ _) | (with_reducible refine q20 ?_)))
                (case side4 => exact HC332_1.out)
                rintro e w44 ⟨rfl, hb⟩
                refine ⟨_, rfl, ?_⟩
                have n0_ := q13 (q8 (g := gb330) (o := .cells #[.int .i64 ((rd_T84 l1 x9_1).f0), .int .i64 ((rd_T84 l1 x9_1).f1), .int .i64 ((rd_T84 l1 x9_1).f2)] 84 (0, 0)) (gK BK330) hb)
                have n1_ := q13 (q12 (by repeat (first | (with_reducible first | exact HB.out | apply q3 | apply q4 | apply q5 | refine q6 ?_ GE330.out) | exact HB.out)) hb)
                clear BK330
                clear HB
                have BK330 := n0_
                have HB := n1_
                clear n0_ n1_
                (try clear hb)
                (try clear hb2)
                (try clear hk)
                (try clear hi)
                refine hK.out _ _ ⟨(q9 BK330.out 0).trans rfl, (q9 BK330.out 1).trans rfl, (q9 BK330.out 2).trans rfl, (cl HB.out hw331_0), (cl HB.out hw331_1), (cl HB.out hw332_0), (cl HB.out hw332_1)⟩ (fun hHeld => ?_)
                clear hK K
                refine norm_ (a' := ?_) ?_ ?_
                rotate_left
                ·show Act.put _ (some 97) _ = _
                 simp only [Act.put, List.setIfInBounds_toArray, List.set_cons_zero, List.set_cons_succ, i64_w, i32_w]
                 rfl
                refine go_in [13, 14, 15, 16, 17, 18, 19, 20, 21, 22, 23, 24, 25, 26, 27, 28, 29, 30, 31, 32, 33, 34, 35, 36, 37, 38, 39, 40, 41, 42, 43] ?_
                repeat (first | (refine pz (v := ?_) (a' := ?_) HT_ rfl rfl (by kernel_rfl) (fun _ _ _ h => h) (Or.inl ⟨by rfl, ?_⟩) ?_ ?_; rotate_left; (focus intro w'; go_simp; with_reducible rfl); rotate_left; (focus simp only [Act.put, List.setIfInBounds_toArray, List.set_cons_zero, List.set_cons_succ, i64_w, i32_w, u8_w, u8_tm, u8_c, u8_cm]; rfl)) | (refine tz (v := ?_) (a' := ?_) HT_ HW_ rfl rfl hHeld (by kernel_rfl) (fun _ _ _ h => h) (Or.inl ⟨by rfl, ?_⟩) ?_ ?_; rotate_left; (focus rintro w' ⟨s0, s1, s2, s3, s4, s5, s6⟩; go_simp; with_reducible rfl); rotate_left; (focus simp only [Act.put, List.setIfInBounds_toArray, List.set_cons_zero, List.set_cons_succ, i64_w, i32_w, u8_w, u8_tm, u8_c, u8_cm]; rfl)) | (refine pz (v := undef) (a' := ?_) HT_ rfl rfl (by kernel_rfl) (fun _ _ _ h => h) (Or.inr ⟨by rfl, rfl⟩) ?_ ?_; rotate_left; (focus simp only [Act.put, List.setIfInBounds_toArray, List.set_cons_zero, List.set_cons_succ, i64_w, i32_w, u8_w, u8_tm, u8_c, u8_cm]; rfl)))
                refine go_out ?_
                refine done_ (done_of HT_.out (by kernel_rfl)) ?_
                try go_wp2
                refine Met.intro ?_
                go_step
                (repeat apply Exists.intro)
                refine ⟨?rel, ?eq⟩
                case eq => (first | rfl | (simp only [c42b1, c35b1]; rfl))
                case rel => exact ⟨_, (false), (by first | rfl | (simp; done) | (simp [*]; done)), H', ⟨by have := HK1.out; have := HJ5.out; first | omega | exact q17 _⟩, ⟨by (with_reducible repeat (first | refine q0 ?_ _ | refine q1 ?_ | refine q2 ?_ _)); exact BK330.out⟩, ⟨by repeat (first | (with_reducible first | exact HB.out | apply q3 | apply q4 | apply q5 | refine q6 ?_ GE330.out) | exact HB.out)⟩⟩
              ·replace c41 := Bool.eq_false_iff.mpr c41
               subst c41
               have H1 : (frisketref36_Right.j2 kj5 l0 l1 l2 x7_1 x8_1 x9_1 (((rd_T84 l1 x9_1).f0) != 2) (((rd_T84 l1 x9_1).f0) != 1) true) = some r := by rw [if_neg (show ¬ (false = true) by decide)] at H; exact H
               clear H
               have H := H1
               clear H1
               have H' := q13 H
               clear H
               try go_wp2
               have n0_ := q13 (q1 BK330.out)
               have n1_ := q13 (q5 HB.out)
               clear BK330
               clear HB
               have BK330 := n0_
               have HB := n1_
               clear n0_ n1_
               have p331 : 0 ≤ (x7_1 : Int) := q15 (by assumption)
               have q331 : x7_1 < (l0.length : Int) := q15 (by assumption)
               obtain ⟨ad331, A331_1, c331_1, e331, hx331_0, hx331_1, hl331_1, hi331_1⟩ := at_T35 HR0.out x7_1 p331 q331
               have hw331_1 := hx331_1
               have hw331_0 := hx331_0
               cases e331
               replace hx331_0 := cl HB.out hx331_0
               replace hx331_1 := cl HB.out hx331_1
               have HR331_1 := q13 hi331_1
               have HC331_1 := q13 hl331_1
               clear hi331_1 hl331_1
               replace p331 := eq_true p331
               replace q331 := eq_true q331
               have p332 : 0 ≤ (x8_1 : Int) := q15 (by assumption)
               have q332 : x8_1 < (l2.length : Int) := q15 (by assumption)
               obtain ⟨ad332, A332_1, c332_1, e332, hx332_0, hx332_1, hl332_1, hi332_1⟩ := at_T35 HR2.out x8_1 p332 q332
               have hw332_1 := hx332_1
               have hw332_0 := hx332_0
               cases e332
               replace hx332_0 := cl HB.out hx332_0
               replace hx332_1 := cl HB.out hx332_1
               have HR332_1 := q13 hi332_1
               have HC332_1 := q13 hl332_1
               clear hi332_1 hl332_1
               replace p332 := eq_true p332
               replace q332 := eq_true q332
               refine start_ (n := 44) (S := fun w' => w'.cell? ⟨gb330, 0, none⟩ = some (.int .i64 ((rd_T84 l1 x9_1).f0)) ∧ w'.cell? ⟨gb330, 1, none⟩ = some (.int .i64 ((rd_T84 l1 x9_1).f1)) ∧ w'.cell? ⟨gb330, 2, none⟩ = some (.int .i64 ((rd_T84 l1 x9_1).f2)) ∧ w'.cell? (ad331.add ((x7_1).toNat * 2)) = some (.int .i64 ((rd_T35 l0 x7_1).f0)) ∧ w'.cell? ⟨(ad331.add ((x7_1).toNat * 2)).block, (ad331.add ((x7_1).toNat * 2)).off + 1, none⟩ = some (.slice A331_1 ((rd_T35 l0 x7_1).f1).length c331_1) ∧ w'.cell? (ad332.add ((x8_1).toNat * 2)) = some (.int .i64 ((rd_T35 l2 x8_1).f0)) ∧ w'.cell? ⟨(ad332.add ((x8_1).toNat * 2)).block, (ad332.add ((x8_1).toNat * 2)).off + 1, none⟩ = some (.slice A332_1 ((rd_T35 l2 x8_1).f1).length c332_1)) (ds := []) (Array.replicate 44 false) (by kernel_rfl) rfl rfl ⟨(q9 BK330.out 0).trans rfl, (q9 BK330.out 1).trans rfl, (q9 BK330.out 2).trans rfl, (cl HB.out hw331_0), (cl HB.out hw331_1), (cl HB.out hw332_0), (cl HB.out hw332_1)⟩ (fun hHeld => ?_); refine with_tabW frisketref36_Right.tab10 frisketref36_Right.bits10 (fun HT_ HW_ => ?_)
               generalize wc.drew = w45 at BK330 HB HR331_1 HR332_1 hx331_0 hx331_1 hx332_0 hx332_1 hHeld ⊢
               refine go_in [0, 1, 2, 3, 4, 5, 6, 8, 9, 10, 7, 11] ?_
               repeat (first | (refine pz (v := ?_) (a' := ?_) HT_ rfl rfl (by kernel_rfl) (fun _ _ _ h => h) (Or.inl ⟨by rfl, ?_⟩) ?_ ?_; rotate_left; (focus intro w'; go_simp; with_reducible rfl); rotate_left; (focus simp only [Act.put, List.setIfInBounds_toArray, List.set_cons_zero, List.set_cons_succ, i64_w, i32_w, u8_w, u8_tm, u8_c, u8_cm]; rfl)) | (refine tz (v := ?_) (a' := ?_) HT_ HW_ rfl rfl hHeld (by kernel_rfl) (fun _ _ _ h => h) (Or.inl ⟨by rfl, ?_⟩) ?_ ?_; rotate_left; (focus rintro w' ⟨s0, s1, s2, s3, s4, s5, s6⟩; go_simp; with_reducible rfl); rotate_left; (focus simp only [Act.put, List.setIfInBounds_toArray, List.set_cons_zero, List.set_cons_succ, i64_w, i32_w, u8_w, u8_tm, u8_c, u8_cm]; rfl)))
               refine go_out ?_
               refine one_ (i := 12) (N := some 97) (fl 44 13 []) rfl rfl (one_of HT_.out (by kernel_rfl)) (by decide) (fun K hK => ?_)
               refine goes_ Try.func14 (by kernel_rfl) rfl #[.agg #[.int .i64 ((rd_T35 l0 x7_1).f0), .slice A331_1 ((rd_T35 l0 x7_1).f1).length c331_1], .agg #[.int .i64 ((rd_T35 l2 x8_1).f0), .slice A332_1 ((rd_T35 l2 x8_1).f1).length c332_1]] (by rfl) rfl rfl (by (try simp only [List.map_toArray, List.map_cons, List.map_nil]); first | done | rfl | (simp only [List.length_drop, List.length_take]; rfl)) ?_
               with_reducible refine (frisketref36_Same.calls kj5 ((rd_T35 l0 x7_1).f0) _ _ ((rd_T35 l0 x7_1).f1) ((rd_T35 l2 x8_1).f0) _ _ ((rd_T35 l2 x8_1).f1) false _ ?side1 ?side2 ?side3 ?side4 A40.out).mono ?_
               (case side1 => repeat (first | exact (Kd.C_below HR331_1.out HB.out) | (with_reducible refine q18 ?_ _) | (with_reducible refine q19 ?_ _) | (with_reducible refine q20 ?_)))
               (case side2 => exact HC331_1.out)
               (case side3 => repeat (first | exact (Kd.C_below HR332_1.out HB.out) | (with_reducible refine q18 ?_ _) | (with_reducible refine q19 ?_ _) | (with_reducible refine q20 ?_)))
               (case side4 => exact HC332_1.out)
               rintro e w46 ⟨rfl, hb⟩
               refine ⟨_, rfl, ?_⟩
               have n0_ := q13 (q8 (g := gb330) (o := .cells #[.int .i64 ((rd_T84 l1 x9_1).f0), .int .i64 ((rd_T84 l1 x9_1).f1), .int .i64 ((rd_T84 l1 x9_1).f2)] 84 (0, 0)) (gK BK330) hb)
               have n1_ := q13 (q12 (by repeat (first | (with_reducible first | exact HB.out | apply q3 | apply q4 | apply q5 | refine q6 ?_ GE330.out) | exact HB.out)) hb)
               clear BK330
               clear HB
               have BK330 := n0_
               have HB := n1_
               clear n0_ n1_
               (try clear hb)
               (try clear hb2)
               (try clear hk)
               (try clear hi)
               refine hK.out _ _ ⟨(q9 BK330.out 0).trans rfl, (q9 BK330.out 1).trans rfl, (q9 BK330.out 2).trans rfl, (cl HB.out hw331_0), (cl HB.out hw331_1), (cl HB.out hw332_0), (cl HB.out hw332_1)⟩ (fun hHeld => ?_)
               clear hK K
               refine norm_ (a' := ?_) ?_ ?_
               rotate_left
               ·show Act.put _ (some 97) _ = _
                simp only [Act.put, List.setIfInBounds_toArray, List.set_cons_zero, List.set_cons_succ, i64_w, i32_w]
                rfl
               refine go_in [13, 14, 15, 16, 17, 18, 19, 20, 21, 22, 23, 24, 25, 26, 27, 28, 29, 30, 31, 32, 33, 34, 35, 36, 37, 38, 39, 40, 41, 42, 43] ?_
               repeat (first | (refine pz (v := ?_) (a' := ?_) HT_ rfl rfl (by kernel_rfl) (fun _ _ _ h => h) (Or.inl ⟨by rfl, ?_⟩) ?_ ?_; rotate_left; (focus intro w'; go_simp; with_reducible rfl); rotate_left; (focus simp only [Act.put, List.setIfInBounds_toArray, List.set_cons_zero, List.set_cons_succ, i64_w, i32_w, u8_w, u8_tm, u8_c, u8_cm]; rfl)) | (refine pz (v := undef) (a' := ?_) HT_ rfl rfl (by kernel_rfl) (fun _ _ _ h => h) (Or.inr ⟨by rfl, rfl⟩) ?_ ?_; rotate_left; (focus simp only [Act.put, List.setIfInBounds_toArray, List.set_cons_zero, List.set_cons_succ, i64_w, i32_w, u8_w, u8_tm, u8_c, u8_cm]; rfl)))
               refine go_out ?_
               refine done_ (done_of HT_.out (by kernel_rfl)) ?_
               try go_wp2
               refine Met.intro ?_
               go_step
               (repeat apply Exists.intro)
               refine ⟨?rel, ?eq⟩
               case eq => (first | rfl | (simp only [c35b1]; rfl))
               case rel => exact ⟨_, (true), (by first | rfl | (simp; done) | (simp [*]; done)), H', ⟨by have := HK1.out; have := HJ5.out; first | omega | exact q17 _⟩, ⟨by (with_reducible repeat (first | refine q0 ?_ _ | refine q1 ?_ | refine q2 ?_ _)); exact BK330.out⟩, ⟨by repeat (first | (with_reducible first | exact HB.out | apply q3 | apply q4 | apply q5 | refine q6 ?_ GE330.out) | exact HB.out)⟩⟩
             ·rw [if_neg c39] at H
              exact absurd H (by simp)
            ·rw [if_neg c38] at H
             exact absurd H (by simp)
           ·rw [if_neg c37] at H
            exact absurd H (by simp)
          ·rw [if_neg c36] at H
           exact absurd H (by simp)
         ·rw [if_neg c35] at H
          have c35b0 : (((rd_T84 l1 x9_1).f0) == 0) = false := beq_eq_false_iff_ne.mpr c35
          have c35b1 : (((rd_T84 l1 x9_1).f0) != 0) = true := bne_iff_ne.mpr c35
          (first | rw [c35b0] | (simp only [i64_w, i32_w]; rw [c35b0]) | skip)
          by_cases c47 : ((rd_T84 l1 x9_1).f0) = 3
          ·rw [if_pos c47] at H
           have c47b0 : (((rd_T84 l1 x9_1).f0) == 3) = true := beq_iff_eq.mpr c47
           have c47b1 : (((rd_T84 l1 x9_1).f0) != 3) = false := bne_eq_false_iff_eq.mpr c47
           clear c47
           by_cases c48 : 0 ≤ x7_1
           ·rw [if_pos c48] at H
            have c48b0 : decide (0 ≤ x7_1) = true := decide_eq_true c48
            clear c48
            by_cases c49 : x7_1 < (l0.length : Int)
            ·rw [if_pos c49] at H
             have c49b0 : decide (x7_1 < (l0.length : Int)) = true := decide_eq_true c49
             clear c49
             by_cases c50 : 0 ≤ x8_1
             ·rw [if_pos c50] at H
              have c50b0 : decide (0 ≤ x8_1) = true := decide_eq_true c50
              clear c50
              by_cases c51 : x8_1 < (l2.length : Int)
              ·rw [if_pos c51] at H
               have c51b0 : decide (x8_1 < (l2.length : Int)) = true := decide_eq_true c51
               clear c51
               by_cases c52 : ((rd_T35 l0 x7_1).f0) = ((rd_T35 l2 x8_1).f0)
               ·rw [if_pos c52] at H
                have c52b0 : (((rd_T35 l0 x7_1).f0) == ((rd_T35 l2 x8_1).f0)) = true := beq_iff_eq.mpr c52
                have c52b1 : (((rd_T35 l0 x7_1).f0) != ((rd_T35 l2 x8_1).f0)) = false := bne_eq_false_iff_eq.mpr c52
                clear c52
                replace H := Option.bind_eq_some_iff.mp H
                obtain ⟨t338, A530, H⟩ := H
                replace H : (frisketref36_Right.j2 kj5 l0 l1 l2 x7_1 x8_1 x9_1 (((rd_T84 l1 x9_1).f0) != 2) (((rd_T84 l1 x9_1).f0) != 1) t338) = some r := H
                have A53 := q13 A530
                clear A530
                have H' := q13 H
                clear H
                try go_wp2
                have n0_ := q13 (q1 BK330.out)
                have n1_ := q13 (q5 HB.out)
                clear BK330
                clear HB
                have BK330 := n0_
                have HB := n1_
                clear n0_ n1_
                have p334 : 0 ≤ (x7_1 : Int) := q15 (by assumption)
                have q334 : x7_1 < (l0.length : Int) := q15 (by assumption)
                obtain ⟨ad334, A334_1, c334_1, e334, hx334_0, hx334_1, hl334_1, hi334_1⟩ := at_T35 HR0.out x7_1 p334 q334
                have hw334_1 := hx334_1
                have hw334_0 := hx334_0
                cases e334
                replace hx334_0 := cl HB.out hx334_0
                replace hx334_1 := cl HB.out hx334_1
                have HR334_1 := q13 hi334_1
                have HC334_1 := q13 hl334_1
                clear hi334_1 hl334_1
                replace p334 := eq_true p334
                replace q334 := eq_true q334
                have p335 : 0 ≤ (x8_1 : Int) := q15 (by assumption)
                have q335 : x8_1 < (l2.length : Int) := q15 (by assumption)
                obtain ⟨ad335, A335_1, c335_1, e335, hx335_0, hx335_1, hl335_1, hi335_1⟩ := at_T35 HR2.out x8_1 p335 q335
                have hw335_1 := hx335_1
                have hw335_0 := hx335_0
                cases e335
                replace hx335_0 := cl HB.out hx335_0
                replace hx335_1 := cl HB.out hx335_1
                have HR335_1 := q13 hi335_1
                have HC335_1 := q13 hl335_1
                clear hi335_1 hl335_1
                replace p335 := eq_true p335
                replace q335 := eq_true q335
                have p336 : 0 ≤ (x7_1 : Int) := q15 (by assumption)
                have q336 : x7_1 < (l0.length : Int) := q15 (by assumption)
                obtain ⟨ad336, A336_1, c336_1, e336, hx336_0, hx336_1, hl336_1, hi336_1⟩ := at_T35 HR0.out x7_1 p336 q336
                have hw336_1 := hx336_1
                have hw336_0 := hx336_0
                obtain rfl : ad334 = ad336 := (by injection e336)
                replace hx336_0 := cl HB.out hx336_0
                replace hx336_1 := cl HB.out hx336_1
                have HR336_1 := q13 hi336_1
                have HC336_1 := q13 hl336_1
                clear hi336_1 hl336_1
                replace p336 := eq_true p336
                replace q336 := eq_true q336
                have ea_ := Option.some.inj (hx334_1.symm.trans hx336_1)
                injection ea_ with ea_ en_ ec_
                subst ea_
                subst ec_
                clear en_
                have p337 : 0 ≤ (x8_1 : Int) := q15 (by assumption)
                have q337 : x8_1 < (l2.length : Int) := q15 (by assumption)
                obtain ⟨ad337, A337_1, c337_1, e337, hx337_0, hx337_1, hl337_1, hi337_1⟩ := at_T35 HR2.out x8_1 p337 q337
                have hw337_1 := hx337_1
                have hw337_0 := hx337_0
                obtain rfl : ad335 = ad337 := (by injection e337)
                replace hx337_0 := cl HB.out hx337_0
                replace hx337_1 := cl HB.out hx337_1
                have HR337_1 := q13 hi337_1
                have HC337_1 := q13 hl337_1
                clear hi337_1 hl337_1
                replace p337 := eq_true p337
                replace q337 := eq_true q337
                have ea_ := Option.some.inj (hx335_1.symm.trans hx337_1)
                injection ea_ with ea_ en_ ec_
                subst ea_
                subst ec_
                clear en_
                refine start_ (n := 44) (S := fun w' => w'.cell? ⟨gb330, 0, none⟩ = some (.int .i64 ((rd_T84 l1 x9_1).f0)) ∧ w'.cell? ⟨gb330, 1, none⟩ = some (.int .i64 ((rd_T84 l1 x9_1).f1)) ∧ w'.cell? ⟨gb330, 2, none⟩ = some (.int .i64 ((rd_T84 l1 x9_1).f2)) ∧ w'.cell? (ad334.add ((x7_1).toNat * 2)) = some (.int .i64 ((rd_T35 l0 x7_1).f0)) ∧ w'.cell? ⟨(ad334.add ((x7_1).toNat * 2)).block, (ad334.add ((x7_1).toNat * 2)).off + 1, none⟩ = some (.slice A334_1 ((rd_T35 l0 x7_1).f1).length c334_1) ∧ w'.cell? (ad335.add ((x8_1).toNat * 2)) = some (.int .i64 ((rd_T35 l2 x8_1).f0)) ∧ w'.cell? ⟨(ad335.add ((x8_1).toNat * 2)).block, (ad335.add ((x8_1).toNat * 2)).off + 1, none⟩ = some (.slice A335_1 ((rd_T35 l2 x8_1).f1).length c335_1) ∧ w'.cell? (ad334.add ((x7_1).toNat * 2)) = some (.int .i64 ((rd_T35 l0 x7_1).f0)) ∧ w'.cell? ⟨(ad334.add ((x7_1).toNat * 2)).block, (ad334.add ((x7_1).toNat * 2)).off + 1, none⟩ = some (.slice A334_1 ((rd_T35 l0 x7_1).f1).length c334_1) ∧ w'.cell? (ad335.add ((x8_1).toNat * 2)) = some (.int .i64 ((rd_T35 l2 x8_1).f0)) ∧ w'.cell? ⟨(ad335.add ((x8_1).toNat * 2)).block, (ad335.add ((x8_1).toNat * 2)).off + 1, none⟩ = some (.slice A335_1 ((rd_T35 l2 x8_1).f1).length c335_1)) (ds := []) (Array.replicate 44 false) (by kernel_rfl) rfl rfl ⟨(q9 BK330.out 0).trans rfl, (q9 BK330.out 1).trans rfl, (q9 BK330.out 2).trans rfl, (cl HB.out hw334_0), (cl HB.out hw334_1), (cl HB.out hw335_0), (cl HB.out hw335_1), (cl HB.out hw336_0), (cl HB.out hw336_1), (cl HB.out hw337_0), (cl HB.out hw337_1)⟩ (fun hHeld => ?_); refine with_tabW frisketref36_Right.tab10 frisketref36_Right.bits10 (fun HT_ HW_ => ?_)
                generalize wc.drew = w54 at BK330 HB HR334_1 HR335_1 HR336_1 HR337_1 hx334_0 hx334_1 hx335_0 hx335_1 hx336_0 hx336_1 hx337_0 hx337_1 hHeld ⊢
                refine go_in [0, 1, 2, 3, 4, 5, 6, 7, 8, 9, 10, 11, 12, 13, 14, 15, 16, 17, 18, 19, 20, 21, 22, 23, 25, 26, 27, 28, 24, 29, 30, 31, 32, 33, 34, 36, 37, 38, 35, 39] ?_
                repeat (first | (refine pz (v := ?_) (a' := ?_) HT_ rfl rfl (by kernel_rfl) (fun _ _ _ h => h) (Or.inl ⟨by rfl, ?_⟩) ?_ ?_; rotate_left; (focus intro w'; go_simp; with_reducible rfl); rotate_left; (focus simp only [Act.put, List.setIfInBounds_toArray, List.set_cons_zero, List.set_cons_succ, i64_w, i32_w, u8_w, u8_tm, u8_c, u8_cm]; rfl)) | (refine tz (v := ?_) (a' := ?_) HT_ HW_ rfl rfl hHeld (by kernel_rfl) (fun _ _ _ h => h) (Or.inl ⟨by rfl, ?_⟩) ?_ ?_; rotate_left; (focus rintro w' ⟨s0, s1, s2, s3, s4, s5, s6, s7, s8, s9, s10⟩; go_simp; with_reducible rfl); rotate_left; (focus simp only [Act.put, List.setIfInBounds_toArray, List.set_cons_zero, List.set_cons_succ, i64_w, i32_w, u8_w, u8_tm, u8_c, u8_cm]; rfl)) | (refine pz (v := undef) (a' := ?_) HT_ rfl rfl (by kernel_rfl) (fun _ _ _ h => h) (Or.inr ⟨by rfl, rfl⟩) ?_ ?_; rotate_left; (focus simp only [Act.put, List.setIfInBounds_toArray, List.set_cons_zero, List.set_cons_succ, i64_w, i32_w, u8_w, u8_tm, u8_c, u8_cm]; rfl)))
                refine go_out ?_
                refine one_ (i := 40) (N := some 125) (fl 44 41 []) rfl rfl (one_of HT_.out (by kernel_rfl)) (by decide) (fun K hK => ?_)
                refine goes_ Try.func14 (by kernel_rfl) rfl #[.agg #[.int .i64 ((rd_T35 l0 x7_1).f0), .slice A334_1 ((rd_T35 l0 x7_1).f1).length c334_1], .agg #[.int .i64 ((rd_T35 l2 x8_1).f0), .slice A335_1 ((rd_T35 l2 x8_1).f1).length c335_1]] (by rfl) rfl rfl (by (try simp only [List.map_toArray, List.map_cons, List.map_nil]); first | done | rfl | (simp only [List.length_drop, List.length_take]; rfl)) ?_
                with_reducible refine (frisketref36_Same.calls kj5 ((rd_T35 l0 x7_1).f0) _ _ ((rd_T35 l0 x7_1).f1) ((rd_T35 l2 x8_1).f0) _ _ ((rd_T35 l2 x8_1).f1) t338 _ ?side1 ?side2 ?side3 ?side4 A53.out).mono ?_
                (case side1 => repeat (first | exact (Kd.C_below HR336_1.out HB.out) | (with_reducible refine q18 ?_ _) | (with_reducible refine q19 ?_ _) | (with_reducible refine q20 ?_)))
                (case side2 => exact HC336_1.out)
                (case side3 => repeat (first | exact (Kd.C_below HR337_1.out HB.out) | (with_reducible refine q18 ?_ _) | (with_reducible refine q19 ?_ _) | (with_reducible refine q20 ?_)))
                (case side4 => exact HC337_1.out)
                rintro e w55 ⟨rfl, hb⟩
                refine ⟨_, rfl, ?_⟩
                have n0_ := q13 (q8 (g := gb330) (o := .cells #[.int .i64 ((rd_T84 l1 x9_1).f0), .int .i64 ((rd_T84 l1 x9_1).f1), .int .i64 ((rd_T84 l1 x9_1).f2)] 84 (0, 0)) (gK BK330) hb)
                have n1_ := q13 (q12 (by repeat (first | (with_reducible first | exact HB.out | apply q3 | apply q4 | apply q5 | refine q6 ?_ GE330.out) | exact HB.out)) hb)
                clear BK330
                clear HB
                have BK330 := n0_
                have HB := n1_
                clear n0_ n1_
                (try clear hb)
                (try clear hb2)
                (try clear hk)
                (try clear hi)
                refine hK.out _ _ ⟨(q9 BK330.out 0).trans rfl, (q9 BK330.out 1).trans rfl, (q9 BK330.out 2).trans rfl, (cl HB.out hw334_0), (cl HB.out hw334_1), (cl HB.out hw335_0), (cl HB.out hw335_1), (cl HB.out hw336_0), (cl HB.out hw336_1), (cl HB.out hw337_0), (cl HB.out hw337_1)⟩ (fun hHeld => ?_)
                clear hK K
                refine norm_ (a' := ?_) ?_ ?_
                rotate_left
                ·show Act.put _ (some 125) _ = _
                 simp only [Act.put, List.setIfInBounds_toArray, List.set_cons_zero, List.set_cons_succ, i64_w, i32_w]
                 rfl
                refine go_in [41, 42, 43] ?_
                repeat (first | (refine pz (v := ?_) (a' := ?_) HT_ rfl rfl (by kernel_rfl) (fun _ _ _ h => h) (Or.inl ⟨by rfl, ?_⟩) ?_ ?_; rotate_left; (focus intro w'; go_simp; with_reducible rfl); rotate_left; (focus simp only [Act.put, List.setIfInBounds_toArray, List.set_cons_zero, List.set_cons_succ, i64_w, i32_w, u8_w, u8_tm, u8_c, u8_cm]; rfl)))
                refine go_out ?_
                refine done_ (done_of HT_.out (by kernel_rfl)) ?_
                try go_wp2
                refine Met.intro ?_
                go_step
                (repeat apply Exists.intro)
                refine ⟨?rel, ?eq⟩
                case eq => (first | rfl | (simp only [c52b1, c47b1, c35b1, c35b1]; rfl))
                case rel => exact ⟨_, (t338), (by first | rfl | (simp; done) | (simp [*]; done)), H', ⟨by have := HK1.out; have := HJ5.out; first | omega | exact q17 _⟩, ⟨by (with_reducible repeat (first | refine q0 ?_ _ | refine q1 ?_ | refine q2 ?_ _)); exact BK330.out⟩, ⟨by repeat (first | (with_reducible first | exact HB.out | apply q3 | apply q4 | apply q5 | refine q6 ?_ GE330.out) | exact HB.out)⟩⟩
               ·rw [if_neg c52] at H
                have c52b0 : (((rd_T35 l0 x7_1).f0) == ((rd_T35 l2 x8_1).f0)) = false := beq_eq_false_iff_ne.mpr c52
                have c52b1 : (((rd_T35 l0 x7_1).f0) != ((rd_T35 l2 x8_1).f0)) = true := bne_iff_ne.mpr c52
                have H' := q13 H
                clear H
                try go_wp2
                have n0_ := q13 (q1 BK330.out)
                have n1_ := q13 (q5 HB.out)
                clear BK330
                clear HB
                have BK330 := n0_
                have HB := n1_
                clear n0_ n1_
                have p334 : 0 ≤ (x7_1 : Int) := q15 (by assumption)
                have q334 : x7_1 < (l0.length : Int) := q15 (by assumption)
                obtain ⟨ad334, A334_1, c334_1, e334, hx334_0, hx334_1, hl334_1, hi334_1⟩ := at_T35 HR0.out x7_1 p334 q334
                have hw334_1 := hx334_1
                have hw334_0 := hx334_0
                cases e334
                replace hx334_0 := cl HB.out hx334_0
                replace hx334_1 := cl HB.out hx334_1
                have HR334_1 := q13 hi334_1
                have HC334_1 := q13 hl334_1
                clear hi334_1 hl334_1
                replace p334 := eq_true p334
                replace q334 := eq_true q334
                have p335 : 0 ≤ (x8_1 : Int) := q15 (by assumption)
                have q335 : x8_1 < (l2.length : Int) := q15 (by assumption)
                obtain ⟨ad335, A335_1, c335_1, e335, hx335_0, hx335_1, hl335_1, hi335_1⟩ := at_T35 HR2.out x8_1 p335 q335
                have hw335_1 := hx335_1
                have hw335_0 := hx335_0
                cases e335
                replace hx335_0 := cl HB.out hx335_0
                replace hx335_1 := cl HB.out hx335_1
                have HR335_1 := q13 hi335_1
                have HC335_1 := q13 hl335_1
                clear hi335_1 hl335_1
                replace p335 := eq_true p335
                replace q335 := eq_true q335
                refine start_ (n := 44) (S := fun w' => w'.cell? ⟨gb330, 0, none⟩ = some (.int .i64 ((rd_T84 l1 x9_1).f0)) ∧ w'.cell? ⟨gb330, 1, none⟩ = some (.int .i64 ((rd_T84 l1 x9_1).f1)) ∧ w'.cell? ⟨gb330, 2, none⟩ = some (.int .i64 ((rd_T84 l1 x9_1).f2)) ∧ w'.cell? (ad334.add ((x7_1).toNat * 2)) = some (.int .i64 ((rd_T35 l0 x7_1).f0)) ∧ w'.cell? ⟨(ad334.add ((x7_1).toNat * 2)).block, (ad334.add ((x7_1).toNat * 2)).off + 1, none⟩ = some (.slice A334_1 ((rd_T35 l0 x7_1).f1).length c334_1) ∧ w'.cell? (ad335.add ((x8_1).toNat * 2)) = some (.int .i64 ((rd_T35 l2 x8_1).f0)) ∧ w'.cell? ⟨(ad335.add ((x8_1).toNat * 2)).block, (ad335.add ((x8_1).toNat * 2)).off + 1, none⟩ = some (.slice A335_1 ((rd_T35 l2 x8_1).f1).length c335_1)) (ds := []) (Array.replicate 44 false) (by kernel_rfl) rfl rfl ⟨(q9 BK330.out 0).trans rfl, (q9 BK330.out 1).trans rfl, (q9 BK330.out 2).trans rfl, (cl HB.out hw334_0), (cl HB.out hw334_1), (cl HB.out hw335_0), (cl HB.out hw335_1)⟩ (fun hHeld => ?_); refine with_tabW frisketref36_Right.tab10 frisketref36_Right.bits10 (fun HT_ HW_ => ?_)
                generalize wc.drew = w56 at BK330 HB HR334_1 HR335_1 hx334_0 hx334_1 hx335_0 hx335_1 hHeld ⊢
                refine go_in [0, 1, 2, 3, 4, 5, 6, 7, 8, 9, 10, 11, 12, 13, 14, 15, 16, 17, 18, 19, 20, 21, 22, 23, 25, 26, 27, 28, 24, 29, 30, 31, 32, 33, 34, 35, 36, 37, 38, 39, 40, 41, 42, 43] ?_
                repeat (first | (refine pz (v := ?_) (a' := ?_) HT_ rfl rfl (by kernel_rfl) (fun _ _ _ h => h) (Or.inl ⟨by rfl, ?_⟩) ?_ ?_; rotate_left; (focus intro w'; go_simp; with_reducible rfl); rotate_left; (focus simp only [Act.put, List.setIfInBounds_toArray, List.set_cons_zero, List.set_cons_succ, i64_w, i32_w, u8_w, u8_tm, u8_c, u8_cm]; rfl)) | (refine tz (v := ?_) (a' := ?_) HT_ HW_ rfl rfl hHeld (by kernel_rfl) (fun _ _ _ h => h) (Or.inl ⟨by rfl, ?_⟩) ?_ ?_; rotate_left; (focus rintro w' ⟨s0, s1, s2, s3, s4, s5, s6⟩; go_simp; with_reducible rfl); rotate_left; (focus simp only [Act.put, List.setIfInBounds_toArray, List.set_cons_zero, List.set_cons_succ, i64_w, i32_w, u8_w, u8_tm, u8_c, u8_cm]; rfl)) | (refine pz (v := undef) (a' := ?_) HT_ rfl rfl (by kernel_rfl) (fun _ _ _ h => h) (Or.inr ⟨by rfl, rfl⟩) ?_ ?_; rotate_left; (focus simp only [Act.put, List.setIfInBounds_toArray, List.set_cons_zero, List.set_cons_succ, i64_w, i32_w, u8_w, u8_tm, u8_c, u8_cm]; rfl)))
                refine go_out ?_
                refine done_ (done_of HT_.out (by kernel_rfl)) ?_
                try go_wp2
                refine Met.intro ?_
                go_step
                (repeat apply Exists.intro)
                refine ⟨?rel, ?eq⟩
                case eq => (first | rfl | (simp only [c52b1, c52b1, c47b1, c35b1, c35b1]; rfl))
                case rel => exact ⟨_, (true), (by first | rfl | (simp; done) | (simp [*]; done)), H', ⟨by have := HK1.out; have := HJ5.out; first | omega | exact q17 _⟩, ⟨by (with_reducible repeat (first | refine q0 ?_ _ | refine q1 ?_ | refine q2 ?_ _)); exact BK330.out⟩, ⟨by repeat (first | (with_reducible first | exact HB.out | apply q3 | apply q4 | apply q5 | refine q6 ?_ GE330.out) | exact HB.out)⟩⟩
              ·rw [if_neg c51] at H
               exact absurd H (by simp)
             ·rw [if_neg c50] at H
              exact absurd H (by simp)
            ·rw [if_neg c49] at H
             exact absurd H (by simp)
           ·rw [if_neg c48] at H
            exact absurd H (by simp)
          ·rw [if_neg c47] at H
           have c47b0 : (((rd_T84 l1 x9_1).f0) == 3) = false := beq_eq_false_iff_ne.mpr c47
           have c47b1 : (((rd_T84 l1 x9_1).f0) != 3) = true := bne_iff_ne.mpr c47
           have H' := q13 H
           clear H
           try go_wp2
           have n0_ := q13 (q1 BK330.out)
           have n1_ := q13 (q5 HB.out)
           clear BK330
           clear HB
           have BK330 := n0_
           have HB := n1_
           clear n0_ n1_
           refine start_ (n := 44) (S := fun w' => w'.cell? ⟨gb330, 0, none⟩ = some (.int .i64 ((rd_T84 l1 x9_1).f0)) ∧ w'.cell? ⟨gb330, 1, none⟩ = some (.int .i64 ((rd_T84 l1 x9_1).f1)) ∧ w'.cell? ⟨gb330, 2, none⟩ = some (.int .i64 ((rd_T84 l1 x9_1).f2))) (ds := []) (Array.replicate 44 false) (by kernel_rfl) rfl rfl ⟨(q9 BK330.out 0).trans rfl, (q9 BK330.out 1).trans rfl, (q9 BK330.out 2).trans rfl⟩ (fun hHeld => ?_); refine with_tabW frisketref36_Right.tab10 frisketref36_Right.bits10 (fun HT_ HW_ => ?_)
           generalize wc.drew = w57 at BK330 HB hHeld ⊢
           refine go_in [0, 1, 2, 3, 4, 5, 6, 7, 8, 9, 10, 11, 12, 13, 14, 15, 16, 17, 18, 19, 20, 21, 22, 23, 24, 25, 26, 27, 28, 29, 30, 31, 32, 33, 34, 35, 36, 37, 38, 39, 40, 41, 42, 43] ?_
           repeat (first | (refine pz (v := ?_) (a' := ?_) HT_ rfl rfl (by kernel_rfl) (fun _ _ _ h => h) (Or.inl ⟨by rfl, ?_⟩) ?_ ?_; rotate_left; (focus intro w'; go_simp; with_reducible rfl); rotate_left; (focus simp only [Act.put, List.setIfInBounds_toArray, List.set_cons_zero, List.set_cons_succ, i64_w, i32_w, u8_w, u8_tm, u8_c, u8_cm]; rfl)) | (refine tz (v := ?_) (a' := ?_) HT_ HW_ rfl rfl hHeld (by kernel_rfl) (fun _ _ _ h => h) (Or.inl ⟨by rfl, ?_⟩) ?_ ?_; rotate_left; (focus rintro w' ⟨s0, s1, s2⟩; go_simp; with_reducible rfl); rotate_left; (focus simp only [Act.put, List.setIfInBounds_toArray, List.set_cons_zero, List.set_cons_succ, i64_w, i32_w, u8_w, u8_tm, u8_c, u8_cm]; rfl)) | (refine pz (v := undef) (a' := ?_) HT_ rfl rfl (by kernel_rfl) (fun _ _ _ h => h) (Or.inr ⟨by rfl, rfl⟩) ?_ ?_; rotate_left; (focus simp only [Act.put, List.setIfInBounds_toArray, List.set_cons_zero, List.set_cons_succ, i64_w, i32_w, u8_w, u8_tm, u8_c, u8_cm]; rfl)))
           refine go_out ?_
           refine done_ (done_of HT_.out (by kernel_rfl)) ?_
           try go_wp2
           refine Met.intro ?_
           go_step
           (repeat apply Exists.intro)
           refine ⟨?rel, ?eq⟩
           case eq => (first | rfl | (simp only [c47b1, c47b1, c35b1, c35b1]; rfl))
           case rel => exact ⟨_, (false), (by first | rfl | (simp; done) | (simp [*]; done)), H', ⟨by have := HK1.out; have := HJ5.out; first | omega | exact q17 _⟩, ⟨by (with_reducible repeat (first | refine q0 ?_ _ | refine q1 ?_ | refine q2 ?_ _)); exact BK330.out⟩, ⟨by repeat (first | (with_reducible first | exact HB.out | apply q3 | apply q4 | apply q5 | refine q6 ?_ GE330.out) | exact HB.out)⟩⟩
        case rest =>
         clear HC34
         try clear p2
         try clear c3
         try clear p3
         try clear q3
         try clear hx3
         try clear c4
         try clear c5
         try clear c33
         try clear p33
         try clear q33
         try clear hx33
         try clear c47
         try clear c47b0
         try clear c47b1
         try clear c48
         try clear c49
         try clear c50
         try clear c51
         try clear c52
         try clear c52b0
         try clear c52b1
         try clear hx334_0
         try clear hx334_1
         try clear hx335_0
         try clear hx335_1
         try clear p334
         try clear p335
         try clear q334
         try clear q335
         obtain ⟨kq, x128_33, rfl, HA, HJ33, BK330, HB⟩ := hcut
         cases kq with
         | zero => exact absurd HA.out (by simp [frisketref36_Right.j2])
         | succ kj33 =>
          have H := HA.out
          clear HA
          simp only [frisketref36_Right.j2] at H
          by_cases c58 : x128_33 = true
          ·subst c58
           have H1 : (some false) = some r := by rw [if_pos rfl] at H; exact H
           clear H
           have H := H1
           clear H1
           obtain rfl := Option.some.inj H
           go_wp2
           go_ret
           exact ⟨by first | rfl | (simp [errW_none, errW_some] <;> rfl) | (simp [*, errW_none, errW_some] <;> rfl), by repeat (first | (with_reducible first | exact HB.out | apply q3 | apply q4 | apply q5 | refine q6 ?_ GE330.out) | exact HB.out)⟩
          ·replace c58 := Bool.eq_false_iff.mpr c58
           subst c58
           have H1 : (if (((rd_T84 l1 x9_1).f0) != 2) = true then (if (((rd_T84 l1 x9_1).f0) != 1) = true then (frisketref36_Right.l0 kj33 l0 l1 l2 (wrap64 (x7_1 + 1)) (wrap64 (x8_1 + 1)) (wrap64 (x9_1 + 1))) else (frisketref36_Right.l0 kj33 l0 l1 l2 (wrap64 (x7_1 + 1)) x8_1 (wrap64 (x9_1 + 1)))) else (if (((rd_T84 l1 x9_1).f0) != 1) = true then (frisketref36_Right.l0 kj33 l0 l1 l2 x7_1 (wrap64 (x8_1 + 1)) (wrap64 (x9_1 + 1))) else (frisketref36_Right.l0 kj33 l0 l1 l2 x7_1 x8_1 (wrap64 (x9_1 + 1))))) = some r := by rw [if_neg (show ¬ (false = true) by decide)] at H; exact H
           clear H
           have H := H1
           clear H1
           by_cases c59 : (((rd_T84 l1 x9_1).f0) != 2) = true
           ·rw [if_pos c59] at H
            have c59b0 : (((rd_T84 l1 x9_1).f0) != 2) = true := c59
            (try (have c59b1 : decide (((rd_T84 l1 x9_1).f0) = 2) = false := by simpa using c59))
            (try (have c59b2 : (((rd_T84 l1 x9_1).f0) == 2) = false := by simpa using c59))
            (try (have c59b3 : ¬ (((rd_T84 l1 x9_1).f0) = 2) := by simpa using c59))
            clear c59
            by_cases c60 : (((rd_T84 l1 x9_1).f0) != 1) = true
            ·rw [if_pos c60] at H
             have c60b0 : (((rd_T84 l1 x9_1).f0) != 1) = true := c60
             (try (have c60b1 : decide (((rd_T84 l1 x9_1).f0) = 1) = false := by simpa using c60))
             (try (have c60b2 : (((rd_T84 l1 x9_1).f0) == 1) = false := by simpa using c60))
             (try (have c60b3 : ¬ (((rd_T84 l1 x9_1).f0) = 1) := by simpa using c60))
             clear c60
             have H' := q13 H
             clear H
             go_wp2
             go_roundg kj33
             case measure => have := HK1.out; have := HJ5.out; have := HJ33.out; omega
             case rel => exact ⟨(wrap64 (x7_1 + 1)), (wrap64 (x8_1 + 1)), (wrap64 (x9_1 + 1)), (by first | rfl | (simp; done) | (simp [*]; done)), (by first | rfl | (simp; done) | (simp [*]; done)), (by first | rfl | (simp; done) | (simp [*]; done)), H', ⟨by have := HK1.out; have := HJ5.out; have := HJ33.out; omega⟩, ⟨by repeat (first | (with_reducible first | exact HB.out | apply q3 | apply q4 | apply q5 | refine q6 ?_ GE330.out) | exact HB.out)⟩⟩
            ·rw [if_neg c60] at H
             have c60b0 : (((rd_T84 l1 x9_1).f0) != 1) = false := by simpa using c60
             (try (have c60b1 : decide (((rd_T84 l1 x9_1).f0) = 1) = true := by simpa using c60))
             (try (have c60b2 : (((rd_T84 l1 x9_1).f0) == 1) = true := by simpa using c60))
             clear c60
             have H' := q13 H
             clear H
             go_wp2
             go_roundg kj33
             case measure => have := HK1.out; have := HJ5.out; have := HJ33.out; omega
             case rel => exact ⟨(wrap64 (x7_1 + 1)), (x8_1), (wrap64 (x9_1 + 1)), (by first | rfl | (simp; done) | (simp [*]; done)), (by first | rfl | (simp; done) | (simp [*]; done)), (by first | rfl | (simp; done) | (simp [*]; done)), H', ⟨by have := HK1.out; have := HJ5.out; have := HJ33.out; omega⟩, ⟨by repeat (first | (with_reducible first | exact HB.out | apply q3 | apply q4 | apply q5 | refine q6 ?_ GE330.out) | exact HB.out)⟩⟩
           ·rw [if_neg c59] at H
            have c59b0 : (((rd_T84 l1 x9_1).f0) != 2) = false := by simpa using c59
            (try (have c59b1 : decide (((rd_T84 l1 x9_1).f0) = 2) = true := by simpa using c59))
            (try (have c59b2 : (((rd_T84 l1 x9_1).f0) == 2) = true := by simpa using c59))
            clear c59
            by_cases c61 : (((rd_T84 l1 x9_1).f0) != 1) = true
            ·rw [if_pos c61] at H
             have c61b0 : (((rd_T84 l1 x9_1).f0) != 1) = true := c61
             (try (have c61b1 : decide (((rd_T84 l1 x9_1).f0) = 1) = false := by simpa using c61))
             (try (have c61b2 : (((rd_T84 l1 x9_1).f0) == 1) = false := by simpa using c61))
             (try (have c61b3 : ¬ (((rd_T84 l1 x9_1).f0) = 1) := by simpa using c61))
             clear c61
             have H' := q13 H
             clear H
             go_wp2
             go_roundg kj33
             case measure => have := HK1.out; have := HJ5.out; have := HJ33.out; omega
             case rel => exact ⟨(x7_1), (wrap64 (x8_1 + 1)), (wrap64 (x9_1 + 1)), (by first | rfl | (simp; done) | (simp [*]; done)), (by first | rfl | (simp; done) | (simp [*]; done)), (by first | rfl | (simp; done) | (simp [*]; done)), H', ⟨by have := HK1.out; have := HJ5.out; have := HJ33.out; omega⟩, ⟨by repeat (first | (with_reducible first | exact HB.out | apply q3 | apply q4 | apply q5 | refine q6 ?_ GE330.out) | exact HB.out)⟩⟩
            ·rw [if_neg c61] at H
             have c61b0 : (((rd_T84 l1 x9_1).f0) != 1) = false := by simpa using c61
             (try (have c61b1 : decide (((rd_T84 l1 x9_1).f0) = 1) = true := by simpa using c61))
             (try (have c61b2 : (((rd_T84 l1 x9_1).f0) == 1) = true := by simpa using c61))
             clear c61
             have H' := q13 H
             clear H
             go_wp2
    ·rw [if_neg c5] at H
     exact absurd H (by simp)
   ·rw [if_neg c4] at H
    have c4b0 : decide (x9_1 < (l1.length : Int)) = false := decide_eq_false c4
    clear c4
    by_cases c62 : x7_1 = (l0.length : Int)
    ·rw [if_pos c62] at H
     have c62b0 : (x7_1 == (l0.length : Int)) = true := beq_iff_eq.mpr c62
     have c62b1 : (x7_1 != (l0.length : Int)) = false := bne_eq_false_iff_eq.mpr c62
     clear c62
     obtain rfl := Option.some.inj H
     go_wp2
     go_ret
     exact ⟨by first | rfl | (simp [errW_none, errW_some] <;> rfl) | (simp [*, errW_none, errW_some] <;> rfl), gB HB⟩
    ·rw [if_neg c62] at H
     have c62b0 : (x7_1 == (l0.length : Int)) = false := beq_eq_false_iff_ne.mpr c62
     have c62b1 : (x7_1 != (l0.length : Int)) = true := bne_iff_ne.mpr c62
     obtain rfl := Option.some.inj H
     go_wp2
     go_ret
     exact ⟨by first | rfl | (simp [errW_none, errW_some] <;> rfl) | (simp [*, errW_none, errW_some] <;> rfl), gB HB⟩

end Go.Proofs.Ytgjmljjnminefaa.QCompareApplies
