import Derived.Lib.SliceRun
import Derived.Test.YtgjmljjnminefaaQCPx0
import Derived.Test.YtgjmljjnminefaaQCPx6
import Derived.Test.YtgjmljjnminefaaFGrowCP
import Derived.Test.YtgjmljjnminefaaArrEq
import Derived.Test.YtgjmljjnminefaaZip2
import Derived.Test.YtgjmljjnminefaaZip
namespace Go.Proofs.Ytgjmljjnminefaa.QCP
open Go.Proofs.Ytgjmljjnminefaa.Zip Go.Proofs.Ytgjmljjnminefaa.Zip2 Go.RowKit Go.Proofs.YtgjmljjnminefaaW.PrintWords Go.Proofs.YtgjmljjnminefaaW.PrintLast Go.Proofs.YtgjmljjnminefaaW.PrintMore
attribute [local go_sem] max2_int min2_int max_two min_two max_three min_three max_four min_four   -- for this text's walks alone
set_option linter.unusedVariables false
set_option linter.unusedSimpArgs false

mutual
def compare_Least.l0 : Nat → List (S24) → List (S24) → List (S54) → Int → Int → List (List Int) → List (List Bool) → Option ((List (S54)) × Int)
 | 0, _, _, _, _, _, _, _ => none
 | k + 1, x0, x1, x7, x8, x9, x183000, x183001 => if x8 < (x0.length : Int) then (compare_Least.j1 k x0 x1 x7 x8 x9 true x183000 x183001) else (compare_Least.j1 k x0 x1 x7 x8 x9 (decide (x9 < (x1.length : Int))) x183000 x183001)
def compare_Least.j1 : Nat → List (S24) → List (S24) → List (S54) → Int → Int → Bool → List (List Int) → List (List Bool) → Option ((List (S54)) × Int)
 | 0, _, _, _, _, _, _, _, _ => none
 | k + 1, x0, x1, x7, x8, x9, x30, x183000, x183001 => if x30 = true then (if x8 < (x0.length : Int) then (if x9 < (x1.length : Int) then (if 0 ≤ x8 then (if 0 ≤ x9 then (compare_Least.j2 k x0 x1 x7 x8 x9 (((rd_T24 x0 x8).f0) == ((rd_T24 x1 x9).f0)) x183000 x183001) else (none)) else (none)) else (compare_Least.j2 k x0 x1 x7 x8 x9 false x183000 x183001)) else (compare_Least.j2 k x0 x1 x7 x8 x9 false x183000 x183001)) else (some (x7, 0))
def compare_Least.j2 : Nat → List (S24) → List (S24) → List (S54) → Int → Int → Bool → List (List Int) → List (List Bool) → Option ((List (S54)) × Int)
 | 0, _, _, _, _, _, _, _, _ => none
 | k + 1, x0, x1, x7, x8, x9, x10, x183000, x183001 => if 0 ≤ x8 then (if x8 < (x183000.length : Int) then (if 0 ≤ x9 then (if x9 < ((rd_L2 x183000 x8).length : Int) then (if x10 = true then (if x8 < (x183001.length : Int) then (if x9 < ((rd_L7 x183001 x8).length : Int) then (if rdOf false (rd_L7 x183001 x8) x9 = true then (if 0 ≤ (wrap64 (x8 + 1)) then (if (wrap64 (x8 + 1)) < (x183000.length : Int) then (if 0 ≤ (wrap64 (x9 + 1)) then (if (wrap64 (x9 + 1)) < ((rd_L2 x183000 (wrap64 (x8 + 1))).length : Int) then (compare_Least.j3 k x0 x1 x7 x8 x9 x10 (rd (rd_L2 x183000 x8) x9) ((rd (rd_L2 x183000 x8) x9) == (rd (rd_L2 x183000 (wrap64 (x8 + 1))) (wrap64 (x9 + 1)))) x183000 x183001) else (none)) else (none)) else (none)) else (none)) else (compare_Least.j3 k x0 x1 x7 x8 x9 x10 (rd (rd_L2 x183000 x8) x9) false x183000 x183001)) else (none)) else (none)) else (compare_Least.j3 k x0 x1 x7 x8 x9 x10 (rd (rd_L2 x183000 x8) x9) false x183000 x183001)) else (none)) else (none)) else (none)) else (none)
def compare_Least.j3 : Nat → List (S24) → List (S24) → List (S54) → Int → Int → Bool → Int → Bool → List (List Int) → List (List Bool) → Option ((List (S54)) × Int)
 | 0, _, _, _, _, _, _, _, _, _, _ => none
 | k + 1, x0, x1, x7, x8, x9, x10, x11, x69, x183000, x183001 => if x69 = true then (if x7.length < 5864062014805 then (compare_Least.l0 k x0 x1 (x7 ++ [(⟨0, x8, x9⟩ : S54)]) (wrap64 (x8 + 1)) (wrap64 (x9 + 1)) x183000 x183001) else (none)) else (if x10 = true then (if 0 ≤ x8 then (if x8 < (x183001.length : Int) then (if 0 ≤ x9 then (if x9 < ((rd_L7 x183001 x8).length : Int) then (if (rdOf false (rd_L7 x183001 x8) x9 = true) then (compare_Least.j4 k x0 x1 x7 x8 x9 x11 false x183000 x183001) else (if 0 ≤ (wrap64 (x8 + 1)) then (if (wrap64 (x8 + 1)) < (x183000.length : Int) then (if 0 ≤ (wrap64 (x9 + 1)) then (if (wrap64 (x9 + 1)) < ((rd_L2 x183000 (wrap64 (x8 + 1))).length : Int) then (compare_Least.j4 k x0 x1 x7 x8 x9 x11 (x11 == (wrap64 (1 + (rd (rd_L2 x183000 (wrap64 (x8 + 1))) (wrap64 (x9 + 1)))))) x183000 x183001) else (none)) else (none)) else (none)) else (none))) else (none)) else (none)) else (none)) else (none)) else (compare_Least.j4 k x0 x1 x7 x8 x9 x11 false x183000 x183001))
def compare_Least.j4 : Nat → List (S24) → List (S24) → List (S54) → Int → Int → Int → Bool → List (List Int) → List (List Bool) → Option ((List (S54)) × Int)
 | 0, _, _, _, _, _, _, _, _, _ => none
 | k + 1, x0, x1, x7, x8, x9, x11, x105, x183000, x183001 => if x105 = true then (if x7.length < 5864062014805 then (compare_Least.l0 k x0 x1 (x7 ++ [(⟨3, x8, x9⟩ : S54)]) (wrap64 (x8 + 1)) (wrap64 (x9 + 1)) x183000 x183001) else (none)) else (if x8 < (x0.length : Int) then (if 0 ≤ (wrap64 (x8 + 1)) then (if (wrap64 (x8 + 1)) < (x183000.length : Int) then (if 0 ≤ x9 then (if x9 < ((rd_L2 x183000 (wrap64 (x8 + 1))).length : Int) then (if x11 = (wrap64 (1 + (rd (rd_L2 x183000 (wrap64 (x8 + 1))) x9))) then (if x7.length < 5864062014805 then (compare_Least.l0 k x0 x1 (x7 ++ [(⟨1, x8, 0⟩ : S54)]) (wrap64 (x8 + 1)) x9 x183000 x183001) else (none)) else (if x7.length < 5864062014805 then (compare_Least.l0 k x0 x1 (x7 ++ [(⟨2, 0, x9⟩ : S54)]) x8 (wrap64 (x9 + 1)) x183000 x183001) else (none))) else (none)) else (none)) else (none)) else (none)) else (if x7.length < 5864062014805 then (compare_Least.l0 k x0 x1 (x7 ++ [(⟨2, 0, x9⟩ : S54)]) x8 (wrap64 (x9 + 1)) x183000 x183001) else (none)))
end
def compare_Least.f (k : Nat) (l0 : List (S24)) (l1 : List (S24)) : Option ((List (S54)) × Int) := if (mx (l0.length : Int) (l1.length : Int)) > 200 then (some (([] : List (S54)), 2)) else ((compare_tabled.f k l0 l1).bind fun bt176 => (compare_Least.l0 k l0 l1 ([] : List (S54)) 0 0 bt176.1 bt176.2))
theorem compare_Least.mono_l : ∀ k, (∀ y0 y1 y2 y3 y4 y5 y6, LeO (compare_Least.l0 k y0 y1 y2 y3 y4 y5 y6) (compare_Least.l0 (k + 1) y0 y1 y2 y3 y4 y5 y6)) ∧ (∀ y0 y1 y2 y3 y4 y5 y6 y7, LeO (compare_Least.j1 k y0 y1 y2 y3 y4 y5 y6 y7) (compare_Least.j1 (k + 1) y0 y1 y2 y3 y4 y5 y6 y7)) ∧ (∀ y0 y1 y2 y3 y4 y5 y6 y7, LeO (compare_Least.j2 k y0 y1 y2 y3 y4 y5 y6 y7) (compare_Least.j2 (k + 1) y0 y1 y2 y3 y4 y5 y6 y7)) ∧ (∀ y0 y1 y2 y3 y4 y5 y6 y7 y8 y9, LeO (compare_Least.j3 k y0 y1 y2 y3 y4 y5 y6 y7 y8 y9) (compare_Least.j3 (k + 1) y0 y1 y2 y3 y4 y5 y6 y7 y8 y9)) ∧ (∀ y0 y1 y2 y3 y4 y5 y6 y7 y8, LeO (compare_Least.j4 k y0 y1 y2 y3 y4 y5 y6 y7 y8) (compare_Least.j4 (k + 1) y0 y1 y2 y3 y4 y5 y6 y7 y8))
 | 0 => ⟨fun _ _ _ _ _ _ _ r h => by simp [compare_Least.l0] at h, fun _ _ _ _ _ _ _ _ r h => by simp [compare_Least.j1] at h, fun _ _ _ _ _ _ _ _ r h => by simp [compare_Least.j2] at h, fun _ _ _ _ _ _ _ _ _ _ r h => by simp [compare_Least.j3] at h, fun _ _ _ _ _ _ _ _ _ r h => by simp [compare_Least.j4] at h⟩
 | k + 1 => by
  obtain ⟨ih0, ih1, ih2, ih3, ih4⟩ := compare_Least.mono_l k
  refine ⟨?_, ?_, ?_, ?_, ?_⟩
  ·intro y0 y1 y2 y3 y4 y5 y6
   unfold compare_Least.l0
   repeat' first
   | (with_reducible exact ih0 _ _ _ _ _ _ _)
   | (with_reducible exact ih1 _ _ _ _ _ _ _ _)
   | (with_reducible exact ih2 _ _ _ _ _ _ _ _)
   | (with_reducible exact ih3 _ _ _ _ _ _ _ _ _ _)
   | (with_reducible exact ih4 _ _ _ _ _ _ _ _ _)
   | (with_reducible exact compare_tabled.mono _ _ _)
   | (with_reducible exact LeO.refl _)
   | (with_reducible exact LeO.none _)
   | (with_reducible refine LeO.ite ?_ ?_)
   | (with_reducible refine LeO.bind ?_ (fun _ => ?_))
   | exact ih0 _ _ _ _ _ _ _
   | exact ih1 _ _ _ _ _ _ _ _
   | exact ih2 _ _ _ _ _ _ _ _
   | exact ih3 _ _ _ _ _ _ _ _ _ _
   | exact ih4 _ _ _ _ _ _ _ _ _
   | exact compare_tabled.mono _ _ _
   | exact LeO.none _
   | refine LeO.ite ?_ ?_
   | refine LeO.bind ?_ (fun _ => ?_)
  ·intro y0 y1 y2 y3 y4 y5 y6 y7
   unfold compare_Least.j1
   repeat' first
   | (with_reducible exact ih0 _ _ _ _ _ _ _)
   | (with_reducible exact ih1 _ _ _ _ _ _ _ _)
   | (with_reducible exact ih2 _ _ _ _ _ _ _ _)
   | (with_reducible exact ih3 _ _ _ _ _ _ _ _ _ _)
   | (with_reducible exact ih4 _ _ _ _ _ _ _ _ _)
   | (with_reducible exact compare_tabled.mono _ _ _)
   | (with_reducible exact LeO.refl _)
   | (with_reducible exact LeO.none _)
   | (with_reducible refine LeO.ite ?_ ?_)
   | (with_reducible refine LeO.bind ?_ (fun _ => ?_))
   | exact ih0 _ _ _ _ _ _ _
   | exact ih1 _ _ _ _ _ _ _ _
   | exact ih2 _ _ _ _ _ _ _ _
   | exact ih3 _ _ _ _ _ _ _ _ _ _
   | exact ih4 _ _ _ _ _ _ _ _ _
   | exact compare_tabled.mono _ _ _
   | exact LeO.none _
   | refine LeO.ite ?_ ?_
   | refine LeO.bind ?_ (fun _ => ?_)
  ·intro y0 y1 y2 y3 y4 y5 y6 y7
   unfold compare_Least.j2
   repeat' first
   | (with_reducible exact ih0 _ _ _ _ _ _ _)
   | (with_reducible exact ih1 _ _ _ _ _ _ _ _)
   | (with_reducible exact ih2 _ _ _ _ _ _ _ _)
   | (with_reducible exact ih3 _ _ _ _ _ _ _ _ _ _)
   | (with_reducible exact ih4 _ _ _ _ _ _ _ _ _)
   | (with_reducible exact compare_tabled.mono _ _ _)
   | (with_reducible exact LeO.refl _)
   | (with_reducible exact LeO.none _)
   | (with_reducible refine LeO.ite ?_ ?_)
   | (with_reducible refine LeO.bind ?_ (fun _ => ?_))
   | exact ih0 _ _ _ _ _ _ _
   | exact ih1 _ _ _ _ _ _ _ _
   | exact ih2 _ _ _ _ _ _ _ _
   | exact ih3 _ _ _ _ _ _ _ _ _ _
   | exact ih4 _ _ _ _ _ _ _ _ _
   | exact compare_tabled.mono _ _ _
   | exact LeO.none _
   | refine LeO.ite ?_ ?_
   | refine LeO.bind ?_ (fun _ => ?_)
  ·intro y0 y1 y2 y3 y4 y5 y6 y7 y8 y9
   unfold compare_Least.j3
   repeat' first
   | (with_reducible exact ih0 _ _ _ _ _ _ _)
   | (with_reducible exact ih1 _ _ _ _ _ _ _ _)
   | (with_reducible exact ih2 _ _ _ _ _ _ _ _)
   | (with_reducible exact ih3 _ _ _ _ _ _ _ _ _ _)
   | (with_reducible exact ih4 _ _ _ _ _ _ _ _ _)
   | (with_reducible exact compare_tabled.mono _ _ _)
   | (with_reducible exact LeO.refl _)
   | (with_reducible exact LeO.none _)
   | (with_reducible refine LeO.ite ?_ ?_)
   | (with_reducible refine LeO.bind ?_ (fun _ => ?_))
   | exact ih0 _ _ _ _ _ _ _
   | exact ih1 _ _ _ _ _ _ _ _
   | exact ih2 _ _ _ _ _ _ _ _
   | exact ih3 _ _ _ _ _ _ _ _ _ _
   | exact ih4 _ _ _ _ _ _ _ _ _
   | exact compare_tabled.mono _ _ _
   | exact LeO.none _
   | refine LeO.ite ?_ ?_
   | refine LeO.bind ?_ (fun _ => ?_)
  ·intro y0 y1 y2 y3 y4 y5 y6 y7 y8
   unfold compare_Least.j4
   repeat' first
   | (with_reducible exact ih0 _ _ _ _ _ _ _)
   | (with_reducible exact ih1 _ _ _ _ _ _ _ _)
   | (with_reducible exact ih2 _ _ _ _ _ _ _ _)
   | (with_reducible exact ih3 _ _ _ _ _ _ _ _ _ _)
   | (with_reducible exact ih4 _ _ _ _ _ _ _ _ _)
   | (with_reducible exact compare_tabled.mono _ _ _)
   | (with_reducible exact LeO.refl _)
   | (with_reducible exact LeO.none _)
   | (with_reducible refine LeO.ite ?_ ?_)
   | (with_reducible refine LeO.bind ?_ (fun _ => ?_))
   | exact ih0 _ _ _ _ _ _ _
   | exact ih1 _ _ _ _ _ _ _ _
   | exact ih2 _ _ _ _ _ _ _ _
   | exact ih3 _ _ _ _ _ _ _ _ _ _
   | exact ih4 _ _ _ _ _ _ _ _ _
   | exact compare_tabled.mono _ _ _
   | exact LeO.none _
   | refine LeO.ite ?_ ?_
   | refine LeO.bind ?_ (fun _ => ?_)
theorem compare_Least.mono : ∀ a0 a1 k, LeO (compare_Least.f k a0 a1) (compare_Least.f (k + 1) a0 a1) := by
 intro a0 a1 k
 obtain ⟨ih0, ih1, ih2, ih3, ih4⟩ := compare_Least.mono_l k
 unfold compare_Least.f
 repeat' first
   | (with_reducible exact ih0 _ _ _ _ _ _ _)
   | (with_reducible exact ih1 _ _ _ _ _ _ _ _)
   | (with_reducible exact ih2 _ _ _ _ _ _ _ _)
   | (with_reducible exact ih3 _ _ _ _ _ _ _ _ _ _)
   | (with_reducible exact ih4 _ _ _ _ _ _ _ _ _)
   | (with_reducible exact compare_tabled.mono _ _ _)
   | (with_reducible exact LeO.refl _)
   | (with_reducible exact LeO.none _)
   | (with_reducible refine LeO.ite ?_ ?_)
   | (with_reducible refine LeO.bind ?_ (fun _ => ?_))
   | exact ih0 _ _ _ _ _ _ _
   | exact ih1 _ _ _ _ _ _ _ _
   | exact ih2 _ _ _ _ _ _ _ _
   | exact ih3 _ _ _ _ _ _ _ _ _ _
   | exact ih4 _ _ _ _ _ _ _ _ _
   | exact compare_tabled.mono _ _ _
   | exact LeO.none _
   | refine LeO.ite ?_ ?_
   | refine LeO.bind ?_ (fun _ => ?_)
set_option maxHeartbeats 8000000 in
set_option maxRecDepth 100000 in
theorem compare_Least.calls (k : Nat) (A0 : Option Addr) (c0 : Nat) (l0 : List (S24)) (A1 : Option Addr) (c1 : Nat) (l1 : List (S24)) (r1 : List (S54)) (r2 : Int) (w : World) (hr0 : Kd.C k24 w A0 l0.length l0) (hc0 : l0.length ≤ c0) (hr1 : Kd.C k24 w A1 l1.length l1) (hc1 : l1.length ≤ c1) (h : compare_Least.f k l0 l1 = some (r1, r2)) :
  Calls Try.prog 24 #[.slice A0 l0.length c0, .slice A1 l1.length c1] w fun e w' => ∃ v0_ : Value, e = .returned (.tuple #[v0_, .int .i64 r2]) ∧ Kd.R k54 54 w' w.heap.size (fun _ => True) v0_ r1 ∧ Below w.heap.size w w' := by
 have hu80 := Try.underlying80
 have hu54 := Try.underlying54
 have HR0 := q13 hr0
 have HC0 := q13 hc0
 clear hr0 hc0
 have HR1 := q13 hr1
 have HC1 := q13 hc1
 clear hr1 hc1
 have HB := q13 (Below.refl w.heap.size w)
 have H : (if (mx (l0.length : Int) (l1.length : Int)) > 200 then (some (([] : List (S54)), 2)) else ((compare_tabled.f k l0 l1).bind fun bt176 => (compare_Least.l0 k l0 l1 ([] : List (S54)) 0 0 bt176.1 bt176.2))) = some (r1, r2) := h
 clear h
 obtain ⟨ji3, hji3⟩ : ∃ j_ : Int, (mx (l0.length : Int) (l1.length : Int)) = j_ := ⟨_, rfl⟩
 replace H : (if (ji3) > 200 then (some (([] : List (S54)), 2)) else ((compare_tabled.f k l0 l1).bind fun bt176 => (compare_Least.l0 k l0 l1 ([] : List (S54)) 0 0 bt176.1 bt176.2))) = some (r1, r2) := by first | (rw [hji3] at H; exact H) | (simp only [hji3] at H ⊢; exact H)
 (try (have hji3l : 0 ≤ ji3 := by (rw [← hji3]; unfold mx; (repeat' split) <;> omega)))
 (try (have hji3m : 0 ≤ ji3 := by omega))
 have hji3_ : (if (l0.length : Int) < (l1.length : Int) then (l1.length : Int) else (l0.length : Int)) = ji3 := hji3
 (try have hji3_n : (if l0.length < l1.length then (l1.length : Int) else (l0.length : Int)) = ji3 := by rw [← hji3_]; simp only [Int.ofNat_lt])
 by_cases c4 : (ji3) > 200
 ·rw [if_pos c4] at H
  have c4b0 : decide (200 < (ji3)) = true := decide_eq_true c4
  clear c4
  simp only [Option.some.injEq, Prod.mk.injEq] at H
  obtain ⟨rfl, rfl⟩ := H
  go_enter Try.func24, Try.ntmps24
  go_wp2
  repeat (go_quiet (fail); try go_wp2)
  go_ret2
  exact ⟨_, by first | rfl | (simp [errW_none, errW_some] <;> rfl) | (simp only [← hji3]; first | rfl | (simp [errW_none, errW_some] <;> rfl)) | (simp [*, errW_none, errW_some] <;> rfl), by first | exact Kd.R_nil _ _ _ _ _ | exact Kd.N_nil _ _ _ _ _ | exact Kd.V_nil _ _ _ _ _ | exact Kd.Q_nil _ _ _ _ _ | exact Kd.S_nil _ _ _ _ _, gB HB⟩
 ·rw [if_neg c4] at H
  have c4b0 : decide (200 < (ji3)) = false := decide_eq_false c4
  clear c4
  replace H := Option.bind_eq_some_iff.mp H
  obtain ⟨⟨t176, t179⟩, A50, H⟩ := H
  replace H : (compare_Least.l0 k l0 l1 ([] : List (S54)) 0 0 t176 t179) = some (r1, r2) := H
  have A5 := q13 A50
  clear A50
  have H' := q13 H
  clear H
  go_enter Try.func24, Try.ntmps24
  go_wp2_with (first | (go_at_call 37; (with_reducible refine (compare_tabled.calls k _ _ l0 _ _ l1 t176 t179 _ ?side1 ?side2 ?side3 ?side4 A5.out).mono ?_); (case side1 => repeat (first | exact HR0.out | (with_reducible refine q18 ?_ _) | (with_reducible refine q19 ?_ _) | (with_reducible refine q20 ?_))); (case side2 => exact HC0.out); (case side3 => repeat (first | exact HR1.out | (with_reducible refine q18 ?_ _) | (with_reducible refine q19 ?_ _) | (with_reducible refine q20 ?_))); (case side4 => exact HC1.out); rintro e w6 ⟨v177, v180, rfl, ho0, ho1, hb⟩; have n0_ := q13 (Kd.S_lower ho0 (q7 (gB HB))); have n1_ := q13 (Kd.S_lower ho1 (q7 (gB HB))); have n2_ := q13 (q12 (gB HB) hb); clear HB; have HO178 := n0_; have HO181 := n1_; have HB := n2_; clear n0_ n1_ n2_; (try clear hb); (try clear hb2); (try clear hk); (try clear hi); (try clear ho0); (try clear ho1)) | ((with_reducible refine gate_dst (N := 6) rfl ?_); (try (refine gate_guard (by rfl) ?_; dsimp only)); refine box_event ?hg (N := 6) ?hd (cs := #[.slice none 0 0, .slice none 0 0]) (t := 80) ?hr ?_; (case hd => rfl); (case hg => rfl); (case hr => first | (go_simp; done) | (go_simp; rfl)); intro gb182 hg w7 hbox hb; have n0_ := q13 (Kd.S_below (gS HO178) hb); have n1_ := q13 (Kd.S_below (gS HO181) hb); have n2_ := q13 (q12 (gB HB) hb); have n3_ := q13 (hbox); have n4_ := q13 ((by rw [hg]; exact (q7 (gB HB)) : w.heap.size ≤ gb182)); have n5_ := q13 ((by rw [hg]; exact (q7 (gB HB)) : w.heap.size ≤ gb182)); clear HO178; clear HO181; clear HB; have HO178 := n0_; have HO181 := n1_; have HB := n2_; have BK182 := n3_; have GW182 := n4_; have GE182 := n5_; clear n0_ n1_ n2_ n3_ n4_ n5_; clear hb hbox hg; obtain ⟨Ao8, co8, eo8⟩ := Kd.S_slice HO178.out; subst eo8; have hcz9_0 : w7.cell? ⟨gb182, 0, none⟩ = some (.slice none 0 0) := (q9 BK182.out 0).trans rfl; have hcz9_1 : w7.cell? ⟨gb182, 1, none⟩ = some (.slice none 0 0) := (q9 BK182.out 1).trans rfl; have hfz9_0 := q11 BK182.out 0; have hfz9_1 := q11 BK182.out 1; obtain ⟨Ao10, co10, eo10⟩ := Kd.S_slice HO181.out; subst eo10))
  repeat (go_quiet (first | (go_at_call 37; (with_reducible refine (compare_tabled.calls k _ _ l0 _ _ l1 t176 t179 _ ?side1 ?side2 ?side3 ?side4 A5.out).mono ?_); (case side1 => repeat (first | exact HR0.out | (with_reducible refine q18 ?_ _) | (with_reducible refine q19 ?_ _) | (with_reducible refine q20 ?_))); (case side2 => exact HC0.out); (case side3 => repeat (first | exact HR1.out | (with_reducible refine q18 ?_ _) | (with_reducible refine q19 ?_ _) | (with_reducible refine q20 ?_))); (case side4 => exact HC1.out); rintro e w6 ⟨v177, v180, rfl, ho0, ho1, hb⟩; have n0_ := q13 (Kd.S_lower ho0 (q7 (gB HB))); have n1_ := q13 (Kd.S_lower ho1 (q7 (gB HB))); have n2_ := q13 (q12 (gB HB) hb); clear HB; have HO178 := n0_; have HO181 := n1_; have HB := n2_; clear n0_ n1_ n2_; (try clear hb); (try clear hb2); (try clear hk); (try clear hi); (try clear ho0); (try clear ho1)) | ((with_reducible refine gate_dst (N := 6) rfl ?_); (try (refine gate_guard (by rfl) ?_; dsimp only)); refine box_event ?hg (N := 6) ?hd (cs := #[.slice none 0 0, .slice none 0 0]) (t := 80) ?hr ?_; (case hd => rfl); (case hg => rfl); (case hr => first | (go_simp; done) | (go_simp; rfl)); intro gb182 hg w7 hbox hb; have n0_ := q13 (Kd.S_below (gS HO178) hb); have n1_ := q13 (Kd.S_below (gS HO181) hb); have n2_ := q13 (q12 (gB HB) hb); have n3_ := q13 (hbox); have n4_ := q13 ((by rw [hg]; exact (q7 (gB HB)) : w.heap.size ≤ gb182)); have n5_ := q13 ((by rw [hg]; exact (q7 (gB HB)) : w.heap.size ≤ gb182)); clear HO178; clear HO181; clear HB; have HO178 := n0_; have HO181 := n1_; have HB := n2_; have BK182 := n3_; have GW182 := n4_; have GE182 := n5_; clear n0_ n1_ n2_ n3_ n4_ n5_; clear hb hbox hg; obtain ⟨Ao8, co8, eo8⟩ := Kd.S_slice HO178.out; subst eo8; have hcz9_0 : w7.cell? ⟨gb182, 0, none⟩ = some (.slice none 0 0) := (q9 BK182.out 0).trans rfl; have hcz9_1 : w7.cell? ⟨gb182, 1, none⟩ = some (.slice none 0 0) := (q9 BK182.out 1).trans rfl; have hfz9_0 := q11 BK182.out 0; have hfz9_1 := q11 BK182.out 1; obtain ⟨Ao10, co10, eo10⟩ := Kd.S_slice HO181.out; subst eo10)); try go_wp2_with (first | (go_at_call 37; (with_reducible refine (compare_tabled.calls k _ _ l0 _ _ l1 t176 t179 _ ?side1 ?side2 ?side3 ?side4 A5.out).mono ?_); (case side1 => repeat (first | exact HR0.out | (with_reducible refine q18 ?_ _) | (with_reducible refine q19 ?_ _) | (with_reducible refine q20 ?_))); (case side2 => exact HC0.out); (case side3 => repeat (first | exact HR1.out | (with_reducible refine q18 ?_ _) | (with_reducible refine q19 ?_ _) | (with_reducible refine q20 ?_))); (case side4 => exact HC1.out); rintro e w6 ⟨v177, v180, rfl, ho0, ho1, hb⟩; have n0_ := q13 (Kd.S_lower ho0 (q7 (gB HB))); have n1_ := q13 (Kd.S_lower ho1 (q7 (gB HB))); have n2_ := q13 (q12 (gB HB) hb); clear HB; have HO178 := n0_; have HO181 := n1_; have HB := n2_; clear n0_ n1_ n2_; (try clear hb); (try clear hb2); (try clear hk); (try clear hi); (try clear ho0); (try clear ho1)) | ((with_reducible refine gate_dst (N := 6) rfl ?_); (try (refine gate_guard (by rfl) ?_; dsimp only)); refine box_event ?hg (N := 6) ?hd (cs := #[.slice none 0 0, .slice none 0 0]) (t := 80) ?hr ?_; (case hd => rfl); (case hg => rfl); (case hr => first | (go_simp; done) | (go_simp; rfl)); intro gb182 hg w7 hbox hb; have n0_ := q13 (Kd.S_below (gS HO178) hb); have n1_ := q13 (Kd.S_below (gS HO181) hb); have n2_ := q13 (q12 (gB HB) hb); have n3_ := q13 (hbox); have n4_ := q13 ((by rw [hg]; exact (q7 (gB HB)) : w.heap.size ≤ gb182)); have n5_ := q13 ((by rw [hg]; exact (q7 (gB HB)) : w.heap.size ≤ gb182)); clear HO178; clear HO181; clear HB; have HO178 := n0_; have HO181 := n1_; have HB := n2_; have BK182 := n3_; have GW182 := n4_; have GE182 := n5_; clear n0_ n1_ n2_ n3_ n4_ n5_; clear hb hbox hg; obtain ⟨Ao8, co8, eo8⟩ := Kd.S_slice HO178.out; subst eo8; have hcz9_0 : w7.cell? ⟨gb182, 0, none⟩ = some (.slice none 0 0) := (q9 BK182.out 0).trans rfl; have hcz9_1 : w7.cell? ⟨gb182, 1, none⟩ = some (.slice none 0 0) := (q9 BK182.out 1).trans rfl; have hfz9_0 := q11 BK182.out 0; have hfz9_1 := q11 BK182.out 1; obtain ⟨Ao10, co10, eo10⟩ := Kd.S_slice HO181.out; subst eo10)))
  go_loopg [7, 8, 9] k (fun kq v7 v8 v9 w' => ∃ (x7_1 : List (S54)) (x8_1 : Int) (x9_1 : Int), v8 = .int .i64 x8_1 ∧ v9 = .int .i64 x9_1 ∧ Aside0 (compare_Least.l0 kq l0 l1 x7_1 x8_1 x9_1 t176 t179 = some (r1, r2)) ∧ Aside0 (kq ≤ k) ∧ Aside0 (Kd.R k54 54 w' w.heap.size (fun _ => True) v7 x7_1) ∧ Aside0 (Kd.S (Kd.slice 3 (Kd.int .i64)) 67 w' w.heap.size (fun _ => True) (.slice Ao8 t176.length co8) t176) ∧ Aside0 (Kd.S (Kd.slice 4 Kd.bool) 82 w' w.heap.size (fun _ => True) (.slice Ao10 t179.length co10) t179) ∧ Aside0 (w'.heap[gb182]? = some (.cells #[(.slice Ao8 t176.length co8), (.slice Ao10 t179.length co10)] 80 (0, 0))) ∧ Aside0 (Below w.heap.size w w'))
  case atStart => exact ⟨(([] : List (S54))), (0), (0), (by first | rfl | (simp; done) | (simp [*]; done)), (by first | rfl | (simp; done) | (simp [*]; done)), H', ⟨q17 _⟩, ⟨by first | exact Kd.R_nil _ _ _ _ _ | exact Kd.N_nil _ _ _ _ _ | exact Kd.V_nil _ _ _ _ _ | exact Kd.Q_nil _ _ _ _ _ | exact Kd.S_nil _ _ _ _ _⟩, ⟨by (with_reducible repeat (first | apply q31 | apply q32 | apply q33)); exact Kd.S_mono (Kd.S_far (p := ⟨gb182, 1, none⟩) (Kd.S_far (p := ⟨gb182, 0, none⟩) (Kd.S_types HO178.out BK182.out (by decide)) (fun _ hk => hk.2) (.slice Ao8 t176.length co8)) (fun _ hk => hk.2) (.slice Ao10 t179.length co10)) (fun _ hk => trivial)⟩, ⟨by (with_reducible repeat (first | apply q31 | apply q32 | apply q33)); exact Kd.S_mono (Kd.S_far (p := ⟨gb182, 1, none⟩) (Kd.S_far (p := ⟨gb182, 0, none⟩) (Kd.S_types HO181.out BK182.out (by decide)) (fun _ hk => hk.2) (.slice Ao8 t176.length co8)) (fun _ hk => hk.2) (.slice Ao10 t179.length co10)) (fun _ hk => trivial)⟩, ⟨by (with_reducible repeat (first | refine q0 ?_ _ | refine q1 ?_ | refine q2 ?_ _)); refine blk_put (cs := #[.slice Ao8 t176.length co8, .slice none 0 0]) ?_ 1 _ rfl; (with_reducible repeat (first | refine q0 ?_ _ | refine q1 ?_ | refine q2 ?_ _)); refine blk_put (cs := #[.slice none 0 0, .slice none 0 0]) ?_ 0 _ rfl; (with_reducible repeat (first | refine q0 ?_ _ | refine q1 ?_ | refine q2 ?_ _)); exact BK182.out⟩, ⟨by repeat (first | (with_reducible first | exact HB.out | apply q3 | apply q4 | apply q5 | refine q6 ?_ GE182.out) | exact HB.out)⟩⟩
  case round =>
   clear H'
   try clear c1
   try clear c2
   try clear p2
   try clear c4
   try clear c4b0
   obtain ⟨x7_1, x8_1, x9_1, rfl, rfl, HA, HK1, HO_7, HO_183000, HO_183001, BK182, HB⟩ := hrel
   cases gk with
   | zero => exact absurd HA.out (by simp [compare_Least.l0])
   | succ k1 =>
    have H := HA.out
    clear HA
    simp only [compare_Least.l0] at H
    have HC11 := q13 H
    clear H
    go_upto_region 6 with (fail)
    repeat (go_quiet (fail); go_upto_region 6 with (fail))
    go_cut [30] (fun v30 wc => ∃ (kq : Nat) (x30_10 : Bool), v30 = .bool x30_10 ∧ Aside0 (compare_Least.j1 kq l0 l1 x7_1 x8_1 x9_1 x30_10 t176 t179 = some (r1, r2)) ∧ Aside0 (kq ≤ k1) ∧ Aside0 (Kd.R k54 54 wc w.heap.size (fun _ => True) u7 x7_1) ∧ Aside0 (Kd.S (Kd.slice 3 (Kd.int .i64)) 67 wc w.heap.size (fun _ => True) (.slice Ao8 t176.length co8) t176) ∧ Aside0 (Kd.S (Kd.slice 4 Kd.bool) 82 wc w.heap.size (fun _ => True) (.slice Ao10 t179.length co10) t179) ∧ Aside0 (wc.heap[gb182]? = some (.cells #[(.slice Ao8 t176.length co8), (.slice Ao10 t179.length co10)] 80 (0, 0))) ∧ Aside0 (Below w.heap.size w wc))
    case first =>
     have H := HC11.out
     clear HC11
     by_cases c12 : x8_1 < (l0.length : Int)
     ·rw [if_pos c12] at H
      have c12b0 : decide (x8_1 < (l0.length : Int)) = true := decide_eq_true c12
      clear c12
      (first | rw [c12b0] | (simp only [i64_w, i32_w]; rw [c12b0]) | skip)
      have H' := q13 H
      clear H
      go_wp2
      repeat (go_quiet (fail); try go_wp2)
      go_meet
      case rel => exact ⟨_, (true), (by first | rfl | (simp; done) | (simp [*]; done)), H', ⟨by have := HK1.out; first | omega | exact q17 _⟩, ⟨by (with_reducible repeat (first | apply Kd.R_alloc | apply Kd.R_drewN | apply Kd.R_drew)); exact HO_7.out⟩, ⟨by (with_reducible repeat (first | apply q31 | apply q32 | apply q33)); exact HO_183000.out⟩, ⟨by (with_reducible repeat (first | apply q31 | apply q32 | apply q33)); exact HO_183001.out⟩, ⟨by (with_reducible repeat (first | refine q0 ?_ _ | refine q1 ?_ | refine q2 ?_ _)); exact BK182.out⟩, ⟨by repeat (first | (with_reducible first | exact HB.out | apply q3 | apply q4 | apply q5 | refine q6 ?_ GE182.out) | exact HB.out)⟩⟩
     ·rw [if_neg c12] at H
      have c12b0 : decide (x8_1 < (l0.length : Int)) = false := decide_eq_false c12
      clear c12
      (first | rw [c12b0] | (simp only [i64_w, i32_w]; rw [c12b0]) | skip)
      have H' := q13 H
      clear H
      go_wp2
      repeat (go_quiet (fail); try go_wp2)
      go_meet
      case rel => exact ⟨_, (decide (x9_1 < (l1.length : Int))), (by first | rfl | (simp; done) | (simp [*]; done)), H', ⟨by have := HK1.out; first | omega | exact q17 _⟩, ⟨by (with_reducible repeat (first | apply Kd.R_alloc | apply Kd.R_drewN | apply Kd.R_drew)); exact HO_7.out⟩, ⟨by (with_reducible repeat (first | apply q31 | apply q32 | apply q33)); exact HO_183000.out⟩, ⟨by (with_reducible repeat (first | apply q31 | apply q32 | apply q33)); exact HO_183001.out⟩, ⟨by (with_reducible repeat (first | refine q0 ?_ _ | refine q1 ?_ | refine q2 ?_ _)); exact BK182.out⟩, ⟨by repeat (first | (with_reducible first | exact HB.out | apply q3 | apply q4 | apply q5 | refine q6 ?_ GE182.out) | exact HB.out)⟩⟩
    case rest =>
     clear HC11
     try clear c1
     try clear c2
     try clear p2
     try clear c4
     try clear c4b0
     try clear c12
     try clear c12b0
     try clear p2
     obtain ⟨kq, x30_10, rfl, HA, HJ10, HO_7, HO_183000, HO_183001, BK182, HB⟩ := hcut
     cases kq with
     | zero => exact absurd HA.out (by simp [compare_Least.j1])
     | succ kj10 =>
      have H := HA.out
      clear HA
      simp only [compare_Least.j1] at H
      by_cases c13 : x30_10 = true
      ·subst c13
       have H1 : (if x8_1 < (l0.length : Int) then (if x9_1 < (l1.length : Int) then (if 0 ≤ x8_1 then (if 0 ≤ x9_1 then (compare_Least.j2 kj10 l0 l1 x7_1 x8_1 x9_1 (((rd_T24 l0 x8_1).f0) == ((rd_T24 l1 x9_1).f0)) t176 t179) else (none)) else (none)) else (compare_Least.j2 kj10 l0 l1 x7_1 x8_1 x9_1 false t176 t179)) else (compare_Least.j2 kj10 l0 l1 x7_1 x8_1 x9_1 false t176 t179)) = some (r1, r2) := by rw [if_pos rfl] at H; exact H
       clear H
       have H := H1
       clear H1
       have HC14 := q13 H
       clear H
       go_upto_region 7 with (fail)
       repeat (go_quiet (fail); go_upto_region 7 with (fail))
       go_cut [10] (fun v10 wc => ∃ (kq : Nat) (x10_13 : Bool), v10 = .bool x10_13 ∧ Aside0 (compare_Least.j2 kq l0 l1 x7_1 x8_1 x9_1 x10_13 t176 t179 = some (r1, r2)) ∧ Aside0 (kq ≤ kj10) ∧ Aside0 (Kd.R k54 54 wc w.heap.size (fun _ => True) u7 x7_1) ∧ Aside0 (Kd.S (Kd.slice 3 (Kd.int .i64)) 67 wc w.heap.size (fun _ => True) (.slice Ao8 t176.length co8) t176) ∧ Aside0 (Kd.S (Kd.slice 4 Kd.bool) 82 wc w.heap.size (fun _ => True) (.slice Ao10 t179.length co10) t179) ∧ Aside0 (wc.heap[gb182]? = some (.cells #[(.slice Ao8 t176.length co8), (.slice Ao10 t179.length co10)] 80 (0, 0))) ∧ Aside0 (Below w.heap.size w wc))
       case first =>
        have H := HC14.out
        clear HC14
        by_cases c15 : x8_1 < (l0.length : Int)
        ·rw [if_pos c15] at H
         have c15b0 : decide (x8_1 < (l0.length : Int)) = true := decide_eq_true c15
         clear c15
         (first | rw [c15b0] | (simp only [i64_w, i32_w]; rw [c15b0]) | skip)
         by_cases c16 : x9_1 < (l1.length : Int)
         ·rw [if_pos c16] at H
          have c16b0 : decide (x9_1 < (l1.length : Int)) = true := decide_eq_true c16
          clear c16
          by_cases c17 : 0 ≤ x8_1
          ·rw [if_pos c17] at H
           have c17b0 : decide (0 ≤ x8_1) = true := decide_eq_true c17
           clear c17
           by_cases c18 : 0 ≤ x9_1
           ·rw [if_pos c18] at H
            have c18b0 : decide (0 ≤ x9_1) = true := decide_eq_true c18
            clear c18
            have H' := q13 H
            clear H
            have p183 : 0 ≤ (x8_1 : Int) := q15 (by assumption)
            have q183 : x8_1 < (l0.length : Int) := q15 (by assumption)
            obtain ⟨ad183, A183_1, c183_1, e183, hx183_0, hx183_1, hl183_1, hi183_1⟩ := at_T24 HR0.out x8_1 p183 q183
            cases e183
            replace hx183_0 := cl HB.out hx183_0
            replace hx183_1 := cl HB.out hx183_1
            have HR183_1 := q13 hi183_1
            have HC183_1 := q13 hl183_1
            clear hi183_1 hl183_1
            replace p183 := eq_true p183
            replace q183 := eq_true q183
            have p184 : 0 ≤ (x9_1 : Int) := q15 (by assumption)
            have q184 : x9_1 < (l1.length : Int) := q15 (by assumption)
            obtain ⟨ad184, A184_1, c184_1, e184, hx184_0, hx184_1, hl184_1, hi184_1⟩ := at_T24 HR1.out x9_1 p184 q184
            cases e184
            replace hx184_0 := cl HB.out hx184_0
            replace hx184_1 := cl HB.out hx184_1
            have HR184_1 := q13 hi184_1
            have HC184_1 := q13 hl184_1
            clear hi184_1 hl184_1
            replace p184 := eq_true p184
            replace q184 := eq_true q184
            go_wp2
            repeat (go_quiet (fail); try go_wp2)
            go_meet
            case rel => exact ⟨_, ((((rd_T24 l0 x8_1).f0) == ((rd_T24 l1 x9_1).f0))), (by first | rfl | (simp; done) | (simp [*]; done)), H', ⟨by have := HK1.out; have := HJ10.out; first | omega | exact q17 _⟩, ⟨by (with_reducible repeat (first | apply Kd.R_alloc | apply Kd.R_drewN | apply Kd.R_drew)); exact HO_7.out⟩, ⟨by (with_reducible repeat (first | apply q31 | apply q32 | apply q33)); exact HO_183000.out⟩, ⟨by (with_reducible repeat (first | apply q31 | apply q32 | apply q33)); exact HO_183001.out⟩, ⟨by (with_reducible repeat (first | refine q0 ?_ _ | refine q1 ?_ | refine q2 ?_ _)); exact BK182.out⟩, ⟨by repeat (first | (with_reducible first | exact HB.out | apply q3 | apply q4 | apply q5 | refine q6 ?_ GE182.out) | exact HB.out)⟩⟩
           ·rw [if_neg c18] at H
            exact absurd H (by simp)
          ·rw [if_neg c17] at H
           exact absurd H (by simp)
         ·rw [if_neg c16] at H
          have c16b0 : decide (x9_1 < (l1.length : Int)) = false := decide_eq_false c16
          clear c16
          have H' := q13 H
          clear H
          go_wp2
          repeat (go_quiet (fail); try go_wp2)
          go_meet
          case rel => exact ⟨_, (false), (by first | rfl | (simp; done) | (simp [*]; done)), H', ⟨by have := HK1.out; have := HJ10.out; first | omega | exact q17 _⟩, ⟨by (with_reducible repeat (first | apply Kd.R_alloc | apply Kd.R_drewN | apply Kd.R_drew)); exact HO_7.out⟩, ⟨by (with_reducible repeat (first | apply q31 | apply q32 | apply q33)); exact HO_183000.out⟩, ⟨by (with_reducible repeat (first | apply q31 | apply q32 | apply q33)); exact HO_183001.out⟩, ⟨by (with_reducible repeat (first | refine q0 ?_ _ | refine q1 ?_ | refine q2 ?_ _)); exact BK182.out⟩, ⟨by repeat (first | (with_reducible first | exact HB.out | apply q3 | apply q4 | apply q5 | refine q6 ?_ GE182.out) | exact HB.out)⟩⟩
        ·rw [if_neg c15] at H
         have c15b0 : decide (x8_1 < (l0.length : Int)) = false := decide_eq_false c15
         clear c15
         (first | rw [c15b0] | (simp only [i64_w, i32_w]; rw [c15b0]) | skip)
         have H' := q13 H
         clear H
         go_wp2
         repeat (go_quiet (fail); try go_wp2)
         go_meet
         case rel => exact ⟨_, (false), (by first | rfl | (simp; done) | (simp [*]; done)), H', ⟨by have := HK1.out; have := HJ10.out; first | omega | exact q17 _⟩, ⟨by (with_reducible repeat (first | apply Kd.R_alloc | apply Kd.R_drewN | apply Kd.R_drew)); exact HO_7.out⟩, ⟨by (with_reducible repeat (first | apply q31 | apply q32 | apply q33)); exact HO_183000.out⟩, ⟨by (with_reducible repeat (first | apply q31 | apply q32 | apply q33)); exact HO_183001.out⟩, ⟨by (with_reducible repeat (first | refine q0 ?_ _ | refine q1 ?_ | refine q2 ?_ _)); exact BK182.out⟩, ⟨by repeat (first | (with_reducible first | exact HB.out | apply q3 | apply q4 | apply q5 | refine q6 ?_ GE182.out) | exact HB.out)⟩⟩
       case rest =>
        clear HC14
        try clear c1
        try clear p1
        try clear q1
        try clear hx1
        try clear c2
        try clear p2
        try clear c4
        try clear c4b0
        try clear c12
        try clear c12b0
        try clear c13
        try clear c15
        try clear c15b0
        try clear c16
        try clear c16b0
        try clear c17
        try clear c17b0
        try clear c18
        try clear c18b0
        try clear p18
        try clear q18
        try clear hx18
        try clear hx183_0
        try clear hx183_1
        try clear hx184_0
        try clear hx184_1
        try clear p183
        try clear p184
        try clear p2
        try clear q183
        try clear q184
        obtain ⟨kq, x10_13, rfl, HA, HJ13, HO_7, HO_183000, HO_183001, BK182, HB⟩ := hcut
        cases kq with
        | zero => exact absurd HA.out (by simp [compare_Least.j2])
        | succ kj13 =>
         have H := HA.out
         clear HA
         simp only [compare_Least.j2] at H
         by_cases c19 : 0 ≤ x8_1
         ·rw [if_pos c19] at H
          have c19b0 : decide (0 ≤ x8_1) = true := decide_eq_true c19
          clear c19
          by_cases c20 : x8_1 < (t176.length : Int)
          ·rw [if_pos c20] at H
           have c20b0 : decide (x8_1 < (t176.length : Int)) = true := decide_eq_true c20
           clear c20
           by_cases c21 : 0 ≤ x9_1
           ·rw [if_pos c21] at H
            have c21b0 : decide (0 ≤ x9_1) = true := decide_eq_true c21
            clear c21
            by_cases c22 : x9_1 < ((rd_L2 t176 x8_1).length : Int)
            ·rw [if_pos c22] at H
             have c22b0 : decide (x9_1 < ((rd_L2 t176 x8_1).length : Int)) = true := decide_eq_true c22
             clear c22
             have HC23 := q13 H
             clear H
             have hcz24_0 : wc.cell? ⟨gb182, 0, none⟩ = some (.slice Ao8 t176.length co8) := (q9 BK182.out 0).trans rfl
             have hcz24_1 : wc.cell? ⟨gb182, 1, none⟩ = some (.slice Ao10 t179.length co10) := (q9 BK182.out 1).trans rfl
             have hfz24_0 := q11 BK182.out 0
             have hfz24_1 := q11 BK182.out 1
             have p185 : 0 ≤ (x8_1 : Int) := q15 (by assumption)
             have q185 : x8_1 < (t176.length : Int) := q15 (by assumption)
             obtain ⟨ad185, A185_0, c185_0, e185, hx185_0, hl185_0, hi185_0⟩ := at_L2 (Kd.S_reads' HO_183000.out).2.2 x8_1 p185 q185
             cases e185
             obtain ⟨ce185, hce185, hMe185, hcc185⟩ := Kd.S_get HO_183000.out [] x8_1 p185 (by first | exact q185 | exact q15 (by assumption) | (have e_ := (Kd.S_reads' HO_183000.out).1; omega))
             obtain ⟨ve185_0, rfl, ge185_0⟩ := hMe185
             have hv185_0 := hcc185 0 _ rfl
             rw [Nat.add_zero, show ((Kd.slice 3 (Kd.int .i64))).sz = 1 from rfl, Nat.mul_one] at hv185_0
             replace hv185_0 := Option.some.inj (hv185_0.symm.trans hx185_0)
             rw [hv185_0] at ge185_0
             have HL185_0 := q13 (show Kd.R (Kd.int .i64) 3 _ _ _ _ (rd_L2 t176 x8_1) from ge185_0)
             clear hv185_0 ge185_0
             clear hcc185 hce185
             have HR185_0 := q13 hi185_0
             have HC185_0 := q13 hl185_0
             clear hi185_0 hl185_0
             replace p185 := eq_true p185
             replace q185 := eq_true q185
             have p186 : 0 ≤ (x9_1 : Int) := q15 (by assumption)
             have q186 : x9_1 < ((rd_L2 t176 x8_1).length : Int) := q15 (by assumption)
             obtain ⟨ad186, e186, hx186_0⟩ := Kd.at_int (by repeat (first | (with_reducible exact HR185_0.out) | (with_reducible refine q18 ?_ _) | (with_reducible refine q19 ?_ _) | (with_reducible refine q20 ?_) | exact HR185_0.out)) x9_1 p186 q186
             cases e186
             replace p186 := eq_true p186
             replace q186 := eq_true q186
             go_upto_region 11 with (fail)
             repeat (go_quiet (fail); go_upto_region 11 with (fail))
             go_cut [69] (fun v69 wc => ∃ (kq : Nat) (x69_22 : Bool), v69 = .bool x69_22 ∧ Aside0 (compare_Least.j3 kq l0 l1 x7_1 x8_1 x9_1 x10_13 (rd (rd_L2 t176 x8_1) x9_1) x69_22 t176 t179 = some (r1, r2)) ∧ Aside0 (kq ≤ kj13) ∧ Aside0 (Kd.R k54 54 wc w.heap.size (fun _ => True) u7 x7_1) ∧ Aside0 (Kd.S (Kd.slice 3 (Kd.int .i64)) 67 wc w.heap.size (fun _ => True) (.slice (some ad185) t176.length co8) t176) ∧ Aside0 (Kd.S (Kd.slice 4 Kd.bool) 82 wc w.heap.size (fun _ => True) (.slice Ao10 t179.length co10) t179) ∧ Aside0 (wc.heap[gb182]? = some (.cells #[(.slice (some ad185) t176.length co8), (.slice Ao10 t179.length co10)] 80 (0, 0))) ∧ Aside0 (Kd.C (Kd.int .i64) wc (some ad186) (rd_L2 t176 x8_1).length (rd_L2 t176 x8_1)) ∧ Aside0 (Below w.heap.size w wc))
             case first =>
              have H := HC23.out
              clear HC23
              by_cases c25 : x10_13 = true
              ·subst c25
               have H1 : (if x8_1 < (t179.length : Int) then (if x9_1 < ((rd_L7 t179 x8_1).length : Int) then (if rdOf false (rd_L7 t179 x8_1) x9_1 = true then (if 0 ≤ (wrap64 (x8_1 + 1)) then (if (wrap64 (x8_1 + 1)) < (t176.length : Int) then (if 0 ≤ (wrap64 (x9_1 + 1)) then (if (wrap64 (x9_1 + 1)) < ((rd_L2 t176 (wrap64 (x8_1 + 1))).length : Int) then (compare_Least.j3 kj13 l0 l1 x7_1 x8_1 x9_1 true (rd (rd_L2 t176 x8_1) x9_1) ((rd (rd_L2 t176 x8_1) x9_1) == (rd (rd_L2 t176 (wrap64 (x8_1 + 1))) (wrap64 (x9_1 + 1)))) t176 t179) else (none)) else (none)) else (none)) else (none)) else (compare_Least.j3 kj13 l0 l1 x7_1 x8_1 x9_1 true (rd (rd_L2 t176 x8_1) x9_1) false t176 t179)) else (none)) else (none)) = some (r1, r2) := by rw [if_pos rfl] at H; exact H
               clear H
               have H := H1
               clear H1
               by_cases c26 : x8_1 < (t179.length : Int)
               ·rw [if_pos c26] at H
                have c26b0 : decide (x8_1 < (t179.length : Int)) = true := decide_eq_true c26
                clear c26
                (first | rw [c26b0] | (simp only [i64_w, i32_w]; rw [c26b0]) | skip)
                by_cases c27 : x9_1 < ((rd_L7 t179 x8_1).length : Int)
                ·rw [if_pos c27] at H
                 have c27b0 : decide (x9_1 < ((rd_L7 t179 x8_1).length : Int)) = true := decide_eq_true c27
                 clear c27
                 obtain ⟨bq28, hbq28⟩ : ∃ b_ : Bool, b_ = (rdOf false (rd_L7 t179 x8_1) x9_1) := ⟨_, rfl⟩
                 replace H : (if bq28 = true then (if 0 ≤ (wrap64 (x8_1 + 1)) then (if (wrap64 (x8_1 + 1)) < (t176.length : Int) then (if 0 ≤ (wrap64 (x9_1 + 1)) then (if (wrap64 (x9_1 + 1)) < ((rd_L2 t176 (wrap64 (x8_1 + 1))).length : Int) then (compare_Least.j3 kj13 l0 l1 x7_1 x8_1 x9_1 true (rd (rd_L2 t176 x8_1) x9_1) ((rd (rd_L2 t176 x8_1) x9_1) == (rd (rd_L2 t176 (wrap64 (x8_1 + 1))) (wrap64 (x9_1 + 1)))) t176 t179) else (none)) else (none)) else (none)) else (none)) else (compare_Least.j3 kj13 l0 l1 x7_1 x8_1 x9_1 true (rd (rd_L2 t176 x8_1) x9_1) false t176 t179)) = some (r1, r2) := by rw [← hbq28] at H; exact H
                 have Nbq28 := q13 hbq28
                 clear hbq28
                 by_cases c29 : bq28 = true
                 ·subst c29
                  have H1 : (if 0 ≤ (wrap64 (x8_1 + 1)) then (if (wrap64 (x8_1 + 1)) < (t176.length : Int) then (if 0 ≤ (wrap64 (x9_1 + 1)) then (if (wrap64 (x9_1 + 1)) < ((rd_L2 t176 (wrap64 (x8_1 + 1))).length : Int) then (compare_Least.j3 kj13 l0 l1 x7_1 x8_1 x9_1 true (rd (rd_L2 t176 x8_1) x9_1) ((rd (rd_L2 t176 x8_1) x9_1) == (rd (rd_L2 t176 (wrap64 (x8_1 + 1))) (wrap64 (x9_1 + 1)))) t176 t179) else (none)) else (none)) else (none)) else (none)) = some (r1, r2) := by rw [if_pos rfl] at H; exact H
                  clear H
                  have H := H1
                  clear H1
                  obtain ⟨ji30, hji30⟩ : ∃ j_ : Int, (wrap64 (x8_1 + 1)) = j_ := ⟨_, rfl⟩
                  replace H : (if 0 ≤ (ji30) then (if (ji30) < (t176.length : Int) then (if 0 ≤ (wrap64 (x9_1 + 1)) then (if (wrap64 (x9_1 + 1)) < ((rd_L2 t176 (ji30)).length : Int) then (compare_Least.j3 kj13 l0 l1 x7_1 x8_1 x9_1 true (rd (rd_L2 t176 x8_1) x9_1) ((rd (rd_L2 t176 x8_1) x9_1) == (rd (rd_L2 t176 (ji30)) (wrap64 (x9_1 + 1)))) t176 t179) else (none)) else (none)) else (none)) else (none)) = some (r1, r2) := by first | (rw [hji30] at H; exact H) | (simp only [hji30] at H ⊢; exact H)
                  have hji30w : (IntKind.i64.wrap (x8_1 + 1)) = ji30 := (i64_w _).trans hji30
                  by_cases c31 : 0 ≤ (ji30)
                  ·rw [if_pos c31] at H
                   have c31b0 : decide (0 ≤ (ji30)) = true := decide_eq_true c31
                   clear c31
                   by_cases c32 : (ji30) < (t176.length : Int)
                   ·rw [if_pos c32] at H
                    have c32b0 : decide ((ji30) < (t176.length : Int)) = true := decide_eq_true c32
                    clear c32
                    obtain ⟨ji33, hji33⟩ : ∃ j_ : Int, (wrap64 (x9_1 + 1)) = j_ := ⟨_, rfl⟩
                    replace H : (if 0 ≤ (ji33) then (if (ji33) < ((rd_L2 t176 (ji30)).length : Int) then (compare_Least.j3 kj13 l0 l1 x7_1 x8_1 x9_1 true (rd (rd_L2 t176 x8_1) x9_1) ((rd (rd_L2 t176 x8_1) x9_1) == (rd (rd_L2 t176 (ji30)) (ji33))) t176 t179) else (none)) else (none)) = some (r1, r2) := by first | (rw [hji33] at H; exact H) | (simp only [hji33] at H ⊢; exact H)
                    have hji33w : (IntKind.i64.wrap (x9_1 + 1)) = ji33 := (i64_w _).trans hji33
                    by_cases c34 : 0 ≤ (ji33)
                    ·rw [if_pos c34] at H
                     have c34b0 : decide (0 ≤ (ji33)) = true := decide_eq_true c34
                     clear c34
                     by_cases c35 : (ji33) < ((rd_L2 t176 (ji30)).length : Int)
                     ·rw [if_pos c35] at H
                      have c35b0 : decide ((ji33) < ((rd_L2 t176 (ji30)).length : Int)) = true := decide_eq_true c35
                      clear c35
                      have H' := q13 H
                      clear H
                      have hcz36_0 : wc.cell? ⟨gb182, 0, none⟩ = some (.slice (some ad185) t176.length co8) := (q9 BK182.out 0).trans rfl
                      have hcz36_1 : wc.cell? ⟨gb182, 1, none⟩ = some (.slice Ao10 t179.length co10) := (q9 BK182.out 1).trans rfl
                      have hfz36_0 := q11 BK182.out 0
                      have hfz36_1 := q11 BK182.out 1
                      have p187 : 0 ≤ (x8_1 : Int) := q15 (by assumption)
                      have q187 : x8_1 < (t179.length : Int) := q15 (by assumption)
                      obtain ⟨ad187, A187_0, c187_0, e187, hx187_0, hl187_0, hi187_0⟩ := at_L7 (Kd.S_reads' HO_183001.out).2.2 x8_1 p187 q187
                      cases e187
                      obtain ⟨ce187, hce187, hMe187, hcc187⟩ := Kd.S_get HO_183001.out [] x8_1 p187 (by first | exact q187 | exact q15 (by assumption) | (have e_ := (Kd.S_reads' HO_183001.out).1; omega))
                      obtain ⟨ve187_0, rfl, ge187_0⟩ := hMe187
                      have hv187_0 := hcc187 0 _ rfl
                      rw [Nat.add_zero, show ((Kd.slice 4 Kd.bool)).sz = 1 from rfl, Nat.mul_one] at hv187_0
                      replace hv187_0 := Option.some.inj (hv187_0.symm.trans hx187_0)
                      rw [hv187_0] at ge187_0
                      have HL187_0 := q13 (show Kd.R Kd.bool 4 _ _ _ _ (rd_L7 t179 x8_1) from ge187_0)
                      clear hv187_0 ge187_0
                      clear hcc187 hce187
                      have HR187_0 := q13 hi187_0
                      have HC187_0 := q13 hl187_0
                      clear hi187_0 hl187_0
                      replace p187 := eq_true p187
                      replace q187 := eq_true q187
                      have p188 : 0 ≤ (x9_1 : Int) := q15 (by assumption)
                      have q188 : x9_1 < ((rd_L7 t179 x8_1).length : Int) := q15 (by assumption)
                      obtain ⟨ad188, e188, hx188_0⟩ := Kd.at_bool (by repeat (first | (with_reducible exact HR187_0.out) | (with_reducible refine q18 ?_ _) | (with_reducible refine q19 ?_ _) | (with_reducible refine q20 ?_) | exact HR187_0.out)) x9_1 p188 q188
                      (try rw [← Nbq28.out] at hx188_0)
                      cases e188
                      replace p188 := eq_true p188
                      replace q188 := eq_true q188
                      have p189 : 0 ≤ ((ji30) : Int) := q15 (by assumption)
                      have q189 : (ji30) < (t176.length : Int) := q15 (by assumption)
                      obtain ⟨ad189, A189_0, c189_0, e189, hx189_0, hl189_0, hi189_0⟩ := at_L2 (Kd.S_reads' HO_183000.out).2.2 (ji30) p189 q189
                      obtain rfl : ad185 = ad189 := (by injection e189)
                      obtain ⟨ce189, hce189, hMe189, hcc189⟩ := Kd.S_get HO_183000.out [] (ji30) p189 (by first | exact q189 | exact q15 (by assumption) | (have e_ := (Kd.S_reads' HO_183000.out).1; omega))
                      obtain ⟨ve189_0, rfl, ge189_0⟩ := hMe189
                      have hv189_0 := hcc189 0 _ rfl
                      rw [Nat.add_zero, show ((Kd.slice 3 (Kd.int .i64))).sz = 1 from rfl, Nat.mul_one] at hv189_0
                      replace hv189_0 := Option.some.inj (hv189_0.symm.trans hx189_0)
                      rw [hv189_0] at ge189_0
                      have HL189_0 := q13 (show Kd.R (Kd.int .i64) 3 _ _ _ _ (rd_L2 t176 (ji30)) from ge189_0)
                      clear hv189_0 ge189_0
                      clear hcc189 hce189
                      have HR189_0 := q13 hi189_0
                      have HC189_0 := q13 hl189_0
                      clear hi189_0 hl189_0
                      replace p189 := eq_true p189
                      replace q189 := eq_true q189
                      have p190 : 0 ≤ ((ji33) : Int) := q15 (by assumption)
                      have q190 : (ji33) < ((rd_L2 t176 (ji30)).length : Int) := q15 (by assumption)
                      obtain ⟨ad190, e190, hx190_0⟩ := Kd.at_int (by repeat (first | (with_reducible exact HR189_0.out) | (with_reducible refine q18 ?_ _) | (with_reducible refine q19 ?_ _) | (with_reducible refine q20 ?_) | exact HR189_0.out)) (ji33) p190 q190
                      cases e190
                      replace p190 := eq_true p190
                      replace q190 := eq_true q190
                      go_wp2
                      repeat (go_quiet (fail); try go_wp2)
                      go_meet
                      case rel => exact ⟨_, (((rd (rd_L2 t176 x8_1) x9_1) == (rd (rd_L2 t176 (ji30)) (ji33)))), (by first | rfl | (simp; done) | (simp only [← hji30, ← hji33] <;> (first | rfl | (simp; done) | (simp [mn, mx]; done))) | (simp [*]; done)), H', ⟨by have := HK1.out; have := HJ10.out; have := HJ13.out; first | omega | exact q17 _⟩, ⟨by (with_reducible repeat (first | apply Kd.R_alloc | apply Kd.R_drewN | apply Kd.R_drew)); exact HO_7.out⟩, ⟨by (with_reducible repeat (first | apply q31 | apply q32 | apply q33)); exact HO_183000.out⟩, ⟨by (with_reducible repeat (first | apply q31 | apply q32 | apply q33)); exact HO_183001.out⟩, ⟨by (with_reducible repeat (first | refine q0 ?_ _ | refine q1 ?_ | refine q2 ?_ _)); exact BK182.out⟩, ⟨by repeat (first | (with_reducible exact HR185_0.out) | (with_reducible refine q18 ?_ _) | (with_reducible refine q19 ?_ _) | (with_reducible refine q20 ?_) | exact HR185_0.out)⟩, ⟨by repeat (first | (with_reducible first | exact HB.out | apply q3 | apply q4 | apply q5 | refine q6 ?_ GE182.out) | exact HB.out)⟩⟩
                     ·rw [if_neg c35] at H
                      exact absurd H (by simp)
                    ·rw [if_neg c34] at H
                     exact absurd H (by simp)
                   ·rw [if_neg c32] at H
                    exact absurd H (by simp)
                  ·rw [if_neg c31] at H
                   exact absurd H (by simp)
                 ·replace c29 := Bool.eq_false_iff.mpr c29
                  subst c29
                  have H1 : (compare_Least.j3 kj13 l0 l1 x7_1 x8_1 x9_1 true (rd (rd_L2 t176 x8_1) x9_1) false t176 t179) = some (r1, r2) := by rw [if_neg (show ¬ (false = true) by decide)] at H; exact H
                  clear H
                  have H := H1
                  clear H1
                  have H' := q13 H
                  clear H
                  have hcz37_0 : wc.cell? ⟨gb182, 0, none⟩ = some (.slice (some ad185) t176.length co8) := (q9 BK182.out 0).trans rfl
                  have hcz37_1 : wc.cell? ⟨gb182, 1, none⟩ = some (.slice Ao10 t179.length co10) := (q9 BK182.out 1).trans rfl
                  have hfz37_0 := q11 BK182.out 0
                  have hfz37_1 := q11 BK182.out 1
                  have p187 : 0 ≤ (x8_1 : Int) := q15 (by assumption)
                  have q187 : x8_1 < (t179.length : Int) := q15 (by assumption)
                  obtain ⟨ad187, A187_0, c187_0, e187, hx187_0, hl187_0, hi187_0⟩ := at_L7 (Kd.S_reads' HO_183001.out).2.2 x8_1 p187 q187
                  cases e187
                  obtain ⟨ce187, hce187, hMe187, hcc187⟩ := Kd.S_get HO_183001.out [] x8_1 p187 (by first | exact q187 | exact q15 (by assumption) | (have e_ := (Kd.S_reads' HO_183001.out).1; omega))
                  obtain ⟨ve187_0, rfl, ge187_0⟩ := hMe187
                  have hv187_0 := hcc187 0 _ rfl
                  rw [Nat.add_zero, show ((Kd.slice 4 Kd.bool)).sz = 1 from rfl, Nat.mul_one] at hv187_0
                  replace hv187_0 := Option.some.inj (hv187_0.symm.trans hx187_0)
                  rw [hv187_0] at ge187_0
                  have HL187_0 := q13 (show Kd.R Kd.bool 4 _ _ _ _ (rd_L7 t179 x8_1) from ge187_0)
                  clear hv187_0 ge187_0
                  clear hcc187 hce187
                  have HR187_0 := q13 hi187_0
                  have HC187_0 := q13 hl187_0
                  clear hi187_0 hl187_0
                  replace p187 := eq_true p187
                  replace q187 := eq_true q187
                  have p188 : 0 ≤ (x9_1 : Int) := q15 (by assumption)
                  have q188 : x9_1 < ((rd_L7 t179 x8_1).length : Int) := q15 (by assumption)
                  obtain ⟨ad188, e188, hx188_0⟩ := Kd.at_bool (by repeat (first | (with_reducible exact HR187_0.out) | (with_reducible refine q18 ?_ _) | (with_reducible refine q19 ?_ _) | (with_reducible refine q20 ?_) | exact HR187_0.out)) x9_1 p188 q188
                  (try rw [← Nbq28.out] at hx188_0)
                  cases e188
                  replace p188 := eq_true p188
                  replace q188 := eq_true q188
                  go_wp2
                  repeat (go_quiet (fail); try go_wp2)
                  go_meet
                  case rel => exact ⟨_, (false), (by first | rfl | (simp; done) | (simp [*]; done)), H', ⟨by have := HK1.out; have := HJ10.out; have := HJ13.out; first | omega | exact q17 _⟩, ⟨by (with_reducible repeat (first | apply Kd.R_alloc | apply Kd.R_drewN | apply Kd.R_drew)); exact HO_7.out⟩, ⟨by (with_reducible repeat (first | apply q31 | apply q32 | apply q33)); exact HO_183000.out⟩, ⟨by (with_reducible repeat (first | apply q31 | apply q32 | apply q33)); exact HO_183001.out⟩, ⟨by (with_reducible repeat (first | refine q0 ?_ _ | refine q1 ?_ | refine q2 ?_ _)); exact BK182.out⟩, ⟨by repeat (first | (with_reducible exact HR185_0.out) | (with_reducible refine q18 ?_ _) | (with_reducible refine q19 ?_ _) | (with_reducible refine q20 ?_) | exact HR185_0.out)⟩, ⟨by repeat (first | (with_reducible first | exact HB.out | apply q3 | apply q4 | apply q5 | refine q6 ?_ GE182.out) | exact HB.out)⟩⟩
                ·rw [if_neg c27] at H
                 exact absurd H (by simp)
               ·rw [if_neg c26] at H
                exact absurd H (by simp)
              ·replace c25 := Bool.eq_false_iff.mpr c25
               subst c25
               have H1 : (compare_Least.j3 kj13 l0 l1 x7_1 x8_1 x9_1 false (rd (rd_L2 t176 x8_1) x9_1) false t176 t179) = some (r1, r2) := by rw [if_neg (show ¬ (false = true) by decide)] at H; exact H
               clear H
               have H := H1
               clear H1
               have H' := q13 H
               clear H
               go_wp2
               repeat (go_quiet (fail); try go_wp2)
               go_meet
               case rel => exact ⟨_, (false), (by first | rfl | (simp; done) | (simp [*]; done)), H', ⟨by have := HK1.out; have := HJ10.out; have := HJ13.out; first | omega | exact q17 _⟩, ⟨by (with_reducible repeat (first | apply Kd.R_alloc | apply Kd.R_drewN | apply Kd.R_drew)); exact HO_7.out⟩, ⟨by (with_reducible repeat (first | apply q31 | apply q32 | apply q33)); exact HO_183000.out⟩, ⟨by (with_reducible repeat (first | apply q31 | apply q32 | apply q33)); exact HO_183001.out⟩, ⟨by (with_reducible repeat (first | refine q0 ?_ _ | refine q1 ?_ | refine q2 ?_ _)); exact BK182.out⟩, ⟨by repeat (first | (with_reducible exact HR185_0.out) | (with_reducible refine q18 ?_ _) | (with_reducible refine q19 ?_ _) | (with_reducible refine q20 ?_) | exact HR185_0.out)⟩, ⟨by repeat (first | (with_reducible first | exact HB.out | apply q3 | apply q4 | apply q5 | refine q6 ?_ GE182.out) | exact HB.out)⟩⟩
             case rest =>
              clear HC23
              try clear c1
              try clear p1
              try clear q1
              try clear hx1
              try clear c2
              try clear p2
              try clear q2
              try clear c3
              try clear c4
              try clear c4b0
              try clear p6
              try clear c12
              try clear c12b0
              try clear c13
              try clear c15
              try clear c15b0
              try clear c16
              try clear c16b0
              try clear c17
              try clear c17b0
              try clear c18
              try clear c18b0
              try clear p18
              try clear q18
              try clear hx18
              try clear c19
              try clear c19b0
              try clear p19
              try clear q19
              try clear hx19
              try clear c20
              try clear c20b0
              try clear c21
              try clear c21b0
              try clear c22
              try clear c22b0
              try clear c24
              try clear c25
              try clear c26
              try clear c26b0
              try clear c27
              try clear c27b0
              try clear q28
              try clear c29
              try clear c31
              try clear c31b0
              try clear c32
              try clear c32b0
              try clear c34
              try clear c34b0
              try clear c35
              try clear c35b0
              try clear hx183_0
              try clear hx183_1
              try clear hx184_0
              try clear hx184_1
              try clear hx185_0
              try clear hx186_0
              try clear hx187_0
              try clear hx188_0
              try clear hx189_0
              try clear hx190_0
              try clear p1
              try clear p18
              try clear p183
              try clear p184
              try clear p185
              try clear p186
              try clear p187
              try clear p188
              try clear p189
              try clear p190
              try clear p2
              try clear q1
              try clear q18
              try clear q183
              try clear q184
              try clear q185
              try clear q186
              try clear q187
              try clear q188
              try clear q189
              try clear q190
              obtain ⟨kq, x69_22, rfl, HA, HJ22, HO_7, HO_183000, HO_183001, BK182, HR185_0, HB⟩ := hcut
              cases kq with
              | zero => exact absurd HA.out (by simp [compare_Least.j3])
              | succ kj22 =>
               have H := HA.out
               clear HA
               simp only [compare_Least.j3] at H
               by_cases c38 : x69_22 = true
               ·subst c38
                have H1 : (if x7_1.length < 5864062014805 then (compare_Least.l0 kj22 l0 l1 (x7_1 ++ [(⟨0, x8_1, x9_1⟩ : S54)]) (wrap64 (x8_1 + 1)) (wrap64 (x9_1 + 1)) t176 t179) else (none)) = some (r1, r2) := by rw [if_pos rfl] at H; exact H
                clear H
                have H := H1
                clear H1
                by_cases c39 : x7_1.length < 5864062014805
                ·rw [if_pos c39] at H
                 have LMc39 := q13 c39
                 clear c39
                 obtain ⟨y191, hy191⟩ : ∃ y_ : List (S54), y_ = (x7_1 ++ [(⟨0, x8_1, x9_1⟩ : S54)]) := ⟨_, rfl⟩
                 replace H : (compare_Least.l0 kj22 l0 l1 y191 (wrap64 (x8_1 + 1)) (wrap64 (x9_1 + 1)) t176 t179) = some (r1, r2) := by first | (rw [hy191]; with_reducible exact H) | (have H2_ := (Option.bind_some _ _).symm.trans H; rw [hy191]; with_reducible exact H2_) | (have H2_ := (Option.bind_some _ _).symm.trans H; with_reducible exact H2_) | with_reducible exact H | (rw [hy191]; exact H) | exact H
                 have Ny191 := q13 hy191
                 clear hy191
                 have H' := q13 H
                 clear H
                 go_wp2_with (first | ((with_reducible refine gate_builtin (b := .append) (xs := #[.tmp 95, .tmp 99]) rfl ?_); (try (refine gate_guard (by rfl) ?_; dsimp only)); at_builtin; refine Kd.R_append k54 (w0 := w) w.heap.size rfl (.tmp 95) (.tmp 99) 52 54 (.agg #[(.int .i64 0), (.int .i64 0), (.int .i64 0)]) 24 rfl Try.underlying52 info54 rfl (by decide) (by omega) u7 x7_1 (⟨0, x8_1, x9_1⟩ : S54) [.int .i64 0, .int .i64 x8_1, .int .i64 x9_1] (fun _ => True) (fun _ => False) rfl rfl ?aP (fun _ hk => hk.elim) ?aF ?aO ?aB ?aS ?aL ?_; (case aP => exact k54_mkM _ _ _ (⟨0, x8_1, x9_1⟩ : S54)); (case aB => exact (by repeat (first | (with_reducible first | exact HB.out | apply q3 | apply q4 | apply q5 | refine q6 ?_ GE182.out) | exact HB.out))); (case aF => exact (fun _ _ => trivial)); (case aO => exact (gR HO_7)); (case aS => exact (q7 (by repeat (first | (with_reducible first | exact HB.out | apply q3 | apply q4 | apply q5 | refine q6 ?_ GE182.out) | exact HB.out)))); (case aL => have := LMc39.out; omega); intro v192 w40 ho hb hg hat; rw [← Ny191.out] at ho; have n0_ := q13 (Kd.S_over' (gS HO_183000) (Kd.R_typed (gR HO_7)) (by decide) hg); have n1_ := q13 (Kd.S_over' (gS HO_183001) (Kd.R_typed (gR HO_7)) (by decide) hg); have n2_ := q13 (blk_grown (g := gb182) (o := .cells #[.slice (some ad185) t176.length co8, .slice Ao10 t179.length co10] 80 (0, 0)) (gK BK182) hg (Kd.R_ne HO_7.out BK182.out (by decide))); have n3_ := q13 (hb); have n4_ := q13 (ho); clear HO_183000; clear HO_183001; clear BK182; clear HB; clear HO_7; have HO_183000 := n0_; have HO_183001 := n1_; have BK182 := n2_; have HB := n3_; have HO193 := n4_; clear n0_ n1_ n2_ n3_ n4_; clear ho hb hg hat))
                 repeat (go_quiet (first | ((with_reducible refine gate_builtin (b := .append) (xs := #[.tmp 95, .tmp 99]) rfl ?_); (try (refine gate_guard (by rfl) ?_; dsimp only)); at_builtin; refine Kd.R_append k54 (w0 := w) w.heap.size rfl (.tmp 95) (.tmp 99) 52 54 (.agg #[(.int .i64 0), (.int .i64 0), (.int .i64 0)]) 24 rfl Try.underlying52 info54 rfl (by decide) (by omega) u7 x7_1 (⟨0, x8_1, x9_1⟩ : S54) [.int .i64 0, .int .i64 x8_1, .int .i64 x9_1] (fun _ => True) (fun _ => False) rfl rfl ?aP (fun _ hk => hk.elim) ?aF ?aO ?aB ?aS ?aL ?_; (case aP => exact k54_mkM _ _ _ (⟨0, x8_1, x9_1⟩ : S54)); (case aB => exact (by repeat (first | (with_reducible first | exact HB.out | apply q3 | apply q4 | apply q5 | refine q6 ?_ GE182.out) | exact HB.out))); (case aF => exact (fun _ _ => trivial)); (case aO => exact (gR HO_7)); (case aS => exact (q7 (by repeat (first | (with_reducible first | exact HB.out | apply q3 | apply q4 | apply q5 | refine q6 ?_ GE182.out) | exact HB.out)))); (case aL => have := LMc39.out; omega); intro v192 w40 ho hb hg hat; rw [← Ny191.out] at ho; have n0_ := q13 (Kd.S_over' (gS HO_183000) (Kd.R_typed (gR HO_7)) (by decide) hg); have n1_ := q13 (Kd.S_over' (gS HO_183001) (Kd.R_typed (gR HO_7)) (by decide) hg); have n2_ := q13 (blk_grown (g := gb182) (o := .cells #[.slice (some ad185) t176.length co8, .slice Ao10 t179.length co10] 80 (0, 0)) (gK BK182) hg (Kd.R_ne HO_7.out BK182.out (by decide))); have n3_ := q13 (hb); have n4_ := q13 (ho); clear HO_183000; clear HO_183001; clear BK182; clear HB; clear HO_7; have HO_183000 := n0_; have HO_183001 := n1_; have BK182 := n2_; have HB := n3_; have HO193 := n4_; clear n0_ n1_ n2_ n3_ n4_; clear ho hb hg hat)); try go_wp2_with (first | ((with_reducible refine gate_builtin (b := .append) (xs := #[.tmp 95, .tmp 99]) rfl ?_); (try (refine gate_guard (by rfl) ?_; dsimp only)); at_builtin; refine Kd.R_append k54 (w0 := w) w.heap.size rfl (.tmp 95) (.tmp 99) 52 54 (.agg #[(.int .i64 0), (.int .i64 0), (.int .i64 0)]) 24 rfl Try.underlying52 info54 rfl (by decide) (by omega) u7 x7_1 (⟨0, x8_1, x9_1⟩ : S54) [.int .i64 0, .int .i64 x8_1, .int .i64 x9_1] (fun _ => True) (fun _ => False) rfl rfl ?aP (fun _ hk => hk.elim) ?aF ?aO ?aB ?aS ?aL ?_; (case aP => exact k54_mkM _ _ _ (⟨0, x8_1, x9_1⟩ : S54)); (case aB => exact (by repeat (first | (with_reducible first | exact HB.out | apply q3 | apply q4 | apply q5 | refine q6 ?_ GE182.out) | exact HB.out))); (case aF => exact (fun _ _ => trivial)); (case aO => exact (gR HO_7)); (case aS => exact (q7 (by repeat (first | (with_reducible first | exact HB.out | apply q3 | apply q4 | apply q5 | refine q6 ?_ GE182.out) | exact HB.out)))); (case aL => have := LMc39.out; omega); intro v192 w40 ho hb hg hat; rw [← Ny191.out] at ho; have n0_ := q13 (Kd.S_over' (gS HO_183000) (Kd.R_typed (gR HO_7)) (by decide) hg); have n1_ := q13 (Kd.S_over' (gS HO_183001) (Kd.R_typed (gR HO_7)) (by decide) hg); have n2_ := q13 (blk_grown (g := gb182) (o := .cells #[.slice (some ad185) t176.length co8, .slice Ao10 t179.length co10] 80 (0, 0)) (gK BK182) hg (Kd.R_ne HO_7.out BK182.out (by decide))); have n3_ := q13 (hb); have n4_ := q13 (ho); clear HO_183000; clear HO_183001; clear BK182; clear HB; clear HO_7; have HO_183000 := n0_; have HO_183001 := n1_; have BK182 := n2_; have HB := n3_; have HO193 := n4_; clear n0_ n1_ n2_ n3_ n4_; clear ho hb hg hat)))
                 go_roundg kj22
                 case measure => have := HK1.out; have := HJ10.out; have := HJ13.out; have := HJ22.out; omega
                 case rel => exact ⟨(y191), (wrap64 (x8_1 + 1)), (wrap64 (x9_1 + 1)), (by first | rfl | (simp; done) | (simp [*]; done)), (by first | rfl | (simp; done) | (simp [*]; done)), H', ⟨by have := HK1.out; have := HJ10.out; have := HJ13.out; have := HJ22.out; omega⟩, ⟨by (with_reducible repeat (first | apply Kd.R_alloc | apply Kd.R_drewN | apply Kd.R_drew)); exact HO193.out⟩, ⟨by (with_reducible repeat (first | apply q31 | apply q32 | apply q33)); exact HO_183000.out⟩, ⟨by (with_reducible repeat (first | apply q31 | apply q32 | apply q33)); exact HO_183001.out⟩, ⟨by (with_reducible repeat (first | refine q0 ?_ _ | refine q1 ?_ | refine q2 ?_ _)); exact BK182.out⟩, ⟨by repeat (first | (with_reducible first | exact HB.out | apply q3 | apply q4 | apply q5 | refine q6 ?_ GE182.out) | exact HB.out)⟩⟩
                ·rw [if_neg c39] at H
                 exact absurd H (by simp)
               ·replace c38 := Bool.eq_false_iff.mpr c38
                subst c38
                have H1 : (if x10_13 = true then (if 0 ≤ x8_1 then (if x8_1 < (t179.length : Int) then (if 0 ≤ x9_1 then (if x9_1 < ((rd_L7 t179 x8_1).length : Int) then (if (rdOf false (rd_L7 t179 x8_1) x9_1 = true) then (compare_Least.j4 kj22 l0 l1 x7_1 x8_1 x9_1 (rd (rd_L2 t176 x8_1) x9_1) false t176 t179) else (if 0 ≤ (wrap64 (x8_1 + 1)) then (if (wrap64 (x8_1 + 1)) < (t176.length : Int) then (if 0 ≤ (wrap64 (x9_1 + 1)) then (if (wrap64 (x9_1 + 1)) < ((rd_L2 t176 (wrap64 (x8_1 + 1))).length : Int) then (compare_Least.j4 kj22 l0 l1 x7_1 x8_1 x9_1 (rd (rd_L2 t176 x8_1) x9_1) ((rd (rd_L2 t176 x8_1) x9_1) == (wrap64 (1 + (rd (rd_L2 t176 (wrap64 (x8_1 + 1))) (wrap64 (x9_1 + 1)))))) t176 t179) else (none)) else (none)) else (none)) else (none))) else (none)) else (none)) else (none)) else (none)) else (compare_Least.j4 kj22 l0 l1 x7_1 x8_1 x9_1 (rd (rd_L2 t176 x8_1) x9_1) false t176 t179)) = some (r1, r2) := by rw [if_neg (show ¬ (false = true) by decide)] at H; exact H
                clear H
                have H := H1
                clear H1
                have HC41 := q13 H
                clear H
                go_upto_region 14 with (fail)
                repeat (go_quiet (fail); go_upto_region 14 with (fail))
                go_cut [105] (fun v105 wc => ∃ (kq : Nat) (x105_40 : Bool), v105 = .bool x105_40 ∧ Aside0 (compare_Least.j4 kq l0 l1 x7_1 x8_1 x9_1 (rd (rd_L2 t176 x8_1) x9_1) x105_40 t176 t179 = some (r1, r2)) ∧ Aside0 (kq ≤ kj22) ∧ Aside0 (Kd.R k54 54 wc w.heap.size (fun _ => True) u7 x7_1) ∧ Aside0 (Kd.S (Kd.slice 3 (Kd.int .i64)) 67 wc w.heap.size (fun _ => True) (.slice (some ad185) t176.length co8) t176) ∧ Aside0 (Kd.S (Kd.slice 4 Kd.bool) 82 wc w.heap.size (fun _ => True) (.slice Ao10 t179.length co10) t179) ∧ Aside0 (wc.heap[gb182]? = some (.cells #[(.slice (some ad185) t176.length co8), (.slice Ao10 t179.length co10)] 80 (0, 0))) ∧ Aside0 (Kd.C (Kd.int .i64) wc (some ad186) (rd_L2 t176 x8_1).length (rd_L2 t176 x8_1)) ∧ Aside0 (Below w.heap.size w wc))
                case first =>
                 have H := HC41.out
                 clear HC41
                 by_cases c42 : x10_13 = true
                 ·subst c42
                  have H1 : (if 0 ≤ x8_1 then (if x8_1 < (t179.length : Int) then (if 0 ≤ x9_1 then (if x9_1 < ((rd_L7 t179 x8_1).length : Int) then (if (rdOf false (rd_L7 t179 x8_1) x9_1 = true) then (compare_Least.j4 kj22 l0 l1 x7_1 x8_1 x9_1 (rd (rd_L2 t176 x8_1) x9_1) false t176 t179) else (if 0 ≤ (wrap64 (x8_1 + 1)) then (if (wrap64 (x8_1 + 1)) < (t176.length : Int) then (if 0 ≤ (wrap64 (x9_1 + 1)) then (if (wrap64 (x9_1 + 1)) < ((rd_L2 t176 (wrap64 (x8_1 + 1))).length : Int) then (compare_Least.j4 kj22 l0 l1 x7_1 x8_1 x9_1 (rd (rd_L2 t176 x8_1) x9_1) ((rd (rd_L2 t176 x8_1) x9_1) == (wrap64 (1 + (rd (rd_L2 t176 (wrap64 (x8_1 + 1))) (wrap64 (x9_1 + 1)))))) t176 t179) else (none)) else (none)) else (none)) else (none))) else (none)) else (none)) else (none)) else (none)) = some (r1, r2) := by rw [if_pos rfl] at H; exact H
                  clear H
                  have H := H1
                  clear H1
                  by_cases c43 : 0 ≤ x8_1
                  ·rw [if_pos c43] at H
                   have c43b0 : decide (0 ≤ x8_1) = true := decide_eq_true c43
                   clear c43
                   (first | rw [c43b0] | (simp only [i64_w, i32_w]; rw [c43b0]) | skip)
                   by_cases c44 : x8_1 < (t179.length : Int)
                   ·rw [if_pos c44] at H
                    have c44b0 : decide (x8_1 < (t179.length : Int)) = true := decide_eq_true c44
                    clear c44
                    by_cases c45 : 0 ≤ x9_1
                    ·rw [if_pos c45] at H
                     have c45b0 : decide (0 ≤ x9_1) = true := decide_eq_true c45
                     clear c45
                     by_cases c46 : x9_1 < ((rd_L7 t179 x8_1).length : Int)
                     ·rw [if_pos c46] at H
                      have c46b0 : decide (x9_1 < ((rd_L7 t179 x8_1).length : Int)) = true := decide_eq_true c46
                      clear c46
                      obtain ⟨bq47, hbq47⟩ : ∃ b_ : Bool, b_ = (rdOf false (rd_L7 t179 x8_1) x9_1) := ⟨_, rfl⟩
                      replace H : (if (bq47 = true) then (compare_Least.j4 kj22 l0 l1 x7_1 x8_1 x9_1 (rd (rd_L2 t176 x8_1) x9_1) false t176 t179) else (if 0 ≤ (wrap64 (x8_1 + 1)) then (if (wrap64 (x8_1 + 1)) < (t176.length : Int) then (if 0 ≤ (wrap64 (x9_1 + 1)) then (if (wrap64 (x9_1 + 1)) < ((rd_L2 t176 (wrap64 (x8_1 + 1))).length : Int) then (compare_Least.j4 kj22 l0 l1 x7_1 x8_1 x9_1 (rd (rd_L2 t176 x8_1) x9_1) ((rd (rd_L2 t176 x8_1) x9_1) == (wrap64 (1 + (rd (rd_L2 t176 (wrap64 (x8_1 + 1))) (wrap64 (x9_1 + 1)))))) t176 t179) else (none)) else (none)) else (none)) else (none))) = some (r1, r2) := by rw [← hbq47] at H; exact H
                      have Nbq47 := q13 hbq47
                      clear hbq47
                      by_cases c48 : (bq47 = true)
                      ·subst c48
                       have H1 : (compare_Least.j4 kj22 l0 l1 x7_1 x8_1 x9_1 (rd (rd_L2 t176 x8_1) x9_1) false t176 t179) = some (r1, r2) := by rw [if_pos rfl] at H; exact H
                       clear H
                       have H := H1
                       clear H1
                       have H' := q13 H
                       clear H
                       have hcz49_0 : wc.cell? ⟨gb182, 0, none⟩ = some (.slice (some ad185) t176.length co8) := (q9 BK182.out 0).trans rfl
                       have hcz49_1 : wc.cell? ⟨gb182, 1, none⟩ = some (.slice Ao10 t179.length co10) := (q9 BK182.out 1).trans rfl
                       have hfz49_0 := q11 BK182.out 0
                       have hfz49_1 := q11 BK182.out 1
                       have p194 : 0 ≤ (x8_1 : Int) := q15 (by assumption)
                       have q194 : x8_1 < (t179.length : Int) := q15 (by assumption)
                       obtain ⟨ad194, A194_0, c194_0, e194, hx194_0, hl194_0, hi194_0⟩ := at_L7 (Kd.S_reads' HO_183001.out).2.2 x8_1 p194 q194
                       cases e194
                       obtain ⟨ce194, hce194, hMe194, hcc194⟩ := Kd.S_get HO_183001.out [] x8_1 p194 (by first | exact q194 | exact q15 (by assumption) | (have e_ := (Kd.S_reads' HO_183001.out).1; omega))
                       obtain ⟨ve194_0, rfl, ge194_0⟩ := hMe194
                       have hv194_0 := hcc194 0 _ rfl
                       rw [Nat.add_zero, show ((Kd.slice 4 Kd.bool)).sz = 1 from rfl, Nat.mul_one] at hv194_0
                       replace hv194_0 := Option.some.inj (hv194_0.symm.trans hx194_0)
                       rw [hv194_0] at ge194_0
                       have HL194_0 := q13 (show Kd.R Kd.bool 4 _ _ _ _ (rd_L7 t179 x8_1) from ge194_0)
                       clear hv194_0 ge194_0
                       clear hcc194 hce194
                       have HR194_0 := q13 hi194_0
                       have HC194_0 := q13 hl194_0
                       clear hi194_0 hl194_0
                       replace p194 := eq_true p194
                       replace q194 := eq_true q194
                       have p195 : 0 ≤ (x9_1 : Int) := q15 (by assumption)
                       have q195 : x9_1 < ((rd_L7 t179 x8_1).length : Int) := q15 (by assumption)
                       obtain ⟨ad195, e195, hx195_0⟩ := Kd.at_bool (by repeat (first | (with_reducible exact HR194_0.out) | (with_reducible refine q18 ?_ _) | (with_reducible refine q19 ?_ _) | (with_reducible refine q20 ?_) | exact HR194_0.out)) x9_1 p195 q195
                       (try rw [← Nbq47.out] at hx195_0)
                       cases e195
                       replace p195 := eq_true p195
                       replace q195 := eq_true q195
                       go_wp2
                       repeat (go_quiet (fail); try go_wp2)
                       go_meet
                       case rel => exact ⟨_, (false), (by first | rfl | (simp; done) | (simp [*]; done)), H', ⟨by have := HK1.out; have := HJ10.out; have := HJ13.out; have := HJ22.out; first | omega | exact q17 _⟩, ⟨by (with_reducible repeat (first | apply Kd.R_alloc | apply Kd.R_drewN | apply Kd.R_drew)); exact HO_7.out⟩, ⟨by (with_reducible repeat (first | apply q31 | apply q32 | apply q33)); exact HO_183000.out⟩, ⟨by (with_reducible repeat (first | apply q31 | apply q32 | apply q33)); exact HO_183001.out⟩, ⟨by (with_reducible repeat (first | refine q0 ?_ _ | refine q1 ?_ | refine q2 ?_ _)); exact BK182.out⟩, ⟨by repeat (first | (with_reducible exact HR185_0.out) | (with_reducible refine q18 ?_ _) | (with_reducible refine q19 ?_ _) | (with_reducible refine q20 ?_) | exact HR185_0.out)⟩, ⟨by repeat (first | (with_reducible first | exact HB.out | apply q3 | apply q4 | apply q5 | refine q6 ?_ GE182.out) | exact HB.out)⟩⟩
                      ·replace c48 := Bool.eq_false_iff.mpr c48
                       subst c48
                       have H1 : (if 0 ≤ (wrap64 (x8_1 + 1)) then (if (wrap64 (x8_1 + 1)) < (t176.length : Int) then (if 0 ≤ (wrap64 (x9_1 + 1)) then (if (wrap64 (x9_1 + 1)) < ((rd_L2 t176 (wrap64 (x8_1 + 1))).length : Int) then (compare_Least.j4 kj22 l0 l1 x7_1 x8_1 x9_1 (rd (rd_L2 t176 x8_1) x9_1) ((rd (rd_L2 t176 x8_1) x9_1) == (wrap64 (1 + (rd (rd_L2 t176 (wrap64 (x8_1 + 1))) (wrap64 (x9_1 + 1)))))) t176 t179) else (none)) else (none)) else (none)) else (none)) = some (r1, r2) := by rw [if_neg (show ¬ (false = true) by decide)] at H; exact H
                       clear H
                       have H := H1
                       clear H1
                       obtain ⟨ji50, hji50⟩ : ∃ j_ : Int, (wrap64 (x8_1 + 1)) = j_ := ⟨_, rfl⟩
                       replace H : (if 0 ≤ (ji50) then (if (ji50) < (t176.length : Int) then (if 0 ≤ (wrap64 (x9_1 + 1)) then (if (wrap64 (x9_1 + 1)) < ((rd_L2 t176 (ji50)).length : Int) then (compare_Least.j4 kj22 l0 l1 x7_1 x8_1 x9_1 (rd (rd_L2 t176 x8_1) x9_1) ((rd (rd_L2 t176 x8_1) x9_1) == (wrap64 (1 + (rd (rd_L2 t176 (ji50)) (wrap64 (x9_1 + 1)))))) t176 t179) else (none)) else (none)) else (none)) else (none)) = some (r1, r2) := by first | (rw [hji50] at H; exact H) | (simp only [hji50] at H ⊢; exact H)
                       have hji50w : (IntKind.i64.wrap (x8_1 + 1)) = ji50 := (i64_w _).trans hji50
                       by_cases c51 : 0 ≤ (ji50)
                       ·rw [if_pos c51] at H
                        have c51b0 : decide (0 ≤ (ji50)) = true := decide_eq_true c51
                        clear c51
                        by_cases c52 : (ji50) < (t176.length : Int)
                        ·rw [if_pos c52] at H
                         have c52b0 : decide ((ji50) < (t176.length : Int)) = true := decide_eq_true c52
                         clear c52
                         obtain ⟨ji53, hji53⟩ : ∃ j_ : Int, (wrap64 (x9_1 + 1)) = j_ := ⟨_, rfl⟩
                         replace H : (if 0 ≤ (ji53) then (if (ji53) < ((rd_L2 t176 (ji50)).length : Int) then (compare_Least.j4 kj22 l0 l1 x7_1 x8_1 x9_1 (rd (rd_L2 t176 x8_1) x9_1) ((rd (rd_L2 t176 x8_1) x9_1) == (wrap64 (1 + (rd (rd_L2 t176 (ji50)) (ji53))))) t176 t179) else (none)) else (none)) = some (r1, r2) := by first | (rw [hji53] at H; exact H) | (simp only [hji53] at H ⊢; exact H)
                         have hji53w : (IntKind.i64.wrap (x9_1 + 1)) = ji53 := (i64_w _).trans hji53
                         by_cases c54 : 0 ≤ (ji53)
                         ·rw [if_pos c54] at H
                          have c54b0 : decide (0 ≤ (ji53)) = true := decide_eq_true c54
                          clear c54
                          by_cases c55 : (ji53) < ((rd_L2 t176 (ji50)).length : Int)
                          ·rw [if_pos c55] at H
                           have c55b0 : decide ((ji53) < ((rd_L2 t176 (ji50)).length : Int)) = true := decide_eq_true c55
                           clear c55
                           have H' := q13 H
                           clear H
                           have hcz56_0 : wc.cell? ⟨gb182, 0, none⟩ = some (.slice (some ad185) t176.length co8) := (q9 BK182.out 0).trans rfl
                           have hcz56_1 : wc.cell? ⟨gb182, 1, none⟩ = some (.slice Ao10 t179.length co10) := (q9 BK182.out 1).trans rfl
                           have hfz56_0 := q11 BK182.out 0
                           have hfz56_1 := q11 BK182.out 1
                           have p194 : 0 ≤ (x8_1 : Int) := q15 (by assumption)
                           have q194 : x8_1 < (t179.length : Int) := q15 (by assumption)
                           obtain ⟨ad194, A194_0, c194_0, e194, hx194_0, hl194_0, hi194_0⟩ := at_L7 (Kd.S_reads' HO_183001.out).2.2 x8_1 p194 q194
                           cases e194
                           obtain ⟨ce194, hce194, hMe194, hcc194⟩ := Kd.S_get HO_183001.out [] x8_1 p194 (by first | exact q194 | exact q15 (by assumption) | (have e_ := (Kd.S_reads' HO_183001.out).1; omega))
                           obtain ⟨ve194_0, rfl, ge194_0⟩ := hMe194
                           have hv194_0 := hcc194 0 _ rfl
                           rw [Nat.add_zero, show ((Kd.slice 4 Kd.bool)).sz = 1 from rfl, Nat.mul_one] at hv194_0
                           replace hv194_0 := Option.some.inj (hv194_0.symm.trans hx194_0)
                           rw [hv194_0] at ge194_0
                           have HL194_0 := q13 (show Kd.R Kd.bool 4 _ _ _ _ (rd_L7 t179 x8_1) from ge194_0)
                           clear hv194_0 ge194_0
                           clear hcc194 hce194
                           have HR194_0 := q13 hi194_0
                           have HC194_0 := q13 hl194_0
                           clear hi194_0 hl194_0
                           replace p194 := eq_true p194
                           replace q194 := eq_true q194
                           have p195 : 0 ≤ (x9_1 : Int) := q15 (by assumption)
                           have q195 : x9_1 < ((rd_L7 t179 x8_1).length : Int) := q15 (by assumption)
                           obtain ⟨ad195, e195, hx195_0⟩ := Kd.at_bool (by repeat (first | (with_reducible exact HR194_0.out) | (with_reducible refine q18 ?_ _) | (with_reducible refine q19 ?_ _) | (with_reducible refine q20 ?_) | exact HR194_0.out)) x9_1 p195 q195
                           (try rw [← Nbq47.out] at hx195_0)
                           cases e195
                           replace p195 := eq_true p195
                           replace q195 := eq_true q195
                           have p196 : 0 ≤ ((ji50) : Int) := q15 (by assumption)
                           have q196 : (ji50) < (t176.length : Int) := q15 (by assumption)
                           obtain ⟨ad196, A196_0, c196_0, e196, hx196_0, hl196_0, hi196_0⟩ := at_L2 (Kd.S_reads' HO_183000.out).2.2 (ji50) p196 q196
                           obtain rfl : ad185 = ad196 := (by injection e196)
                           obtain ⟨ce196, hce196, hMe196, hcc196⟩ := Kd.S_get HO_183000.out [] (ji50) p196 (by first | exact q196 | exact q15 (by assumption) | (have e_ := (Kd.S_reads' HO_183000.out).1; omega))
                           obtain ⟨ve196_0, rfl, ge196_0⟩ := hMe196
                           have hv196_0 := hcc196 0 _ rfl
                           rw [Nat.add_zero, show ((Kd.slice 3 (Kd.int .i64))).sz = 1 from rfl, Nat.mul_one] at hv196_0
                           replace hv196_0 := Option.some.inj (hv196_0.symm.trans hx196_0)
                           rw [hv196_0] at ge196_0
                           have HL196_0 := q13 (show Kd.R (Kd.int .i64) 3 _ _ _ _ (rd_L2 t176 (ji50)) from ge196_0)
                           clear hv196_0 ge196_0
                           clear hcc196 hce196
                           have HR196_0 := q13 hi196_0
                           have HC196_0 := q13 hl196_0
                           clear hi196_0 hl196_0
                           replace p196 := eq_true p196
                           replace q196 := eq_true q196
                           have p197 : 0 ≤ ((ji53) : Int) := q15 (by assumption)
                           have q197 : (ji53) < ((rd_L2 t176 (ji50)).length : Int) := q15 (by assumption)
                           obtain ⟨ad197, e197, hx197_0⟩ := Kd.at_int (by repeat (first | (with_reducible exact HR196_0.out) | (with_reducible refine q18 ?_ _) | (with_reducible refine q19 ?_ _) | (with_reducible refine q20 ?_) | exact HR196_0.out)) (ji53) p197 q197
                           cases e197
                           replace p197 := eq_true p197
                           replace q197 := eq_true q197
                           go_wp2
                           repeat (go_quiet (fail); try go_wp2)
                           go_meet
                           case rel => exact ⟨_, (((rd (rd_L2 t176 x8_1) x9_1) == (wrap64 (1 + (rd (rd_L2 t176 (ji50)) (ji53)))))), (by first | rfl | (simp; done) | (simp only [← hji50, ← hji53] <;> (first | rfl | (simp; done) | (simp [mn, mx]; done))) | (simp [*]; done)), H', ⟨by have := HK1.out; have := HJ10.out; have := HJ13.out; have := HJ22.out; first | omega | exact q17 _⟩, ⟨by (with_reducible repeat (first | apply Kd.R_alloc | apply Kd.R_drewN | apply Kd.R_drew)); exact HO_7.out⟩, ⟨by (with_reducible repeat (first | apply q31 | apply q32 | apply q33)); exact HO_183000.out⟩, ⟨by (with_reducible repeat (first | apply q31 | apply q32 | apply q33)); exact HO_183001.out⟩, ⟨by (with_reducible repeat (first | refine q0 ?_ _ | refine q1 ?_ | refine q2 ?_ _)); exact BK182.out⟩, ⟨by repeat (first | (with_reducible exact HR185_0.out) | (with_reducible refine q18 ?_ _) | (with_reducible refine q19 ?_ _) | (with_reducible refine q20 ?_) | exact HR185_0.out)⟩, ⟨by repeat (first | (with_reducible first | exact HB.out | apply q3 | apply q4 | apply q5 | refine q6 ?_ GE182.out) | exact HB.out)⟩⟩
                          ·rw [if_neg c55] at H
                           exact absurd H (by simp)
                         ·rw [if_neg c54] at H
                          exact absurd H (by simp)
                        ·rw [if_neg c52] at H
                         exact absurd H (by simp)
                       ·rw [if_neg c51] at H
                        exact absurd H (by simp)
                     ·rw [if_neg c46] at H
                      exact absurd H (by simp)
                    ·rw [if_neg c45] at H
                     exact absurd H (by simp)
                   ·rw [if_neg c44] at H
                    exact absurd H (by simp)
                  ·rw [if_neg c43] at H
                   exact absurd H (by simp)
                 ·replace c42 := Bool.eq_false_iff.mpr c42
                  subst c42
                  have H1 : (compare_Least.j4 kj22 l0 l1 x7_1 x8_1 x9_1 (rd (rd_L2 t176 x8_1) x9_1) false t176 t179) = some (r1, r2) := by rw [if_neg (show ¬ (false = true) by decide)] at H; exact H
                  clear H
                  have H := H1
                  clear H1
                  have H' := q13 H
                  clear H
                  go_wp2
                  repeat (go_quiet (fail); try go_wp2)
                  go_meet
                  case rel => exact ⟨_, (false), (by first | rfl | (simp; done) | (simp [*]; done)), H', ⟨by have := HK1.out; have := HJ10.out; have := HJ13.out; have := HJ22.out; first | omega | exact q17 _⟩, ⟨by (with_reducible repeat (first | apply Kd.R_alloc | apply Kd.R_drewN | apply Kd.R_drew)); exact HO_7.out⟩, ⟨by (with_reducible repeat (first | apply q31 | apply q32 | apply q33)); exact HO_183000.out⟩, ⟨by (with_reducible repeat (first | apply q31 | apply q32 | apply q33)); exact HO_183001.out⟩, ⟨by (with_reducible repeat (first | refine q0 ?_ _ | refine q1 ?_ | refine q2 ?_ _)); exact BK182.out⟩, ⟨by repeat (first | (with_reducible exact HR185_0.out) | (with_reducible refine q18 ?_ _) | (with_reducible refine q19 ?_ _) | (with_reducible refine q20 ?_) | exact HR185_0.out)⟩, ⟨by repeat (first | (with_reducible first | exact HB.out | apply q3 | apply q4 | apply q5 | refine q6 ?_ GE182.out) | exact HB.out)⟩⟩
                case rest =>
                 clear HC41
                 try clear c1
                 try clear p1
                 try clear q1
                 try clear hx1
                 try clear c2
                 try clear p2
                 try clear q2
                 try clear c3
                 try clear c4
                 try clear c4b0
                 try clear q4
                 try clear c5
                 try clear p6
                 try clear c12
                 try clear c12b0
                 try clear c13
                 try clear c15
                 try clear c15b0
                 try clear c16
                 try clear c16b0
                 try clear c17
                 try clear c17b0
                 try clear c18
                 try clear c18b0
                 try clear p18
                 try clear q18
                 try clear hx18
                 try clear c19
                 try clear c19b0
                 try clear p19
                 try clear q19
                 try clear hx19
                 try clear c20
                 try clear c20b0
                 try clear c21
                 try clear c21b0
                 try clear c22
                 try clear c22b0
                 try clear c24
                 try clear c25
                 try clear c26
                 try clear c26b0
                 try clear c27
                 try clear c27b0
                 try clear q28
                 try clear c29
                 try clear c31
                 try clear c31b0
                 try clear c32
                 try clear c32b0
                 try clear c34
                 try clear c34b0
                 try clear c35
                 try clear c35b0
                 try clear c38
                 try clear c39
                 try clear c42
                 try clear c43
                 try clear c43b0
                 try clear c44
                 try clear c44b0
                 try clear c45
                 try clear c45b0
                 try clear c46
                 try clear c46b0
                 try clear q47
                 try clear c48
                 try clear c51
                 try clear c51b0
                 try clear c52
                 try clear c52b0
                 try clear c54
                 try clear c54b0
                 try clear c55
                 try clear c55b0
                 try clear hx183_0
                 try clear hx183_1
                 try clear hx184_0
                 try clear hx184_1
                 try clear hx185_0
                 try clear hx186_0
                 try clear hx187_0
                 try clear hx188_0
                 try clear hx189_0
                 try clear hx190_0
                 try clear hx194_0
                 try clear hx195_0
                 try clear hx196_0
                 try clear hx197_0
                 try clear p1
                 try clear p18
                 try clear p183
                 try clear p184
                 try clear p185
                 try clear p186
                 try clear p187
                 try clear p188
                 try clear p189
                 try clear p19
                 try clear p190
                 try clear p194
                 try clear p195
                 try clear p196
                 try clear p197
                 try clear p2
                 try clear p6
                 try clear q1
                 try clear q18
                 try clear q183
                 try clear q184
                 try clear q185
                 try clear q186
                 try clear q187
                 try clear q188
                 try clear q189
                 try clear q19
                 try clear q190
                 try clear q194
                 try clear q195
                 try clear q196
                 try clear q197
                 try clear q2
                 try clear q28
                 obtain ⟨kq, x105_40, rfl, HA, HJ40, HO_7, HO_183000, HO_183001, BK182, HR185_0, HB⟩ := hcut
                 cases kq with
                 | zero => exact absurd HA.out (by simp [compare_Least.j4])
                 | succ kj40 =>
                  have H := HA.out
                  clear HA
                  simp only [compare_Least.j4] at H
                  by_cases c57 : x105_40 = true
                  ·subst c57
                   have H1 : (if x7_1.length < 5864062014805 then (compare_Least.l0 kj40 l0 l1 (x7_1 ++ [(⟨3, x8_1, x9_1⟩ : S54)]) (wrap64 (x8_1 + 1)) (wrap64 (x9_1 + 1)) t176 t179) else (none)) = some (r1, r2) := by rw [if_pos rfl] at H; exact H
                   clear H
                   have H := H1
                   clear H1
                   by_cases c58 : x7_1.length < 5864062014805
                   ·rw [if_pos c58] at H
                    have LMc58 := q13 c58
                    clear c58
                    obtain ⟨y198, hy198⟩ : ∃ y_ : List (S54), y_ = (x7_1 ++ [(⟨3, x8_1, x9_1⟩ : S54)]) := ⟨_, rfl⟩
                    replace H : (compare_Least.l0 kj40 l0 l1 y198 (wrap64 (x8_1 + 1)) (wrap64 (x9_1 + 1)) t176 t179) = some (r1, r2) := by first | (rw [hy198]; with_reducible exact H) | (have H2_ := (Option.bind_some _ _).symm.trans H; rw [hy198]; with_reducible exact H2_) | (have H2_ := (Option.bind_some _ _).symm.trans H; with_reducible exact H2_) | with_reducible exact H | (rw [hy198]; exact H) | exact H
                    have Ny198 := q13 hy198
                    clear hy198
                    have H' := q13 H
                    clear H
                    go_wp2_with (first | ((with_reducible refine gate_builtin (b := .append) (xs := #[.tmp 133, .tmp 137]) rfl ?_); (try (refine gate_guard (by rfl) ?_; dsimp only)); at_builtin; refine Kd.R_append k54 (w0 := w) w.heap.size rfl (.tmp 133) (.tmp 137) 52 54 (.agg #[(.int .i64 0), (.int .i64 0), (.int .i64 0)]) 24 rfl Try.underlying52 info54 rfl (by decide) (by omega) u7 x7_1 (⟨3, x8_1, x9_1⟩ : S54) [.int .i64 3, .int .i64 x8_1, .int .i64 x9_1] (fun _ => True) (fun _ => False) rfl rfl ?aP (fun _ hk => hk.elim) ?aF ?aO ?aB ?aS ?aL ?_; (case aP => exact k54_mkM _ _ _ (⟨3, x8_1, x9_1⟩ : S54)); (case aB => exact (by repeat (first | (with_reducible first | exact HB.out | apply q3 | apply q4 | apply q5 | refine q6 ?_ GE182.out) | exact HB.out))); (case aF => exact (fun _ _ => trivial)); (case aO => exact (gR HO_7)); (case aS => exact (q7 (by repeat (first | (with_reducible first | exact HB.out | apply q3 | apply q4 | apply q5 | refine q6 ?_ GE182.out) | exact HB.out)))); (case aL => have := LMc58.out; omega); intro v199 w59 ho hb hg hat; rw [← Ny198.out] at ho; have n0_ := q13 (Kd.S_over' (gS HO_183000) (Kd.R_typed (gR HO_7)) (by decide) hg); have n1_ := q13 (Kd.S_over' (gS HO_183001) (Kd.R_typed (gR HO_7)) (by decide) hg); have n2_ := q13 (blk_grown (g := gb182) (o := .cells #[.slice (some ad185) t176.length co8, .slice Ao10 t179.length co10] 80 (0, 0)) (gK BK182) hg (Kd.R_ne HO_7.out BK182.out (by decide))); have n3_ := q13 (hb); have n4_ := q13 (ho); clear HO_183000; clear HO_183001; clear BK182; clear HB; clear HO_7; have HO_183000 := n0_; have HO_183001 := n1_; have BK182 := n2_; have HB := n3_; have HO200 := n4_; clear n0_ n1_ n2_ n3_ n4_; clear ho hb hg hat))
                    repeat (go_quiet (first | ((with_reducible refine gate_builtin (b := .append) (xs := #[.tmp 133, .tmp 137]) rfl ?_); (try (refine gate_guard (by rfl) ?_; dsimp only)); at_builtin; refine Kd.R_append k54 (w0 := w) w.heap.size rfl (.tmp 133) (.tmp 137) 52 54 (.agg #[(.int .i64 0), (.int .i64 0), (.int .i64 0)]) 24 rfl Try.underlying52 info54 rfl (by decide) (by omega) u7 x7_1 (⟨3, x8_1, x9_1⟩ : S54) [.int .i64 3, .int .i64 x8_1, .int .i64 x9_1] (fun _ => True) (fun _ => False) rfl rfl ?aP (fun _ hk => hk.elim) ?aF ?aO ?aB ?aS ?aL ?_; (case aP => exact k54_mkM _ _ _ (⟨3, x8_1, x9_1⟩ : S54)); (case aB => exact (by repeat (first | (with_reducible first | exact HB.out | apply q3 | apply q4 | apply q5 | refine q6 ?_ GE182.out) | exact HB.out))); (case aF => exact (fun _ _ => trivial)); (case aO => exact (gR HO_7)); (case aS => exact (q7 (by repeat (first | (with_reducible first | exact HB.out | apply q3 | apply q4 | apply q5 | refine q6 ?_ GE182.out) | exact HB.out)))); (case aL => have := LMc58.out; omega); intro v199 w59 ho hb hg hat; rw [← Ny198.out] at ho; have n0_ := q13 (Kd.S_over' (gS HO_183000) (Kd.R_typed (gR HO_7)) (by decide) hg); have n1_ := q13 (Kd.S_over' (gS HO_183001) (Kd.R_typed (gR HO_7)) (by decide) hg); have n2_ := q13 (blk_grown (g := gb182) (o := .cells #[.slice (some ad185) t176.length co8, .slice Ao10 t179.length co10] 80 (0, 0)) (gK BK182) hg (Kd.R_ne HO_7.out BK182.out (by decide))); have n3_ := q13 (hb); have n4_ := q13 (ho); clear HO_183000; clear HO_183001; clear BK182; clear HB; clear HO_7; have HO_183000 := n0_; have HO_183001 := n1_; have BK182 := n2_; have HB := n3_; have HO200 := n4_; clear n0_ n1_ n2_ n3_ n4_; clear ho hb hg hat)); try go_wp2_with (first | ((with_reducible refine gate_builtin (b := .append) (xs := #[.tmp 133, .tmp 137]) rfl ?_); (try (refine gate_guard (by rfl) ?_; dsimp only)); at_builtin; refine Kd.R_append k54 (w0 := w) w.heap.size rfl (.tmp 133) (.tmp 137) 52 54 (.agg #[(.int .i64 0), (.int .i64 0), (.int .i64 0)]) 24 rfl Try.underlying52 info54 rfl (by decide) (by omega) u7 x7_1 (⟨3, x8_1, x9_1⟩ : S54) [.int .i64 3, .int .i64 x8_1, .int .i64 x9_1] (fun _ => True) (fun _ => False) rfl rfl ?aP (fun _ hk => hk.elim) ?aF ?aO ?aB ?aS ?aL ?_; (case aP => exact k54_mkM _ _ _ (⟨3, x8_1, x9_1⟩ : S54)); (case aB => exact (by repeat (first | (with_reducible first | exact HB.out | apply q3 | apply q4 | apply q5 | refine q6 ?_ GE182.out) | exact HB.out))); (case aF => exact (fun _ _ => trivial)); (case aO => exact (gR HO_7)); (case aS => exact (q7 (by repeat (first | (with_reducible first | exact HB.out | apply q3 | apply q4 | apply q5 | refine q6 ?_ GE182.out) | exact HB.out)))); (case aL => have := LMc58.out; omega); intro v199 w59 ho hb hg hat; rw [← Ny198.out] at ho; have n0_ := q13 (Kd.S_over' (gS HO_183000) (Kd.R_typed (gR HO_7)) (by decide) hg); have n1_ := q13 (Kd.S_over' (gS HO_183001) (Kd.R_typed (gR HO_7)) (by decide) hg); have n2_ := q13 (blk_grown (g := gb182) (o := .cells #[.slice (some ad185) t176.length co8, .slice Ao10 t179.length co10] 80 (0, 0)) (gK BK182) hg (Kd.R_ne HO_7.out BK182.out (by decide))); have n3_ := q13 (hb); have n4_ := q13 (ho); clear HO_183000; clear HO_183001; clear BK182; clear HB; clear HO_7; have HO_183000 := n0_; have HO_183001 := n1_; have BK182 := n2_; have HB := n3_; have HO200 := n4_; clear n0_ n1_ n2_ n3_ n4_; clear ho hb hg hat)))
                    go_roundg kj40
                    case measure => have := HK1.out; have := HJ10.out; have := HJ13.out; have := HJ22.out; have := HJ40.out; omega
                    case rel => exact ⟨(y198), (wrap64 (x8_1 + 1)), (wrap64 (x9_1 + 1)), (by first | rfl | (simp; done) | (simp [*]; done)), (by first | rfl | (simp; done) | (simp [*]; done)), H', ⟨by have := HK1.out; have := HJ10.out; have := HJ13.out; have := HJ22.out; have := HJ40.out; omega⟩, ⟨by (with_reducible repeat (first | apply Kd.R_alloc | apply Kd.R_drewN | apply Kd.R_drew)); exact HO200.out⟩, ⟨by (with_reducible repeat (first | apply q31 | apply q32 | apply q33)); exact HO_183000.out⟩, ⟨by (with_reducible repeat (first | apply q31 | apply q32 | apply q33)); exact HO_183001.out⟩, ⟨by (with_reducible repeat (first | refine q0 ?_ _ | refine q1 ?_ | refine q2 ?_ _)); exact BK182.out⟩, ⟨by repeat (first | (with_reducible first | exact HB.out | apply q3 | apply q4 | apply q5 | refine q6 ?_ GE182.out) | exact HB.out)⟩⟩
                   ·rw [if_neg c58] at H
                    exact absurd H (by simp)
                  ·replace c57 := Bool.eq_false_iff.mpr c57
                   subst c57
                   have H1 : (if x8_1 < (l0.length : Int) then (if 0 ≤ (wrap64 (x8_1 + 1)) then (if (wrap64 (x8_1 + 1)) < (t176.length : Int) then (if 0 ≤ x9_1 then (if x9_1 < ((rd_L2 t176 (wrap64 (x8_1 + 1))).length : Int) then (if (rd (rd_L2 t176 x8_1) x9_1) = (wrap64 (1 + (rd (rd_L2 t176 (wrap64 (x8_1 + 1))) x9_1))) then (if x7_1.length < 5864062014805 then (compare_Least.l0 kj40 l0 l1 (x7_1 ++ [(⟨1, x8_1, 0⟩ : S54)]) (wrap64 (x8_1 + 1)) x9_1 t176 t179) else (none)) else (if x7_1.length < 5864062014805 then (compare_Least.l0 kj40 l0 l1 (x7_1 ++ [(⟨2, 0, x9_1⟩ : S54)]) x8_1 (wrap64 (x9_1 + 1)) t176 t179) else (none))) else (none)) else (none)) else (none)) else (none)) else (if x7_1.length < 5864062014805 then (compare_Least.l0 kj40 l0 l1 (x7_1 ++ [(⟨2, 0, x9_1⟩ : S54)]) x8_1 (wrap64 (x9_1 + 1)) t176 t179) else (none))) = some (r1, r2) := by rw [if_neg (show ¬ (false = true) by decide)] at H; exact H
                   clear H
                   have H := H1
                   clear H1
                   by_cases c60 : x8_1 < (l0.length : Int)
                   ·rw [if_pos c60] at H
                    have c60b0 : decide (x8_1 < (l0.length : Int)) = true := decide_eq_true c60
                    clear c60
                    obtain ⟨ji61, hji61⟩ : ∃ j_ : Int, (wrap64 (x8_1 + 1)) = j_ := ⟨_, rfl⟩
                    replace H : (if 0 ≤ (ji61) then (if (ji61) < (t176.length : Int) then (if 0 ≤ x9_1 then (if x9_1 < ((rd_L2 t176 (ji61)).length : Int) then (if (rd (rd_L2 t176 x8_1) x9_1) = (wrap64 (1 + (rd (rd_L2 t176 (ji61)) x9_1))) then (if x7_1.length < 5864062014805 then (compare_Least.l0 kj40 l0 l1 (x7_1 ++ [(⟨1, x8_1, 0⟩ : S54)]) ji61 x9_1 t176 t179) else (none)) else (if x7_1.length < 5864062014805 then (compare_Least.l0 kj40 l0 l1 (x7_1 ++ [(⟨2, 0, x9_1⟩ : S54)]) x8_1 (wrap64 (x9_1 + 1)) t176 t179) else (none))) else (none)) else (none)) else (none)) else (none)) = some (r1, r2) := by first | (rw [hji61] at H; exact H) | (simp only [hji61] at H ⊢; exact H)
                    have hji61w : (IntKind.i64.wrap (x8_1 + 1)) = ji61 := (i64_w _).trans hji61
                    by_cases c62 : 0 ≤ (ji61)
                    ·rw [if_pos c62] at H
                     have c62b0 : decide (0 ≤ (ji61)) = true := decide_eq_true c62
                     clear c62
                     by_cases c63 : (ji61) < (t176.length : Int)
                     ·rw [if_pos c63] at H
                      have c63b0 : decide ((ji61) < (t176.length : Int)) = true := decide_eq_true c63
                      clear c63
                      by_cases c64 : 0 ≤ x9_1
                      ·rw [if_pos c64] at H
                       have c64b0 : decide (0 ≤ x9_1) = true := decide_eq_true c64
                       clear c64
                       by_cases c65 : x9_1 < ((rd_L2 t176 (ji61)).length : Int)
                       ·rw [if_pos c65] at H
                        have c65b0 : decide (x9_1 < ((rd_L2 t176 (ji61)).length : Int)) = true := decide_eq_true c65
                        clear c65
                        by_cases c66 : (rd (rd_L2 t176 x8_1) x9_1) = (wrap64 (1 + (rd (rd_L2 t176 (ji61)) x9_1)))
                        ·rw [if_pos c66] at H
                         have c66b0 : ((rd (rd_L2 t176 x8_1) x9_1) == (wrap64 (1 + (rd (rd_L2 t176 (ji61)) x9_1)))) = true := beq_iff_eq.mpr c66
                         have c66b1 : ((rd (rd_L2 t176 x8_1) x9_1) != (wrap64 (1 + (rd (rd_L2 t176 (ji61)) x9_1)))) = false := bne_eq_false_iff_eq.mpr c66
                         clear c66
                         by_cases c67 : x7_1.length < 5864062014805
                         ·rw [if_pos c67] at H
                          have LMc67 := q13 c67
                          clear c67
                          obtain ⟨y203, hy203⟩ : ∃ y_ : List (S54), y_ = (x7_1 ++ [(⟨1, x8_1, 0⟩ : S54)]) := ⟨_, rfl⟩
                          replace H : (compare_Least.l0 kj40 l0 l1 y203 ji61 x9_1 t176 t179) = some (r1, r2) := by first | (rw [hy203]; with_reducible exact H) | (have H2_ := (Option.bind_some _ _).symm.trans H; rw [hy203]; with_reducible exact H2_) | (have H2_ := (Option.bind_some _ _).symm.trans H; with_reducible exact H2_) | with_reducible exact H | (rw [hy203]; exact H) | exact H
                          have Ny203 := q13 hy203
                          clear hy203
                          have H' := q13 H
                          clear H
                          have hcz68_0 : wc.cell? ⟨gb182, 0, none⟩ = some (.slice (some ad185) t176.length co8) := (q9 BK182.out 0).trans rfl
                          have hcz68_1 : wc.cell? ⟨gb182, 1, none⟩ = some (.slice Ao10 t179.length co10) := (q9 BK182.out 1).trans rfl
                          have hfz68_0 := q11 BK182.out 0
                          have hfz68_1 := q11 BK182.out 1
                          have p201 : 0 ≤ ((ji61) : Int) := q15 (by assumption)
                          have q201 : (ji61) < (t176.length : Int) := q15 (by assumption)
                          obtain ⟨ad201, A201_0, c201_0, e201, hx201_0, hl201_0, hi201_0⟩ := at_L2 (Kd.S_reads' HO_183000.out).2.2 (ji61) p201 q201
                          obtain rfl : ad185 = ad201 := (by injection e201)
                          obtain ⟨ce201, hce201, hMe201, hcc201⟩ := Kd.S_get HO_183000.out [] (ji61) p201 (by first | exact q201 | exact q15 (by assumption) | (have e_ := (Kd.S_reads' HO_183000.out).1; omega))
                          obtain ⟨ve201_0, rfl, ge201_0⟩ := hMe201
                          have hv201_0 := hcc201 0 _ rfl
                          rw [Nat.add_zero, show ((Kd.slice 3 (Kd.int .i64))).sz = 1 from rfl, Nat.mul_one] at hv201_0
                          replace hv201_0 := Option.some.inj (hv201_0.symm.trans hx201_0)
                          rw [hv201_0] at ge201_0
                          have HL201_0 := q13 (show Kd.R (Kd.int .i64) 3 _ _ _ _ (rd_L2 t176 (ji61)) from ge201_0)
                          clear hv201_0 ge201_0
                          clear hcc201 hce201
                          have HR201_0 := q13 hi201_0
                          have HC201_0 := q13 hl201_0
                          clear hi201_0 hl201_0
                          replace p201 := eq_true p201
                          replace q201 := eq_true q201
                          have p202 : 0 ≤ (x9_1 : Int) := q15 (by assumption)
                          have q202 : x9_1 < ((rd_L2 t176 (ji61)).length : Int) := q15 (by assumption)
                          obtain ⟨ad202, e202, hx202_0⟩ := Kd.at_int (by repeat (first | (with_reducible exact HR201_0.out) | (with_reducible refine q18 ?_ _) | (with_reducible refine q19 ?_ _) | (with_reducible refine q20 ?_) | exact HR201_0.out)) x9_1 p202 q202
                          cases e202
                          replace p202 := eq_true p202
                          replace q202 := eq_true q202
                          go_wp2_with (first | ((with_reducible refine gate_builtin (b := .append) (xs := #[.tmp 162, .tmp 165]) rfl ?_); (try (refine gate_guard (by rfl) ?_; dsimp only)); at_builtin; refine Kd.R_append k54 (w0 := w) w.heap.size rfl (.tmp 162) (.tmp 165) 52 54 (.agg #[(.int .i64 0), (.int .i64 0), (.int .i64 0)]) 24 rfl Try.underlying52 info54 rfl (by decide) (by omega) u7 x7_1 (⟨1, x8_1, 0⟩ : S54) [.int .i64 1, .int .i64 x8_1, .int .i64 0] (fun _ => True) (fun _ => False) rfl rfl ?aP (fun _ hk => hk.elim) ?aF ?aO ?aB ?aS ?aL ?_; (case aP => exact k54_mkM _ _ _ (⟨1, x8_1, 0⟩ : S54)); (case aB => exact (by repeat (first | (with_reducible first | exact HB.out | apply q3 | apply q4 | apply q5 | refine q6 ?_ GE182.out) | exact HB.out))); (case aF => exact (fun _ _ => trivial)); (case aO => exact (gR HO_7)); (case aS => exact (q7 (by repeat (first | (with_reducible first | exact HB.out | apply q3 | apply q4 | apply q5 | refine q6 ?_ GE182.out) | exact HB.out)))); (case aL => have := LMc67.out; omega); intro v204 w69 ho hb hg hat; rw [← Ny203.out] at ho; have n0_ := q13 (Kd.S_over' (gS HO_183000) (Kd.R_typed (gR HO_7)) (by decide) hg); have n1_ := q13 (Kd.S_over' (gS HO_183001) (Kd.R_typed (gR HO_7)) (by decide) hg); have n2_ := q13 (blk_grown (g := gb182) (o := .cells #[.slice (some ad185) t176.length co8, .slice Ao10 t179.length co10] 80 (0, 0)) (gK BK182) hg (Kd.R_ne HO_7.out BK182.out (by decide))); have n3_ := q13 (Kd.R_over' (gR HL201_0) (Kd.R_typed (gR HO_7)) (by decide) hg); have n4_ := q13 (hb); have n5_ := q13 (ho); clear HO_183000; clear HO_183001; clear BK182; clear HL201_0; clear HB; clear HO_7; have HO_183000 := n0_; have HO_183001 := n1_; have BK182 := n2_; have HL201_0 := n3_; have HB := n4_; have HO205 := n5_; clear n0_ n1_ n2_ n3_ n4_ n5_; clear ho hb hg hat))
                          repeat (go_quiet (first | ((with_reducible refine gate_builtin (b := .append) (xs := #[.tmp 162, .tmp 165]) rfl ?_); (try (refine gate_guard (by rfl) ?_; dsimp only)); at_builtin; refine Kd.R_append k54 (w0 := w) w.heap.size rfl (.tmp 162) (.tmp 165) 52 54 (.agg #[(.int .i64 0), (.int .i64 0), (.int .i64 0)]) 24 rfl Try.underlying52 info54 rfl (by decide) (by omega) u7 x7_1 (⟨1, x8_1, 0⟩ : S54) [.int .i64 1, .int .i64 x8_1, .int .i64 0] (fun _ => True) (fun _ => False) rfl rfl ?aP (fun _ hk => hk.elim) ?aF ?aO ?aB ?aS ?aL ?_; (case aP => exact k54_mkM _ _ _ (⟨1, x8_1, 0⟩ : S54)); (case aB => exact (by repeat (first | (with_reducible first | exact HB.out | apply q3 | apply q4 | apply q5 | refine q6 ?_ GE182.out) | exact HB.out))); (case aF => exact (fun _ _ => trivial)); (case aO => exact (gR HO_7)); (case aS => exact (q7 (by repeat (first | (with_reducible first | exact HB.out | apply q3 | apply q4 | apply q5 | refine q6 ?_ GE182.out) | exact HB.out)))); (case aL => have := LMc67.out; omega); intro v204 w69 ho hb hg hat; rw [← Ny203.out] at ho; have n0_ := q13 (Kd.S_over' (gS HO_183000) (Kd.R_typed (gR HO_7)) (by decide) hg); have n1_ := q13 (Kd.S_over' (gS HO_183001) (Kd.R_typed (gR HO_7)) (by decide) hg); have n2_ := q13 (blk_grown (g := gb182) (o := .cells #[.slice (some ad185) t176.length co8, .slice Ao10 t179.length co10] 80 (0, 0)) (gK BK182) hg (Kd.R_ne HO_7.out BK182.out (by decide))); have n3_ := q13 (Kd.R_over' (gR HL201_0) (Kd.R_typed (gR HO_7)) (by decide) hg); have n4_ := q13 (hb); have n5_ := q13 (ho); clear HO_183000; clear HO_183001; clear BK182; clear HL201_0; clear HB; clear HO_7; have HO_183000 := n0_; have HO_183001 := n1_; have BK182 := n2_; have HL201_0 := n3_; have HB := n4_; have HO205 := n5_; clear n0_ n1_ n2_ n3_ n4_ n5_; clear ho hb hg hat)); try go_wp2_with (first | ((with_reducible refine gate_builtin (b := .append) (xs := #[.tmp 162, .tmp 165]) rfl ?_); (try (refine gate_guard (by rfl) ?_; dsimp only)); at_builtin; refine Kd.R_append k54 (w0 := w) w.heap.size rfl (.tmp 162) (.tmp 165) 52 54 (.agg #[(.int .i64 0), (.int .i64 0), (.int .i64 0)]) 24 rfl Try.underlying52 info54 rfl (by decide) (by omega) u7 x7_1 (⟨1, x8_1, 0⟩ : S54) [.int .i64 1, .int .i64 x8_1, .int .i64 0] (fun _ => True) (fun _ => False) rfl rfl ?aP (fun _ hk => hk.elim) ?aF ?aO ?aB ?aS ?aL ?_; (case aP => exact k54_mkM _ _ _ (⟨1, x8_1, 0⟩ : S54)); (case aB => exact (by repeat (first | (with_reducible first | exact HB.out | apply q3 | apply q4 | apply q5 | refine q6 ?_ GE182.out) | exact HB.out))); (case aF => exact (fun _ _ => trivial)); (case aO => exact (gR HO_7)); (case aS => exact (q7 (by repeat (first | (with_reducible first | exact HB.out | apply q3 | apply q4 | apply q5 | refine q6 ?_ GE182.out) | exact HB.out)))); (case aL => have := LMc67.out; omega); intro v204 w69 ho hb hg hat; rw [← Ny203.out] at ho; have n0_ := q13 (Kd.S_over' (gS HO_183000) (Kd.R_typed (gR HO_7)) (by decide) hg); have n1_ := q13 (Kd.S_over' (gS HO_183001) (Kd.R_typed (gR HO_7)) (by decide) hg); have n2_ := q13 (blk_grown (g := gb182) (o := .cells #[.slice (some ad185) t176.length co8, .slice Ao10 t179.length co10] 80 (0, 0)) (gK BK182) hg (Kd.R_ne HO_7.out BK182.out (by decide))); have n3_ := q13 (Kd.R_over' (gR HL201_0) (Kd.R_typed (gR HO_7)) (by decide) hg); have n4_ := q13 (hb); have n5_ := q13 (ho); clear HO_183000; clear HO_183001; clear BK182; clear HL201_0; clear HB; clear HO_7; have HO_183000 := n0_; have HO_183001 := n1_; have BK182 := n2_; have HL201_0 := n3_; have HB := n4_; have HO205 := n5_; clear n0_ n1_ n2_ n3_ n4_ n5_; clear ho hb hg hat)))
                          go_roundg kj40
                          case measure => have := HK1.out; have := HJ10.out; have := HJ13.out; have := HJ22.out; have := HJ40.out; omega
                          case rel => exact ⟨(y203), (ji61), (x9_1), (by first | rfl | (simp; done) | (simp only [← hji61] <;> (first | rfl | (simp; done) | (simp [mn, mx]; done))) | (simp [*]; done)), (by first | rfl | (simp; done) | (simp [*]; done)), H', ⟨by have := HK1.out; have := HJ10.out; have := HJ13.out; have := HJ22.out; have := HJ40.out; omega⟩, ⟨by (with_reducible repeat (first | apply Kd.R_alloc | apply Kd.R_drewN | apply Kd.R_drew)); exact HO205.out⟩, ⟨by (with_reducible repeat (first | apply q31 | apply q32 | apply q33)); exact HO_183000.out⟩, ⟨by (with_reducible repeat (first | apply q31 | apply q32 | apply q33)); exact HO_183001.out⟩, ⟨by (with_reducible repeat (first | refine q0 ?_ _ | refine q1 ?_ | refine q2 ?_ _)); exact BK182.out⟩, ⟨by repeat (first | (with_reducible first | exact HB.out | apply q3 | apply q4 | apply q5 | refine q6 ?_ GE182.out) | exact HB.out)⟩⟩
                         ·rw [if_neg c67] at H
                          exact absurd H (by simp)
                        ·rw [if_neg c66] at H
                         have c66b0 : ((rd (rd_L2 t176 x8_1) x9_1) == (wrap64 (1 + (rd (rd_L2 t176 (ji61)) x9_1)))) = false := beq_eq_false_iff_ne.mpr c66
                         have c66b1 : ((rd (rd_L2 t176 x8_1) x9_1) != (wrap64 (1 + (rd (rd_L2 t176 (ji61)) x9_1)))) = true := bne_iff_ne.mpr c66
                         by_cases c70 : x7_1.length < 5864062014805
                         ·rw [if_pos c70] at H
                          have LMc70 := q13 c70
                          clear c70
                          obtain ⟨y206, hy206⟩ : ∃ y_ : List (S54), y_ = (x7_1 ++ [(⟨2, 0, x9_1⟩ : S54)]) := ⟨_, rfl⟩
                          replace H : (compare_Least.l0 kj40 l0 l1 y206 x8_1 (wrap64 (x9_1 + 1)) t176 t179) = some (r1, r2) := by first | (rw [hy206]; with_reducible exact H) | (have H2_ := (Option.bind_some _ _).symm.trans H; rw [hy206]; with_reducible exact H2_) | (have H2_ := (Option.bind_some _ _).symm.trans H; with_reducible exact H2_) | with_reducible exact H | (rw [hy206]; exact H) | exact H
                          have Ny206 := q13 hy206
                          clear hy206
                          have H' := q13 H
                          clear H
                          have hcz71_0 : wc.cell? ⟨gb182, 0, none⟩ = some (.slice (some ad185) t176.length co8) := (q9 BK182.out 0).trans rfl
                          have hcz71_1 : wc.cell? ⟨gb182, 1, none⟩ = some (.slice Ao10 t179.length co10) := (q9 BK182.out 1).trans rfl
                          have hfz71_0 := q11 BK182.out 0
                          have hfz71_1 := q11 BK182.out 1
                          have p201 : 0 ≤ ((ji61) : Int) := q15 (by assumption)
                          have q201 : (ji61) < (t176.length : Int) := q15 (by assumption)
                          obtain ⟨ad201, A201_0, c201_0, e201, hx201_0, hl201_0, hi201_0⟩ := at_L2 (Kd.S_reads' HO_183000.out).2.2 (ji61) p201 q201
                          obtain rfl : ad185 = ad201 := (by injection e201)
                          obtain ⟨ce201, hce201, hMe201, hcc201⟩ := Kd.S_get HO_183000.out [] (ji61) p201 (by first | exact q201 | exact q15 (by assumption) | (have e_ := (Kd.S_reads' HO_183000.out).1; omega))
                          obtain ⟨ve201_0, rfl, ge201_0⟩ := hMe201
                          have hv201_0 := hcc201 0 _ rfl
                          rw [Nat.add_zero, show ((Kd.slice 3 (Kd.int .i64))).sz = 1 from rfl, Nat.mul_one] at hv201_0
                          replace hv201_0 := Option.some.inj (hv201_0.symm.trans hx201_0)
                          rw [hv201_0] at ge201_0
                          have HL201_0 := q13 (show Kd.R (Kd.int .i64) 3 _ _ _ _ (rd_L2 t176 (ji61)) from ge201_0)
                          clear hv201_0 ge201_0
                          clear hcc201 hce201
                          have HR201_0 := q13 hi201_0
                          have HC201_0 := q13 hl201_0
                          clear hi201_0 hl201_0
                          replace p201 := eq_true p201
                          replace q201 := eq_true q201
                          have p202 : 0 ≤ (x9_1 : Int) := q15 (by assumption)
                          have q202 : x9_1 < ((rd_L2 t176 (ji61)).length : Int) := q15 (by assumption)
                          obtain ⟨ad202, e202, hx202_0⟩ := Kd.at_int (by repeat (first | (with_reducible exact HR201_0.out) | (with_reducible refine q18 ?_ _) | (with_reducible refine q19 ?_ _) | (with_reducible refine q20 ?_) | exact HR201_0.out)) x9_1 p202 q202
                          cases e202
                          replace p202 := eq_true p202
                          replace q202 := eq_true q202
                          go_wp2_with (first | ((with_reducible refine gate_builtin (b := .append) (xs := #[.tmp 62, .tmp 65]) rfl ?_); (try (refine gate_guard (by rfl) ?_; dsimp only)); at_builtin; refine Kd.R_append k54 (w0 := w) w.heap.size rfl (.tmp 62) (.tmp 65) 52 54 (.agg #[(.int .i64 0), (.int .i64 0), (.int .i64 0)]) 24 rfl Try.underlying52 info54 rfl (by decide) (by omega) u7 x7_1 (⟨2, 0, x9_1⟩ : S54) [.int .i64 2, .int .i64 0, .int .i64 x9_1] (fun _ => True) (fun _ => False) rfl rfl ?aP (fun _ hk => hk.elim) ?aF ?aO ?aB ?aS ?aL ?_; (case aP => exact k54_mkM _ _ _ (⟨2, 0, x9_1⟩ : S54)); (case aB => exact (by repeat (first | (with_reducible first | exact HB.out | apply q3 | apply q4 | apply q5 | refine q6 ?_ GE182.out) | exact HB.out))); (case aF => exact (fun _ _ => trivial)); (case aO => exact (gR HO_7)); (case aS => exact (q7 (by repeat (first | (with_reducible first | exact HB.out | apply q3 | apply q4 | apply q5 | refine q6 ?_ GE182.out) | exact HB.out)))); (case aL => have := LMc70.out; omega); intro v207 w72 ho hb hg hat; rw [← Ny206.out] at ho; have n0_ := q13 (Kd.S_over' (gS HO_183000) (Kd.R_typed (gR HO_7)) (by decide) hg); have n1_ := q13 (Kd.S_over' (gS HO_183001) (Kd.R_typed (gR HO_7)) (by decide) hg); have n2_ := q13 (blk_grown (g := gb182) (o := .cells #[.slice (some ad185) t176.length co8, .slice Ao10 t179.length co10] 80 (0, 0)) (gK BK182) hg (Kd.R_ne HO_7.out BK182.out (by decide))); have n3_ := q13 (Kd.R_over' (gR HL201_0) (Kd.R_typed (gR HO_7)) (by decide) hg); have n4_ := q13 (hb); have n5_ := q13 (ho); clear HO_183000; clear HO_183001; clear BK182; clear HL201_0; clear HB; clear HO_7; have HO_183000 := n0_; have HO_183001 := n1_; have BK182 := n2_; have HL201_0 := n3_; have HB := n4_; have HO208 := n5_; clear n0_ n1_ n2_ n3_ n4_ n5_; clear ho hb hg hat))
                          repeat (go_quiet (first | ((with_reducible refine gate_builtin (b := .append) (xs := #[.tmp 62, .tmp 65]) rfl ?_); (try (refine gate_guard (by rfl) ?_; dsimp only)); at_builtin; refine Kd.R_append k54 (w0 := w) w.heap.size rfl (.tmp 62) (.tmp 65) 52 54 (.agg #[(.int .i64 0), (.int .i64 0), (.int .i64 0)]) 24 rfl Try.underlying52 info54 rfl (by decide) (by omega) u7 x7_1 (⟨2, 0, x9_1⟩ : S54) [.int .i64 2, .int .i64 0, .int .i64 x9_1] (fun _ => True) (fun _ => False) rfl rfl ?aP (fun _ hk => hk.elim) ?aF ?aO ?aB ?aS ?aL ?_; (case aP => exact k54_mkM _ _ _ (⟨2, 0, x9_1⟩ : S54)); (case aB => exact (by repeat (first | (with_reducible first | exact HB.out | apply q3 | apply q4 | apply q5 | refine q6 ?_ GE182.out) | exact HB.out))); (case aF => exact (fun _ _ => trivial)); (case aO => exact (gR HO_7)); (case aS => exact (q7 (by repeat (first | (with_reducible first | exact HB.out | apply q3 | apply q4 | apply q5 | refine q6 ?_ GE182.out) | exact HB.out)))); (case aL => have := LMc70.out; omega); intro v207 w72 ho hb hg hat; rw [← Ny206.out] at ho; have n0_ := q13 (Kd.S_over' (gS HO_183000) (Kd.R_typed (gR HO_7)) (by decide) hg); have n1_ := q13 (Kd.S_over' (gS HO_183001) (Kd.R_typed (gR HO_7)) (by decide) hg); have n2_ := q13 (blk_grown (g := gb182) (o := .cells #[.slice (some ad185) t176.length co8, .slice Ao10 t179.length co10] 80 (0, 0)) (gK BK182) hg (Kd.R_ne HO_7.out BK182.out (by decide))); have n3_ := q13 (Kd.R_over' (gR HL201_0) (Kd.R_typed (gR HO_7)) (by decide) hg); have n4_ := q13 (hb); have n5_ := q13 (ho); clear HO_183000; clear HO_183001; clear BK182; clear HL201_0; clear HB; clear HO_7; have HO_183000 := n0_; have HO_183001 := n1_; have BK182 := n2_; have HL201_0 := n3_; have HB := n4_; have HO208 := n5_; clear n0_ n1_ n2_ n3_ n4_ n5_; clear ho hb hg hat)); try go_wp2_with (first | ((with_reducible refine gate_builtin (b := .append) (xs := #[.tmp 62, .tmp 65]) rfl ?_); (try (refine gate_guard (by rfl) ?_; dsimp only)); at_builtin; refine Kd.R_append k54 (w0 := w) w.heap.size rfl (.tmp 62) (.tmp 65) 52 54 (.agg #[(.int .i64 0), (.int .i64 0), (.int .i64 0)]) 24 rfl Try.underlying52 info54 rfl (by decide) (by omega) u7 x7_1 (⟨2, 0, x9_1⟩ : S54) [.int .i64 2, .int .i64 0, .int .i64 x9_1] (fun _ => True) (fun _ => False) rfl rfl ?aP (fun _ hk => hk.elim) ?aF ?aO ?aB ?aS ?aL ?_; (case aP => exact k54_mkM _ _ _ (⟨2, 0, x9_1⟩ : S54)); (case aB => exact (by repeat (first | (with_reducible first | exact HB.out | apply q3 | apply q4 | apply q5 | refine q6 ?_ GE182.out) | exact HB.out))); (case aF => exact (fun _ _ => trivial)); (case aO => exact (gR HO_7)); (case aS => exact (q7 (by repeat (first | (with_reducible first | exact HB.out | apply q3 | apply q4 | apply q5 | refine q6 ?_ GE182.out) | exact HB.out)))); (case aL => have := LMc70.out; omega); intro v207 w72 ho hb hg hat; rw [← Ny206.out] at ho; have n0_ := q13 (Kd.S_over' (gS HO_183000) (Kd.R_typed (gR HO_7)) (by decide) hg); have n1_ := q13 (Kd.S_over' (gS HO_183001) (Kd.R_typed (gR HO_7)) (by decide) hg); have n2_ := q13 (blk_grown (g := gb182) (o := .cells #[.slice (some ad185) t176.length co8, .slice Ao10 t179.length co10] 80 (0, 0)) (gK BK182) hg (Kd.R_ne HO_7.out BK182.out (by decide))); have n3_ := q13 (Kd.R_over' (gR HL201_0) (Kd.R_typed (gR HO_7)) (by decide) hg); have n4_ := q13 (hb); have n5_ := q13 (ho); clear HO_183000; clear HO_183001; clear BK182; clear HL201_0; clear HB; clear HO_7; have HO_183000 := n0_; have HO_183001 := n1_; have BK182 := n2_; have HL201_0 := n3_; have HB := n4_; have HO208 := n5_; clear n0_ n1_ n2_ n3_ n4_ n5_; clear ho hb hg hat)))
                          go_roundg kj40
                          case measure => have := HK1.out; have := HJ10.out; have := HJ13.out; have := HJ22.out; have := HJ40.out; omega
                          case rel => exact ⟨(y206), (x8_1), (wrap64 (x9_1 + 1)), (by first | rfl | (simp; done) | (simp [*]; done)), (by first | rfl | (simp; done) | (simp [*]; done)), H', ⟨by have := HK1.out; have := HJ10.out; have := HJ13.out; have := HJ22.out; have := HJ40.out; omega⟩, ⟨by (with_reducible repeat (first | apply Kd.R_alloc | apply Kd.R_drewN | apply Kd.R_drew)); exact HO208.out⟩, ⟨by (with_reducible repeat (first | apply q31 | apply q32 | apply q33)); exact HO_183000.out⟩, ⟨by (with_reducible repeat (first | apply q31 | apply q32 | apply q33)); exact HO_183001.out⟩, ⟨by (with_reducible repeat (first | refine q0 ?_ _ | refine q1 ?_ | refine q2 ?_ _)); exact BK182.out⟩, ⟨by repeat (first | (with_reducible first | exact HB.out | apply q3 | apply q4 | apply q5 | refine q6 ?_ GE182.out) | exact HB.out)⟩⟩
                         ·rw [if_neg c70] at H
                          exact absurd H (by simp)
                       ·rw [if_neg c65] at H
                        exact absurd H (by simp)
                      ·rw [if_neg c64] at H
                       exact absurd H (by simp)
                     ·rw [if_neg c63] at H
                      exact absurd H (by simp)
                    ·rw [if_neg c62] at H
                     exact absurd H (by simp)
                   ·rw [if_neg c60] at H
                    have c60b0 : decide (x8_1 < (l0.length : Int)) = false := decide_eq_false c60
                    clear c60
                    by_cases c73 : x7_1.length < 5864062014805
                    ·rw [if_pos c73] at H
                     have LMc73 := q13 c73
                     clear c73
                     obtain ⟨y209, hy209⟩ : ∃ y_ : List (S54), y_ = (x7_1 ++ [(⟨2, 0, x9_1⟩ : S54)]) := ⟨_, rfl⟩
                     replace H : (compare_Least.l0 kj40 l0 l1 y209 x8_1 (wrap64 (x9_1 + 1)) t176 t179) = some (r1, r2) := by first | (rw [hy209]; with_reducible exact H) | (have H2_ := (Option.bind_some _ _).symm.trans H; rw [hy209]; with_reducible exact H2_) | (have H2_ := (Option.bind_some _ _).symm.trans H; with_reducible exact H2_) | with_reducible exact H | (rw [hy209]; exact H) | exact H
                     have Ny209 := q13 hy209
                     clear hy209
                     have H' := q13 H
                     clear H
                     go_wp2_with (first | ((with_reducible refine gate_builtin (b := .append) (xs := #[.tmp 62, .tmp 65]) rfl ?_); (try (refine gate_guard (by rfl) ?_; dsimp only)); at_builtin; refine Kd.R_append k54 (w0 := w) w.heap.size rfl (.tmp 62) (.tmp 65) 52 54 (.agg #[(.int .i64 0), (.int .i64 0), (.int .i64 0)]) 24 rfl Try.underlying52 info54 rfl (by decide) (by omega) u7 x7_1 (⟨2, 0, x9_1⟩ : S54) [.int .i64 2, .int .i64 0, .int .i64 x9_1] (fun _ => True) (fun _ => False) rfl rfl ?aP (fun _ hk => hk.elim) ?aF ?aO ?aB ?aS ?aL ?_; (case aP => exact k54_mkM _ _ _ (⟨2, 0, x9_1⟩ : S54)); (case aB => exact (by repeat (first | (with_reducible first | exact HB.out | apply q3 | apply q4 | apply q5 | refine q6 ?_ GE182.out) | exact HB.out))); (case aF => exact (fun _ _ => trivial)); (case aO => exact (gR HO_7)); (case aS => exact (q7 (by repeat (first | (with_reducible first | exact HB.out | apply q3 | apply q4 | apply q5 | refine q6 ?_ GE182.out) | exact HB.out)))); (case aL => have := LMc73.out; omega); intro v210 w74 ho hb hg hat; rw [← Ny209.out] at ho; have n0_ := q13 (Kd.S_over' (gS HO_183000) (Kd.R_typed (gR HO_7)) (by decide) hg); have n1_ := q13 (Kd.S_over' (gS HO_183001) (Kd.R_typed (gR HO_7)) (by decide) hg); have n2_ := q13 (blk_grown (g := gb182) (o := .cells #[.slice (some ad185) t176.length co8, .slice Ao10 t179.length co10] 80 (0, 0)) (gK BK182) hg (Kd.R_ne HO_7.out BK182.out (by decide))); have n3_ := q13 (hb); have n4_ := q13 (ho); clear HO_183000; clear HO_183001; clear BK182; clear HB; clear HO_7; have HO_183000 := n0_; have HO_183001 := n1_; have BK182 := n2_; have HB := n3_; have HO211 := n4_; clear n0_ n1_ n2_ n3_ n4_; clear ho hb hg hat))
                     repeat (go_quiet (first | ((with_reducible refine gate_builtin (b := .append) (xs := #[.tmp 62, .tmp 65]) rfl ?_); (try (refine gate_guard (by rfl) ?_; dsimp only)); at_builtin; refine Kd.R_append k54 (w0 := w) w.heap.size rfl (.tmp 62) (.tmp 65) 52 54 (.agg #[(.int .i64 0), (.int .i64 0), (.int .i64 0)]) 24 rfl Try.underlying52 info54 rfl (by decide) (by omega) u7 x7_1 (⟨2, 0, x9_1⟩ : S54) [.int .i64 2, .int .i64 0, .int .i64 x9_1] (fun _ => True) (fun _ => False) rfl rfl ?aP (fun _ hk => hk.elim) ?aF ?aO ?aB ?aS ?aL ?_; (case aP => exact k54_mkM _ _ _ (⟨2, 0, x9_1⟩ : S54)); (case aB => exact (by repeat (first | (with_reducible first | exact HB.out | apply q3 | apply q4 | apply q5 | refine q6 ?_ GE182.out) | exact HB.out))); (case aF => exact (fun _ _ => trivial)); (case aO => exact (gR HO_7)); (case aS => exact (q7 (by repeat (first | (with_reducible first | exact HB.out | apply q3 | apply q4 | apply q5 | refine q6 ?_ GE182.out) | exact HB.out)))); (case aL => have := LMc73.out; omega); intro v210 w74 ho hb hg hat; rw [← Ny209.out] at ho; have n0_ := q13 (Kd.S_over' (gS HO_183000) (Kd.R_typed (gR HO_7)) (by decide) hg); have n1_ := q13 (Kd.S_over' (gS HO_183001) (Kd.R_typed (gR HO_7)) (by decide) hg); have n2_ := q13 (blk_grown (g := gb182) (o := .cells #[.slice (some ad185) t176.length co8, .slice Ao10 t179.length co10] 80 (0, 0)) (gK BK182) hg (Kd.R_ne HO_7.out BK182.out (by decide))); have n3_ := q13 (hb); have n4_ := q13 (ho); clear HO_183000; clear HO_183001; clear BK182; clear HB; clear HO_7; have HO_183000 := n0_; have HO_183001 := n1_; have BK182 := n2_; have HB := n3_; have HO211 := n4_; clear n0_ n1_ n2_ n3_ n4_; clear ho hb hg hat)); try go_wp2_with (first | ((with_reducible refine gate_builtin (b := .append) (xs := #[.tmp 62, .tmp 65]) rfl ?_); (try (refine gate_guard (by rfl) ?_; dsimp only)); at_builtin; refine Kd.R_append k54 (w0 := w) w.heap.size rfl (.tmp 62) (.tmp 65) 52 54 (.agg #[(.int .i64 0), (.int .i64 0), (.int .i64 0)]) 24 rfl Try.underlying52 info54 rfl (by decide) (by omega) u7 x7_1 (⟨2, 0, x9_1⟩ : S54) [.int .i64 2, .int .i64 0, .int .i64 x9_1] (fun _ => True) (fun _ => False) rfl rfl ?aP (fun _ hk => hk.elim) ?aF ?aO ?aB ?aS ?aL ?_; (case aP => exact k54_mkM _ _ _ (⟨2, 0, x9_1⟩ : S54)); (case aB => exact (by repeat (first | (with_reducible first | exact HB.out | apply q3 | apply q4 | apply q5 | refine q6 ?_ GE182.out) | exact HB.out))); (case aF => exact (fun _ _ => trivial)); (case aO => exact (gR HO_7)); (case aS => exact (q7 (by repeat (first | (with_reducible first | exact HB.out | apply q3 | apply q4 | apply q5 | refine q6 ?_ GE182.out) | exact HB.out)))); (case aL => have := LMc73.out; omega); intro v210 w74 ho hb hg hat; rw [← Ny209.out] at ho; have n0_ := q13 (Kd.S_over' (gS HO_183000) (Kd.R_typed (gR HO_7)) (by decide) hg); have n1_ := q13 (Kd.S_over' (gS HO_183001) (Kd.R_typed (gR HO_7)) (by decide) hg); have n2_ := q13 (blk_grown (g := gb182) (o := .cells #[.slice (some ad185) t176.length co8, .slice Ao10 t179.length co10] 80 (0, 0)) (gK BK182) hg (Kd.R_ne HO_7.out BK182.out (by decide))); have n3_ := q13 (hb); have n4_ := q13 (ho); clear HO_183000; clear HO_183001; clear BK182; clear HB; clear HO_7; have HO_183000 := n0_; have HO_183001 := n1_; have BK182 := n2_; have HB := n3_; have HO211 := n4_; clear n0_ n1_ n2_ n3_ n4_; clear ho hb hg hat)))
                     go_roundg kj40
                     case measure => have := HK1.out; have := HJ10.out; have := HJ13.out; have := HJ22.out; have := HJ40.out; omega
                     case rel => exact ⟨(y209), (x8_1), (wrap64 (x9_1 + 1)), (by first | rfl | (simp; done) | (simp [*]; done)), (by first | rfl | (simp; done) | (simp [*]; done)), H', ⟨by have := HK1.out; have := HJ10.out; have := HJ13.out; have := HJ22.out; have := HJ40.out; omega⟩, ⟨by (with_reducible repeat (first | apply Kd.R_alloc | apply Kd.R_drewN | apply Kd.R_drew)); exact HO211.out⟩, ⟨by (with_reducible repeat (first | apply q31 | apply q32 | apply q33)); exact HO_183000.out⟩, ⟨by (with_reducible repeat (first | apply q31 | apply q32 | apply q33)); exact HO_183001.out⟩, ⟨by (with_reducible repeat (first | refine q0 ?_ _ | refine q1 ?_ | refine q2 ?_ _)); exact BK182.out⟩, ⟨by repeat (first | (with_reducible first | exact HB.out | apply q3 | apply q4 | apply q5 | refine q6 ?_ GE182.out) | exact HB.out)⟩⟩
                    ·rw [if_neg c73] at H
                     exact absurd H (by simp)
            ·rw [if_neg c22] at H
             exact absurd H (by simp)
           ·rw [if_neg c21] at H
            exact absurd H (by simp)
          ·rw [if_neg c20] at H
           exact absurd H (by simp)
         ·rw [if_neg c19] at H
          exact absurd H (by simp)
      ·replace c13 := Bool.eq_false_iff.mpr c13
       subst c13
       have H1 : (some (x7_1, 0)) = some (r1, r2) := by rw [if_neg (show ¬ (false = true) by decide)] at H; exact H
       clear H
       have H := H1
       clear H1
       simp only [Option.some.injEq, Prod.mk.injEq] at H
       obtain ⟨rfl, rfl⟩ := H
       go_wp2
       repeat (go_quiet (fail); try go_wp2)
       go_ret2
       exact ⟨_, by first | rfl | (simp [errW_none, errW_some] <;> rfl) | (simp only [← hji3]; first | rfl | (simp [errW_none, errW_some] <;> rfl)) | (simp [*, errW_none, errW_some] <;> rfl), by (with_reducible repeat (first | apply Kd.R_alloc | apply Kd.R_drewN | apply Kd.R_drew)); exact HO_7.out, by repeat (first | (with_reducible first | exact HB.out | apply q3 | apply q4 | apply q5 | refine q6 ?_ GE182.out) | exact HB.out)⟩

end Go.Proofs.Ytgjmljjnminefaa.QCP
