-- Written by a program of this session (myprint.py) out of the translation; Lean checks it.
import Derived.Lib.SliceRun
import Derived.Test.YtgjmljjnminefaaQCompareBetterx0
import Derived.Test.YtgjmljjnminefaaQCompareBetterx5
import Derived.Test.YtgjmljjnminefaaQCompareBetterx7
import Derived.Test.YtgjmljjnminefaaQCompareBetterx8
import Derived.Test.YtgjmljjnminefaaQCompareBetterx11
import Derived.Test.YtgjmljjnminefaaQCompareBetterx13
import Derived.Test.YtgjmljjnminefaaQCompareBetterx14
import Derived.Test.YtgjmljjnminefaaArrEq
import Derived.Test.YtgjmljjnminefaaZip
namespace Go.Proofs.Ytgjmljjnminefaa.QCompareBetter
open Go.Proofs.Ytgjmljjnminefaa.Zip Go.RowKit Go.Proofs.YtgjmljjnminefaaW.PrintWords Go.Proofs.YtgjmljjnminefaaW.PrintLast Go.Proofs.YtgjmljjnminefaaW.PrintMore
attribute [local go_sem] max2_int min2_int max_two min_two max_three min_three max_four min_four   -- for this text's walks alone
set_option linter.unusedVariables false
set_option linter.unusedSimpArgs false

/-! ### frisketlaw36_CompareBetter: function 5 -/
mutual
def frisketlaw36_CompareBetter.j0 : Nat → List Int → List Int → List Int → Bool → Option (Bool)
 | 0, _, _, _, _ => none
 | k + 1, x0, x1, x2, x32 => if x32 = true then ((frisketlaw36_sane.f k).bind fun t315 => (some t315)) else ((frisketlaw36_numbered.f k x0).bind fun t316 => ((frisketlaw36_numbered.f k x1).bind fun t319 => (frisketlaw36_CompareBetter.l0 k x2 t316 t319 ([] : List (S54)) 0 0 0)))
def frisketlaw36_CompareBetter.l0 : Nat → List Int → List (S24) → List (S24) → List (S54) → Int → Int → Int → Option (Bool)
 | 0, _, _, _, _, _, _, _ => none
 | k + 1, x2, x7, x8, x9, x10, x11, x12 => if x10 < (x7.length : Int) then (frisketlaw36_CompareBetter.j2 k x2 x7 x8 x9 x10 x11 x12 true) else (frisketlaw36_CompareBetter.j2 k x2 x7 x8 x9 x10 x11 x12 (decide (x11 < (x8.length : Int))))
def frisketlaw36_CompareBetter.j2 : Nat → List Int → List (S24) → List (S24) → List (S54) → Int → Int → Int → Bool → Option (Bool)
 | 0, _, _, _, _, _, _, _, _ => none
 | k + 1, x2, x7, x8, x9, x10, x11, x12, x47 => if x47 = true then (if x12 < (x2.length : Int) then (if 0 ≤ x12 then (frisketlaw36_CompareBetter.j3 k x2 x7 x8 x9 x10 x11 x12 (rd x2 x12)) else (none)) else (frisketlaw36_CompareBetter.j3 k x2 x7 x8 x9 x10 x11 x12 0)) else ((compare_Apply.f k x7 x9 x8).bind fun bt347 => ((compare_Least.f k x7 x8).bind fun bt351 => (if bt347.2 = 0 then (if bt351.2 = 0 then ((frisketlaw36_as.f k bt347.1).bind fun t355 => ((frisketlaw36_as.f k x8).bind fun t358 => ((frisketref36_SamePages.f k t355 t358).bind fun t361 => (if t361 = true then ((compare_Cost.f k bt351.1).bind fun t362 => ((compare_Cost.f k x9).bind fun t363 => (if t362 ≤ t363 then ((frisketlaw36_sane.f k).bind fun t364 => (some t364)) else (none)))) else (none))))) else (none)) else (none))))
def frisketlaw36_CompareBetter.j3 : Nat → List Int → List (S24) → List (S24) → List (S54) → Int → Int → Int → Int → Option (Bool)
 | 0, _, _, _, _, _, _, _, _ => none
 | k + 1, x2, x7, x8, x9, x10, x11, x12, x13 => if x10 < (x7.length : Int) then (if x11 < (x8.length : Int) then (if 0 ≤ x10 then (if 0 ≤ x11 then (frisketlaw36_CompareBetter.j4 k x2 x7 x8 x9 x10 x11 x12 x13 (((rd_T24 x7 x10).f0) == ((rd_T24 x8 x11).f0))) else (none)) else (none)) else (frisketlaw36_CompareBetter.j4 k x2 x7 x8 x9 x10 x11 x12 x13 false)) else (frisketlaw36_CompareBetter.j4 k x2 x7 x8 x9 x10 x11 x12 x13 false)
def frisketlaw36_CompareBetter.j4 : Nat → List Int → List (S24) → List (S24) → List (S54) → Int → Int → Int → Int → Bool → Option (Bool)
 | 0, _, _, _, _, _, _, _, _, _ => none
 | k + 1, x2, x7, x8, x9, x10, x11, x12, x13, x14 => if x14 = true then (frisketlaw36_CompareBetter.j5 k x2 x7 x8 x9 x10 x11 x12 x13 ((Int.tmod x13 3) == 0)) else (frisketlaw36_CompareBetter.j5 k x2 x7 x8 x9 x10 x11 x12 x13 false)
def frisketlaw36_CompareBetter.j5 : Nat → List Int → List (S24) → List (S24) → List (S54) → Int → Int → Int → Int → Bool → Option (Bool)
 | 0, _, _, _, _, _, _, _, _, _ => none
 | k + 1, x2, x7, x8, x9, x10, x11, x12, x13, x88 => if x88 = true then (if 0 ≤ x10 then (if x10 < (x7.length : Int) then (if 0 ≤ x11 then (if x11 < (x8.length : Int) then ((compare_Same.f k ((rd_T24 x7 x10).f0) ((rd_T24 x7 x10).f1) ((rd_T24 x8 x11).f0) ((rd_T24 x8 x11).f1)).bind fun t328 => (if t328 = true then (if x9.length < 5864062014805 then (frisketlaw36_CompareBetter.l0 k x2 x7 x8 (x9 ++ [(⟨0, x10, x11⟩ : S54)]) (wrap64 (x10 + 1)) (wrap64 (x11 + 1)) (wrap64 (x12 + 1))) else (none)) else (if x9.length < 5864062014805 then (frisketlaw36_CompareBetter.l0 k x2 x7 x8 (x9 ++ [(⟨3, x10, x11⟩ : S54)]) (wrap64 (x10 + 1)) (wrap64 (x11 + 1)) (wrap64 (x12 + 1))) else (none)))) else (none)) else (none)) else (none)) else (none)) else (if x10 < (x7.length : Int) then (if (Int.tmod x13 3) < 2 then (if x9.length < 5864062014805 then (frisketlaw36_CompareBetter.l0 k x2 x7 x8 (x9 ++ [(⟨1, x10, 0⟩ : S54)]) (wrap64 (x10 + 1)) x11 (wrap64 (x12 + 1))) else (none)) else (if x11 = (x8.length : Int) then (if x9.length < 5864062014805 then (frisketlaw36_CompareBetter.l0 k x2 x7 x8 (x9 ++ [(⟨1, x10, 0⟩ : S54)]) (wrap64 (x10 + 1)) x11 (wrap64 (x12 + 1))) else (none)) else (if x9.length < 5864062014805 then (frisketlaw36_CompareBetter.l0 k x2 x7 x8 (x9 ++ [(⟨2, 0, x11⟩ : S54)]) x10 (wrap64 (x11 + 1)) (wrap64 (x12 + 1))) else (none)))) else (if x9.length < 5864062014805 then (frisketlaw36_CompareBetter.l0 k x2 x7 x8 (x9 ++ [(⟨2, 0, x11⟩ : S54)]) x10 (wrap64 (x11 + 1)) (wrap64 (x12 + 1))) else (none)))
end
def frisketlaw36_CompareBetter.f (k : Nat) (l0 : List Int) (l1 : List Int) (l2 : List Int) : Option (Bool) := if (l0.length : Int) > 60 then (frisketlaw36_CompareBetter.j0 k l0 l1 l2 true) else (if (l1.length : Int) > 60 then (frisketlaw36_CompareBetter.j0 k l0 l1 l2 true) else (frisketlaw36_CompareBetter.j0 k l0 l1 l2 (decide ((l2.length : Int) > 150))))
theorem frisketlaw36_CompareBetter.mono_l : ∀ k, (∀ y0 y1 y2 y3, LeO (frisketlaw36_CompareBetter.j0 k y0 y1 y2 y3) (frisketlaw36_CompareBetter.j0 (k + 1) y0 y1 y2 y3)) ∧ (∀ y0 y1 y2 y3 y4 y5 y6, LeO (frisketlaw36_CompareBetter.l0 k y0 y1 y2 y3 y4 y5 y6) (frisketlaw36_CompareBetter.l0 (k + 1) y0 y1 y2 y3 y4 y5 y6)) ∧ (∀ y0 y1 y2 y3 y4 y5 y6 y7, LeO (frisketlaw36_CompareBetter.j2 k y0 y1 y2 y3 y4 y5 y6 y7) (frisketlaw36_CompareBetter.j2 (k + 1) y0 y1 y2 y3 y4 y5 y6 y7)) ∧ (∀ y0 y1 y2 y3 y4 y5 y6 y7, LeO (frisketlaw36_CompareBetter.j3 k y0 y1 y2 y3 y4 y5 y6 y7) (frisketlaw36_CompareBetter.j3 (k + 1) y0 y1 y2 y3 y4 y5 y6 y7)) ∧ (∀ y0 y1 y2 y3 y4 y5 y6 y7 y8, LeO (frisketlaw36_CompareBetter.j4 k y0 y1 y2 y3 y4 y5 y6 y7 y8) (frisketlaw36_CompareBetter.j4 (k + 1) y0 y1 y2 y3 y4 y5 y6 y7 y8)) ∧ (∀ y0 y1 y2 y3 y4 y5 y6 y7 y8, LeO (frisketlaw36_CompareBetter.j5 k y0 y1 y2 y3 y4 y5 y6 y7 y8) (frisketlaw36_CompareBetter.j5 (k + 1) y0 y1 y2 y3 y4 y5 y6 y7 y8))
 | 0 => ⟨fun _ _ _ _ r h => by simp [frisketlaw36_CompareBetter.j0] at h, fun _ _ _ _ _ _ _ r h => by simp [frisketlaw36_CompareBetter.l0] at h, fun _ _ _ _ _ _ _ _ r h => by simp [frisketlaw36_CompareBetter.j2] at h, fun _ _ _ _ _ _ _ _ r h => by simp [frisketlaw36_CompareBetter.j3] at h, fun _ _ _ _ _ _ _ _ _ r h => by simp [frisketlaw36_CompareBetter.j4] at h, fun _ _ _ _ _ _ _ _ _ r h => by simp [frisketlaw36_CompareBetter.j5] at h⟩
 | k + 1 => by
  obtain ⟨ih0, ih1, ih2, ih3, ih4, ih5⟩ := frisketlaw36_CompareBetter.mono_l k
  refine ⟨?_, ?_, ?_, ?_, ?_, ?_⟩
  ·intro y0 y1 y2 y3
   unfold frisketlaw36_CompareBetter.j0
   repeat' first
   | (with_reducible exact ih0 _ _ _ _)
   | (with_reducible exact ih1 _ _ _ _ _ _ _)
   | (with_reducible exact ih2 _ _ _ _ _ _ _ _)
   | (with_reducible exact ih3 _ _ _ _ _ _ _ _)
   | (with_reducible exact ih4 _ _ _ _ _ _ _ _ _)
   | (with_reducible exact ih5 _ _ _ _ _ _ _ _ _)
   | (with_reducible exact compare_Apply.mono _ _ _ _)
   | (with_reducible exact compare_Cost.mono _ _)
   | (with_reducible exact compare_Least.mono _ _ _)
   | (with_reducible exact compare_Same.mono _ _ _ _ _)
   | (with_reducible exact frisketlaw36_as.mono _ _)
   | (with_reducible exact frisketlaw36_numbered.mono _ _)
   | (with_reducible exact frisketlaw36_sane.mono _)
   | (with_reducible exact frisketref36_SamePages.mono _ _ _)
   | (with_reducible exact LeO.refl _)
   | (with_reducible exact LeO.none _)
   | (with_reducible refine LeO.ite ?_ ?_)
   | (with_reducible refine LeO.bind ?_ (fun _ => ?_))
   | exact ih0 _ _ _ _
   | exact ih1 _ _ _ _ _ _ _
   | exact ih2 _ _ _ _ _ _ _ _
   | exact ih3 _ _ _ _ _ _ _ _
   | exact ih4 _ _ _ _ _ _ _ _ _
   | exact ih5 _ _ _ _ _ _ _ _ _
   | exact compare_Apply.mono _ _ _ _
   | exact compare_Cost.mono _ _
   | exact compare_Least.mono _ _ _
   | exact compare_Same.mono _ _ _ _ _
   | exact frisketlaw36_as.mono _ _
   | exact frisketlaw36_numbered.mono _ _
   | exact frisketlaw36_sane.mono _
   | exact frisketref36_SamePages.mono _ _ _
   | exact LeO.none _
   | refine LeO.ite ?_ ?_
   | refine LeO.bind ?_ (fun _ => ?_)
  ·intro y0 y1 y2 y3 y4 y5 y6
   unfold frisketlaw36_CompareBetter.l0
   repeat' first
   | (with_reducible exact ih0 _ _ _ _)
   | (with_reducible exact ih1 _ _ _ _ _ _ _)
   | (with_reducible exact ih2 _ _ _ _ _ _ _ _)
   | (with_reducible exact ih3 _ _ _ _ _ _ _ _)
   | (with_reducible exact ih4 _ _ _ _ _ _ _ _ _)
   | (with_reducible exact ih5 _ _ _ _ _ _ _ _ _)
   | (with_reducible exact compare_Apply.mono _ _ _ _)
   | (with_reducible exact compare_Cost.mono _ _)
   | (with_reducible exact compare_Least.mono _ _ _)
   | (with_reducible exact compare_Same.mono _ _ _ _ _)
   | (with_reducible exact frisketlaw36_as.mono _ _)
   | (with_reducible exact frisketlaw36_numbered.mono _ _)
   | (with_reducible exact frisketlaw36_sane.mono _)
   | (with_reducible exact frisketref36_SamePages.mono _ _ _)
   | (with_reducible exact LeO.refl _)
   | (with_reducible exact LeO.none _)
   | (with_reducible refine LeO.ite ?_ ?_)
   | (with_reducible refine LeO.bind ?_ (fun _ => ?_))
   | exact ih0 _ _ _ _
   | exact ih1 _ _ _ _ _ _ _
   | exact ih2 _ _ _ _ _ _ _ _
   | exact ih3 _ _ _ _ _ _ _ _
   | exact ih4 _ _ _ _ _ _ _ _ _
   | exact ih5 _ _ _ _ _ _ _ _ _
   | exact compare_Apply.mono _ _ _ _
   | exact compare_Cost.mono _ _
   | exact compare_Least.mono _ _ _
   | exact compare_Same.mono _ _ _ _ _
   | exact frisketlaw36_as.mono _ _
   | exact frisketlaw36_numbered.mono _ _
   | exact frisketlaw36_sane.mono _
   | exact frisketref36_SamePages.mono _ _ _
   | exact LeO.none _
   | refine LeO.ite ?_ ?_
   | refine LeO.bind ?_ (fun _ => ?_)
  ·intro y0 y1 y2 y3 y4 y5 y6 y7
   unfold frisketlaw36_CompareBetter.j2
   repeat' first
   | (with_reducible exact ih0 _ _ _ _)
   | (with_reducible exact ih1 _ _ _ _ _ _ _)
   | (with_reducible exact ih2 _ _ _ _ _ _ _ _)
   | (with_reducible exact ih3 _ _ _ _ _ _ _ _)
   | (with_reducible exact ih4 _ _ _ _ _ _ _ _ _)
   | (with_reducible exact ih5 _ _ _ _ _ _ _ _ _)
   | (with_reducible exact compare_Apply.mono _ _ _ _)
   | (with_reducible exact compare_Cost.mono _ _)
   | (with_reducible exact compare_Least.mono _ _ _)
   | (with_reducible exact compare_Same.mono _ _ _ _ _)
   | (with_reducible exact frisketlaw36_as.mono _ _)
   | (with_reducible exact frisketlaw36_numbered.mono _ _)
   | (with_reducible exact frisketlaw36_sane.mono _)
   | (with_reducible exact frisketref36_SamePages.mono _ _ _)
   | (with_reducible exact LeO.refl _)
   | (with_reducible exact LeO.none _)
   | (with_reducible refine LeO.ite ?_ ?_)
   | (with_reducible refine LeO.bind ?_ (fun _ => ?_))
   | exact ih0 _ _ _ _
   | exact ih1 _ _ _ _ _ _ _
   | exact ih2 _ _ _ _ _ _ _ _
   | exact ih3 _ _ _ _ _ _ _ _
   | exact ih4 _ _ _ _ _ _ _ _ _
   | exact ih5 _ _ _ _ _ _ _ _ _
   | exact compare_Apply.mono _ _ _ _
   | exact compare_Cost.mono _ _
   | exact compare_Least.mono _ _ _
   | exact compare_Same.mono _ _ _ _ _
   | exact frisketlaw36_as.mono _ _
   | exact frisketlaw36_numbered.mono _ _
   | exact frisketlaw36_sane.mono _
   | exact frisketref36_SamePages.mono _ _ _
   | exact LeO.none _
   | refine LeO.ite ?_ ?_
   | refine LeO.bind ?_ (fun _ => ?_)
  ·intro y0 y1 y2 y3 y4 y5 y6 y7
   unfold frisketlaw36_CompareBetter.j3
   repeat' first
   | (with_reducible exact ih0 _ _ _ _)
   | (with_reducible exact ih1 _ _ _ _ _ _ _)
   | (with_reducible exact ih2 _ _ _ _ _ _ _ _)
   | (with_reducible exact ih3 _ _ _ _ _ _ _ _)
   | (with_reducible exact ih4 _ _ _ _ _ _ _ _ _)
   | (with_reducible exact ih5 _ _ _ _ _ _ _ _ _)
   | (with_reducible exact compare_Apply.mono _ _ _ _)
   | (with_reducible exact compare_Cost.mono _ _)
   | (with_reducible exact compare_Least.mono _ _ _)
   | (with_reducible exact compare_Same.mono _ _ _ _ _)
   | (with_reducible exact frisketlaw36_as.mono _ _)
   | (with_reducible exact frisketlaw36_numbered.mono _ _)
   | (with_reducible exact frisketlaw36_sane.mono _)
   | (with_reducible exact frisketref36_SamePages.mono _ _ _)
   | (with_reducible exact LeO.refl _)
   | (with_reducible exact LeO.none _)
   | (with_reducible refine LeO.ite ?_ ?_)
   | (with_reducible refine LeO.bind ?_ (fun _ => ?_))
   | exact ih0 _ _ _ _
   | exact ih1 _ _ _ _ _ _ _
   | exact ih2 _ _ _ _ _ _ _ _
   | exact ih3 _ _ _ _ _ _ _ _
   | exact ih4 _ _ _ _ _ _ _ _ _
   | exact ih5 _ _ _ _ _ _ _ _ _
   | exact compare_Apply.mono _ _ _ _
   | exact compare_Cost.mono _ _
   | exact compare_Least.mono _ _ _
   | exact compare_Same.mono _ _ _ _ _
   | exact frisketlaw36_as.mono _ _
   | exact frisketlaw36_numbered.mono _ _
   | exact frisketlaw36_sane.mono _
   | exact frisketref36_SamePages.mono _ _ _
   | exact LeO.none _
   | refine LeO.ite ?_ ?_
   | refine LeO.bind ?_ (fun _ => ?_)
  ·intro y0 y1 y2 y3 y4 y5 y6 y7 y8
   unfold frisketlaw36_CompareBetter.j4
   repeat' first
   | (with_reducible exact ih0 _ _ _ _)
   | (with_reducible exact ih1 _ _ _ _ _ _ _)
   | (with_reducible exact ih2 _ _ _ _ _ _ _ _)
   | (with_reducible exact ih3 _ _ _ _ _ _ _ _)
   | (with_reducible exact ih4 _ _ _ _ _ _ _ _ _)
   | (with_reducible exact ih5 _ _ _ _ _ _ _ _ _)
   | (with_reducible exact compare_Apply.mono _ _ _ _)
   | (with_reducible exact compare_Cost.mono _ _)
   | (with_reducible exact compare_Least.mono _ _ _)
   | (with_reducible exact compare_Same.mono _ _ _ _ _)
   | (with_reducible exact frisketlaw36_as.mono _ _)
   | (with_reducible exact frisketlaw36_numbered.mono _ _)
   | (with_reducible exact frisketlaw36_sane.mono _)
   | (with_reducible exact frisketref36_SamePages.mono _ _ _)
   | (with_reducible exact LeO.refl _)
   | (with_reducible exact LeO.none _)
   | (with_reducible refine LeO.ite ?_ ?_)
   | (with_reducible refine LeO.bind ?_ (fun _ => ?_))
   | exact ih0 _ _ _ _
   | exact ih1 _ _ _ _ _ _ _
   | exact ih2 _ _ _ _ _ _ _ _
   | exact ih3 _ _ _ _ _ _ _ _
   | exact ih4 _ _ _ _ _ _ _ _ _
   | exact ih5 _ _ _ _ _ _ _ _ _
   | exact compare_Apply.mono _ _ _ _
   | exact compare_Cost.mono _ _
   | exact compare_Least.mono _ _ _
   | exact compare_Same.mono _ _ _ _ _
   | exact frisketlaw36_as.mono _ _
   | exact frisketlaw36_numbered.mono _ _
   | exact frisketlaw36_sane.mono _
   | exact frisketref36_SamePages.mono _ _ _
   | exact LeO.none _
   | refine LeO.ite ?_ ?_
   | refine LeO.bind ?_ (fun _ => ?_)
  ·intro y0 y1 y2 y3 y4 y5 y6 y7 y8
   unfold frisketlaw36_CompareBetter.j5
   repeat' first
   | (with_reducible exact ih0 _ _ _ _)
   | (with_reducible exact ih1 _ _ _ _ _ _ _)
   | (with_reducible exact ih2 _ _ _ _ _ _ _ _)
   | (with_reducible exact ih3 _ _ _ _ _ _ _ _)
   | (with_reducible exact ih4 _ _ _ _ _ _ _ _ _)
   | (with_reducible exact ih5 _ _ _ _ _ _ _ _ _)
   | (with_reducible exact compare_Apply.mono _ _ _ _)
   | (with_reducible exact compare_Cost.mono _ _)
   | (with_reducible exact compare_Least.mono _ _ _)
   | (with_reducible exact compare_Same.mono _ _ _ _ _)
   | (with_reducible exact frisketlaw36_as.mono _ _)
   | (with_reducible exact frisketlaw36_numbered.mono _ _)
   | (with_reducible exact frisketlaw36_sane.mono _)
   | (with_reducible exact frisketref36_SamePages.mono _ _ _)
   | (with_reducible exact LeO.refl _)
   | (with_reducible exact LeO.none _)
   | (with_reducible refine LeO.ite ?_ ?_)
   | (with_reducible refine LeO.bind ?_ (fun _ => ?_))
   | exact ih0 _ _ _ _
   | exact ih1 _ _ _ _ _ _ _
   | exact ih2 _ _ _ _ _ _ _ _
   | exact ih3 _ _ _ _ _ _ _ _
   | exact ih4 _ _ _ _ _ _ _ _ _
   | exact ih5 _ _ _ _ _ _ _ _ _
   | exact compare_Apply.mono _ _ _ _
   | exact compare_Cost.mono _ _
   | exact compare_Least.mono _ _ _
   | exact compare_Same.mono _ _ _ _ _
   | exact frisketlaw36_as.mono _ _
   | exact frisketlaw36_numbered.mono _ _
   | exact frisketlaw36_sane.mono _
   | exact frisketref36_SamePages.mono _ _ _
   | exact LeO.none _
   | refine LeO.ite ?_ ?_
   | refine LeO.bind ?_ (fun _ => ?_)
theorem frisketlaw36_CompareBetter.mono : ∀ a0 a1 a2 k, LeO (frisketlaw36_CompareBetter.f k a0 a1 a2) (frisketlaw36_CompareBetter.f (k + 1) a0 a1 a2) := by
 intro a0 a1 a2 k
 obtain ⟨ih0, ih1, ih2, ih3, ih4, ih5⟩ := frisketlaw36_CompareBetter.mono_l k
 unfold frisketlaw36_CompareBetter.f
 repeat' first
   | (with_reducible exact ih0 _ _ _ _)
   | (with_reducible exact ih1 _ _ _ _ _ _ _)
   | (with_reducible exact ih2 _ _ _ _ _ _ _ _)
   | (with_reducible exact ih3 _ _ _ _ _ _ _ _)
   | (with_reducible exact ih4 _ _ _ _ _ _ _ _ _)
   | (with_reducible exact ih5 _ _ _ _ _ _ _ _ _)
   | (with_reducible exact compare_Apply.mono _ _ _ _)
   | (with_reducible exact compare_Cost.mono _ _)
   | (with_reducible exact compare_Least.mono _ _ _)
   | (with_reducible exact compare_Same.mono _ _ _ _ _)
   | (with_reducible exact frisketlaw36_as.mono _ _)
   | (with_reducible exact frisketlaw36_numbered.mono _ _)
   | (with_reducible exact frisketlaw36_sane.mono _)
   | (with_reducible exact frisketref36_SamePages.mono _ _ _)
   | (with_reducible exact LeO.refl _)
   | (with_reducible exact LeO.none _)
   | (with_reducible refine LeO.ite ?_ ?_)
   | (with_reducible refine LeO.bind ?_ (fun _ => ?_))
   | exact ih0 _ _ _ _
   | exact ih1 _ _ _ _ _ _ _
   | exact ih2 _ _ _ _ _ _ _ _
   | exact ih3 _ _ _ _ _ _ _ _
   | exact ih4 _ _ _ _ _ _ _ _ _
   | exact ih5 _ _ _ _ _ _ _ _ _
   | exact compare_Apply.mono _ _ _ _
   | exact compare_Cost.mono _ _
   | exact compare_Least.mono _ _ _
   | exact compare_Same.mono _ _ _ _ _
   | exact frisketlaw36_as.mono _ _
   | exact frisketlaw36_numbered.mono _ _
   | exact frisketlaw36_sane.mono _
   | exact frisketref36_SamePages.mono _ _ _
   | exact LeO.none _
   | refine LeO.ite ?_ ?_
   | refine LeO.bind ?_ (fun _ => ?_)
def frisketlaw36_CompareBetter.T12 : Bool × List (List Nat × List Nat) := (true, [([], []), ([], []), ([1], [1]), ([0, 2], [0, 2]), ([3], [3]), ([4], [4]), ([4], [4]), ([6, 4], [4, 6]), ([5, 7, 4], [4, 5, 7]), ([4, 8], [4, 8]), ([9, 4], [9]), ([10], [10]), ([10], [10]), ([11, 12, 10], [10, 11, 12]), ([13, 10], [10, 13]), ([14, 10], [10, 14]), ([10], [10]), ([10], [10]), ([16, 17, 10], [10, 16, 17]), ([18, 10], [10, 18]), ([19, 10], [10, 19]), ([15, 20, 10], [10, 15, 20]), ([10, 21], [10, 21]), ([22, 10, 0, 1, 2, 3, 4, 5, 6, 7, 8, 9, 10, 11, 12, 13, 14, 15, 16, 17, 18, 19, 20, 21, 22], [22])])
def frisketlaw36_CompareBetter.B12 : List Nat := [0, 0, 2, 7, 15, 31, 31, 95, 255, 511, 1023, 2047, 2047, 8191, 16383, 32767, 2047, 2047, 198655, 460799, 985087, 2097151, 4194303, 8388607]
theorem frisketlaw36_CompareBetter.tab12 : rtab .any (opsOf Try.f5 12) = frisketlaw36_CompareBetter.T12 := by kernel_rfl
theorem frisketlaw36_CompareBetter.bits12 : waitsOk frisketlaw36_CompareBetter.T12.2 frisketlaw36_CompareBetter.B12 = true := by kernel_rfl
def frisketlaw36_CompareBetter.T17 : Bool × List (List Nat × List Nat) := (true, [([], []), ([], []), ([0, 1], [0, 1]), ([2], [2]), ([], []), ([], []), ([4, 5], [4, 5]), ([6], [6]), ([3, 7], [3, 7])])
def frisketlaw36_CompareBetter.B17 : List Nat := [0, 0, 3, 7, 0, 0, 48, 112, 255]
theorem frisketlaw36_CompareBetter.tab17 : rtab .any (opsOf Try.f5 17) = frisketlaw36_CompareBetter.T17 := by kernel_rfl
theorem frisketlaw36_CompareBetter.bits17 : waitsOk frisketlaw36_CompareBetter.T17.2 frisketlaw36_CompareBetter.B17 = true := by kernel_rfl
set_option maxHeartbeats 8000000 in
set_option maxRecDepth 100000 in
theorem frisketlaw36_CompareBetter.calls (k : Nat) (A0 : Option Addr) (c0 : Nat) (l0 : List Int) (A1 : Option Addr) (c1 : Nat) (l1 : List Int) (A2 : Option Addr) (c2 : Nat) (l2 : List Int) (r : Bool) (w : World) (hr0 : Kd.C (Kd.int .u8) w A0 l0.length l0) (hc0 : l0.length ≤ c0) (hr1 : Kd.C (Kd.int .u8) w A1 l1.length l1) (hc1 : l1.length ≤ c1) (hr2 : Kd.C (Kd.int .u8) w A2 l2.length l2) (hc2 : l2.length ≤ c2) (h : frisketlaw36_CompareBetter.f k l0 l1 l2 = some r) :
  Calls Try.prog 5 #[.slice A0 l0.length c0, .slice A1 l1.length c1, .slice A2 l2.length c2] w fun e w' => e = .returned (.bool r) ∧ Below w.heap.size w w' := by
 have hu54 := Try.underlying54
 have hu24 := Try.underlying24
 have HR0 := q13 hr0
 have HC0 := q13 hc0
 clear hr0 hc0
 have HR1 := q13 hr1
 have HC1 := q13 hc1
 clear hr1 hc1
 have HR2 := q13 hr2
 have HC2 := q13 hc2
 clear hr2 hc2
 have HB := q13 (Below.refl w.heap.size w)
 have H : (if (l0.length : Int) > 60 then (frisketlaw36_CompareBetter.j0 k l0 l1 l2 true) else (if (l1.length : Int) > 60 then (frisketlaw36_CompareBetter.j0 k l0 l1 l2 true) else (frisketlaw36_CompareBetter.j0 k l0 l1 l2 (decide ((l2.length : Int) > 150))))) = some r := h
 clear h
 have HC4 := q13 H
 clear H
 go_enter Try.func5, Try.ntmps5
 go_upto_region 1 with (fail)
 go_cut [32] (fun v32 wc => ∃ (kq : Nat) (x32_3 : Bool), v32 = .bool x32_3 ∧ Aside0 (frisketlaw36_CompareBetter.j0 kq l0 l1 l2 x32_3 = some r) ∧ Aside0 (kq ≤ k) ∧ Aside0 (Below w.heap.size w wc))
 case first =>
  have H := HC4.out
  clear HC4
  by_cases c5 : (l0.length : Int) > 60
  ·rw [if_pos c5] at H
   have c5b0 : decide (60 < (l0.length : Int)) = true := decide_eq_true c5
   have c5b1 : decide (60 < l0.length) = true := decide_eq_true (by omega)
   clear c5
   (first | rw [c5b0] | (simp only [i64_w, i32_w]; rw [c5b0]) | skip)
   have H' := q13 H
   clear H
   go_wp2
   go_meet
   case rel => exact ⟨_, (true), (by first | rfl | (simp; done) | (simp [*]; done)), H', ⟨by first | omega | exact q17 _⟩, ⟨by repeat (first | (with_reducible first | exact HB.out | apply q3 | apply q4 | apply q5) | exact HB.out)⟩⟩
  ·rw [if_neg c5] at H
   have c5b0 : decide (60 < (l0.length : Int)) = false := decide_eq_false c5
   have c5b1 : decide (60 < l0.length) = false := decide_eq_false (by omega)
   clear c5
   (first | rw [c5b0] | (simp only [i64_w, i32_w]; rw [c5b0]) | skip)
   by_cases c6 : (l1.length : Int) > 60
   ·rw [if_pos c6] at H
    have c6b0 : decide (60 < (l1.length : Int)) = true := decide_eq_true c6
    have c6b1 : decide (60 < l1.length) = true := decide_eq_true (by omega)
    clear c6
    have H' := q13 H
    clear H
    go_wp2
    go_meet
    case rel => exact ⟨_, (true), (by first | rfl | (simp; done) | (simp [*]; done)), H', ⟨by first | omega | exact q17 _⟩, ⟨by repeat (first | (with_reducible first | exact HB.out | apply q3 | apply q4 | apply q5) | exact HB.out)⟩⟩
   ·rw [if_neg c6] at H
    have c6b0 : decide (60 < (l1.length : Int)) = false := decide_eq_false c6
    have c6b1 : decide (60 < l1.length) = false := decide_eq_false (by omega)
    clear c6
    have H' := q13 H
    clear H
    go_wp2
    go_meet
    case rel => exact ⟨_, (decide ((l2.length : Int) > 150)), (by first | rfl | (simp; done) | (simp [*]; done)), H', ⟨by first | omega | exact q17 _⟩, ⟨by repeat (first | (with_reducible first | exact HB.out | apply q3 | apply q4 | apply q5) | exact HB.out)⟩⟩
 case rest =>
  clear HC4
  try clear c1
  try clear c2
  try clear p2
  try clear c5
  try clear c5b0
  try clear c5b1
  try clear c6
  try clear c6b0
  try clear c6b1
  obtain ⟨kq, x32_3, rfl, HA, HJ3, HB⟩ := hcut
  cases kq with
  | zero => exact absurd HA.out (by simp [frisketlaw36_CompareBetter.j0])
  | succ kj3 =>
   have H := HA.out
   clear HA
   simp only [frisketlaw36_CompareBetter.j0] at H
   by_cases c7 : x32_3 = true
   ·subst c7
    have H1 : ((frisketlaw36_sane.f kj3).bind fun t315 => (some t315)) = some r := by rw [if_pos rfl] at H; exact H
    clear H
    have H := H1
    clear H1
    replace H := Option.bind_eq_some_iff.mp H
    obtain ⟨t315, A80, H⟩ := H
    replace H : (some t315) = some r := H
    have A8 := q13 A80
    clear A80
    obtain rfl := Option.some.inj H
    go_wp2_with (first | ((with_reducible refine gate_callee (f := 7) rfl ?_); refine goesL_ (some 33) rfl rfl Try.func7 (by kernel_rfl) rfl #[] rfl (by (try simp only [List.map_toArray, List.map_cons, List.map_nil]); first | done | rfl | (simp only [List.length_drop, List.length_take]; rfl)) ?_; (with_reducible refine (frisketlaw36_sane.calls kj3  t315 _ A8.out).mono ?_); rintro e w9 ⟨rfl, hb⟩; refine ⟨_, rfl, ?_⟩; have n0_ := q13 (q12 (by repeat (first | (with_reducible first | exact HB.out | apply q3 | apply q4 | apply q5) | exact HB.out)) hb); clear HB; have HB := n0_; clear n0_; (try clear hb); (try clear hb2); (try clear hk); (try clear hi)))
    go_ret
    exact ⟨by first | rfl | (simp [errW_none, errW_some] <;> rfl) | (simp [*, errW_none, errW_some] <;> rfl), by repeat (first | (with_reducible first | exact HB.out | apply q3 | apply q4 | apply q5) | exact HB.out)⟩
   ·replace c7 := Bool.eq_false_iff.mpr c7
    subst c7
    have H1 : ((frisketlaw36_numbered.f kj3 l0).bind fun t316 => ((frisketlaw36_numbered.f kj3 l1).bind fun t319 => (frisketlaw36_CompareBetter.l0 kj3 l2 t316 t319 ([] : List (S54)) 0 0 0))) = some r := by rw [if_neg (show ¬ (false = true) by decide)] at H; exact H
    clear H
    have H := H1
    clear H1
    replace H := Option.bind_eq_some_iff.mp H
    obtain ⟨t316, A100, H⟩ := H
    replace H : ((frisketlaw36_numbered.f kj3 l1).bind fun t319 => (frisketlaw36_CompareBetter.l0 kj3 l2 t316 t319 ([] : List (S54)) 0 0 0)) = some r := H
    have A10 := q13 A100
    clear A100
    replace H := Option.bind_eq_some_iff.mp H
    obtain ⟨t319, A110, H⟩ := H
    replace H : (frisketlaw36_CompareBetter.l0 kj3 l2 t316 t319 ([] : List (S54)) 0 0 0) = some r := H
    have A11 := q13 A110
    clear A110
    have H' := q13 H
    clear H
    go_wp2_with (first | ((with_reducible refine gate_callee (f := 22) rfl ?_); refine goesL_ (some 35) rfl rfl Try.func22 (by kernel_rfl) rfl #[.slice A0 l0.length c0] rfl (by (try simp only [List.map_toArray, List.map_cons, List.map_nil]); first | done | rfl | (simp only [List.length_drop, List.length_take]; rfl)) ?_; (with_reducible refine (frisketlaw36_numbered.calls kj3 _ _ l0 t316 _ ?side1 ?side2 A10.out).mono ?_); (case side1 => repeat (first | exact (Kd.C_below HR0.out HB.out) | (with_reducible refine q18 ?_ _) | (with_reducible refine q19 ?_ _) | (with_reducible refine q20 ?_))); (case side2 => exact HC0.out); rintro e w12 ⟨v317, rfl, ho0, hb⟩; refine ⟨_, rfl, ?_⟩; have n0_ := q13 (Kd.N_lower (Kd.N_mono (ok' := fun k_ => True) (Kd.R_N (Kd.R_bound ho0)) (fun k_ hk_ => trivial)) (q7 (by repeat (first | (with_reducible first | exact HB.out | apply q3 | apply q4 | apply q5) | exact HB.out)))); have n1_ := q13 (q12 (by repeat (first | (with_reducible first | exact HB.out | apply q3 | apply q4 | apply q5) | exact HB.out)) hb); clear HB; have HO318 := n0_; have HB := n1_; clear n0_ n1_; (try clear hb); (try clear hb2); (try clear hk); (try clear hi); (try clear ho0)) | ((with_reducible refine gate_callee (f := 22) rfl ?_); refine goesL_ (some 37) rfl rfl Try.func22 (by kernel_rfl) rfl #[.slice A1 l1.length c1] rfl (by (try simp only [List.map_toArray, List.map_cons, List.map_nil]); first | done | rfl | (simp only [List.length_drop, List.length_take]; rfl)) ?_; (with_reducible refine (frisketlaw36_numbered.calls kj3 _ _ l1 t319 _ ?side1 ?side2 A11.out).mono ?_); (case side1 => repeat (first | exact (Kd.C_below HR1.out HB.out) | (with_reducible refine q18 ?_ _) | (with_reducible refine q19 ?_ _) | (with_reducible refine q20 ?_))); (case side2 => exact HC1.out); rintro e w13 ⟨v320, rfl, ho0, hb⟩; refine ⟨_, rfl, ?_⟩; have n0_ := q13 (Kd.N_elder' (by (with_reducible repeat (first | apply q22 | apply q23 | apply q24)); exact HO318.out) (by first | exact Kd.N_base ho0 | exact Kd.R_base ho0) hb); have n1_ := q13 (Kd.N_lower (Kd.N_mono (ok' := fun k_ => some k_ ≠ (v317 : Value).ownBlock) (Kd.R_N (Kd.R_bound ho0)) (fun k_ hk_ => (Kd.fresh' (Kd.N_lt (by (with_reducible repeat (first | apply q22 | apply q23 | apply q24)); exact HO318.out)) k_ hk_.2.1))) (q7 (by repeat (first | (with_reducible first | exact HB.out | apply q3 | apply q4 | apply q5) | exact HB.out)))); have n2_ := q13 (q12 (by repeat (first | (with_reducible first | exact HB.out | apply q3 | apply q4 | apply q5) | exact HB.out)) hb); clear HO318; clear HB; have HO318 := n0_; have HO321 := n1_; have HB := n2_; clear n0_ n1_ n2_; (try clear hb); (try clear hb2); (try clear hk); (try clear hi); (try clear ho0)))
    go_loopg [9, 10, 11, 12] kj3 (fun kq v9 v10 v11 v12 w' => ∃ (x9_2 : List (S54)) (x10_2 : Int) (x11_2 : Int) (x12_2 : Int), v10 = .int .i64 x10_2 ∧ v11 = .int .i64 x11_2 ∧ v12 = .int .i64 x12_2 ∧ Aside0 (frisketlaw36_CompareBetter.l0 kq l2 t316 t319 x9_2 x10_2 x11_2 x12_2 = some r) ∧ Aside0 (kq ≤ kj3) ∧ Aside0 (Kd.N k24 24 w' w.heap.size (fun k_ => some k_ ≠ (v320 : Value).ownBlock ∧ some k_ ≠ (v9 : Value).ownBlock) v317 t316) ∧ Aside0 (Kd.N k24 24 w' w.heap.size (fun k_ => some k_ ≠ (v317 : Value).ownBlock ∧ some k_ ≠ (v9 : Value).ownBlock) v320 t319) ∧ Aside0 (Kd.R k54 54 w' w.heap.size (fun _ => True) v9 x9_2) ∧ Aside0 (Below w.heap.size w w'))
    case atStart => exact ⟨(([] : List (S54))), (0), (0), (0), (by first | rfl | (simp; done) | (simp [*]; done)), (by first | rfl | (simp; done) | (simp [*]; done)), (by first | rfl | (simp; done) | (simp [*]; done)), H', ⟨q17 _⟩, ⟨by (with_reducible repeat (first | apply q22 | apply q23 | apply q24)); exact Kd.N_mono HO318.out (fun _ hk => ⟨hk.2, (by simp [Value.ownBlock])⟩)⟩, ⟨by (with_reducible repeat (first | apply q22 | apply q23 | apply q24)); exact Kd.N_mono HO321.out (fun _ hk => ⟨hk, (by simp [Value.ownBlock])⟩)⟩, ⟨by first | exact Kd.R_nil _ _ _ _ _ | exact Kd.N_nil _ _ _ _ _ | exact Kd.V_nil _ _ _ _ _ | exact Kd.Q_nil _ _ _ _ _ | exact Kd.S_nil _ _ _ _ _⟩, ⟨by repeat (first | (with_reducible first | exact HB.out | apply q3 | apply q4 | apply q5) | exact HB.out)⟩⟩
    case round =>
     clear H'
     try clear c1
     try clear c2
     try clear p2
     try clear c5
     try clear c5b0
     try clear c5b1
     try clear c6
     try clear c6b0
     try clear c6b1
     try clear c7
     try clear p2
     obtain ⟨x9_2, x10_2, x11_2, x12_2, rfl, rfl, rfl, HA, HK2, HO_7, HO_8, HO_9, HB⟩ := hrel
     cases gk with
     | zero => exact absurd HA.out (by simp [frisketlaw36_CompareBetter.l0])
     | succ k2 =>
      have H := HA.out
      clear HA
      simp only [frisketlaw36_CompareBetter.l0] at H
      have HC14 := q13 H
      clear H
      go_upto_region 7 with (fail)
      go_cut [47] (fun v47 wc => ∃ (kq : Nat) (x47_13 : Bool), v47 = .bool x47_13 ∧ Aside0 (frisketlaw36_CompareBetter.j2 kq l2 t316 t319 x9_2 x10_2 x11_2 x12_2 x47_13 = some r) ∧ Aside0 (kq ≤ k2) ∧ Aside0 (Kd.N k24 24 wc w.heap.size (fun k_ => some k_ ≠ (v320 : Value).ownBlock ∧ some k_ ≠ (u9 : Value).ownBlock) v317 t316) ∧ Aside0 (Kd.N k24 24 wc w.heap.size (fun k_ => some k_ ≠ (v317 : Value).ownBlock ∧ some k_ ≠ (u9 : Value).ownBlock) v320 t319) ∧ Aside0 (Kd.R k54 54 wc w.heap.size (fun _ => True) u9 x9_2) ∧ Aside0 (Below w.heap.size w wc))
      case first =>
       have H := HC14.out
       clear HC14
       by_cases c15 : x10_2 < (t316.length : Int)
       ·rw [if_pos c15] at H
        have c15b0 : decide (x10_2 < (t316.length : Int)) = true := decide_eq_true c15
        clear c15
        (first | rw [c15b0] | (simp only [i64_w, i32_w]; rw [c15b0]) | skip)
        have H' := q13 H
        clear H
        obtain ⟨Ao16, co16, eo16⟩ := Kd.N_slice HO_7.out
        subst eo16
        go_wp2
        go_meet
        case rel => exact ⟨_, (true), (by first | rfl | (simp; done) | (simp [*]; done)), H', ⟨by have := HJ3.out; have := HK2.out; first | omega | exact q17 _⟩, ⟨by (with_reducible repeat (first | apply q22 | apply q23 | apply q24)); exact HO_7.out⟩, ⟨by (with_reducible repeat (first | apply q22 | apply q23 | apply q24)); exact HO_8.out⟩, ⟨by (with_reducible repeat (first | apply q25 | apply q26 | apply q27)); exact HO_9.out⟩, ⟨by repeat (first | (with_reducible first | exact HB.out | apply q3 | apply q4 | apply q5) | exact HB.out)⟩⟩
       ·rw [if_neg c15] at H
        have c15b0 : decide (x10_2 < (t316.length : Int)) = false := decide_eq_false c15
        clear c15
        (first | rw [c15b0] | (simp only [i64_w, i32_w]; rw [c15b0]) | skip)
        have H' := q13 H
        clear H
        obtain ⟨Ao17, co17, eo17⟩ := Kd.N_slice HO_7.out
        subst eo17
        obtain ⟨Ao18, co18, eo18⟩ := Kd.N_slice HO_8.out
        subst eo18
        go_wp2
        go_meet
        case rel => exact ⟨_, (decide (x11_2 < (t319.length : Int))), (by first | rfl | (simp; done) | (simp [*]; done)), H', ⟨by have := HJ3.out; have := HK2.out; first | omega | exact q17 _⟩, ⟨by (with_reducible repeat (first | apply q22 | apply q23 | apply q24)); exact HO_7.out⟩, ⟨by (with_reducible repeat (first | apply q22 | apply q23 | apply q24)); exact HO_8.out⟩, ⟨by (with_reducible repeat (first | apply q25 | apply q26 | apply q27)); exact HO_9.out⟩, ⟨by repeat (first | (with_reducible first | exact HB.out | apply q3 | apply q4 | apply q5) | exact HB.out)⟩⟩
      case rest =>
       clear HC14
       try clear c1
       try clear c2
       try clear p2
       try clear c5
       try clear c5b0
       try clear c5b1
       try clear c6
       try clear c6b0
       try clear c6b1
       try clear c7
       try clear c15
       try clear c15b0
       try clear p2
       obtain ⟨kq, x47_13, rfl, HA, HJ13, HO_7, HO_8, HO_9, HB⟩ := hcut
       cases kq with
       | zero => exact absurd HA.out (by simp [frisketlaw36_CompareBetter.j2])
       | succ kj13 =>
        have H := HA.out
        clear HA
        simp only [frisketlaw36_CompareBetter.j2] at H
        by_cases c19 : x47_13 = true
        ·subst c19
         have H1 : (if x12_2 < (l2.length : Int) then (if 0 ≤ x12_2 then (frisketlaw36_CompareBetter.j3 kj13 l2 t316 t319 x9_2 x10_2 x11_2 x12_2 (rd l2 x12_2)) else (none)) else (frisketlaw36_CompareBetter.j3 kj13 l2 t316 t319 x9_2 x10_2 x11_2 x12_2 0)) = some r := by rw [if_pos rfl] at H; exact H
         clear H
         have H := H1
         clear H1
         have HC20 := q13 H
         clear H
         go_upto_if 53 with (fail)
         go_cut [13] (fun v13 wc => ∃ (kq : Nat) (x13_19 : Int), v13 = .int .u8 x13_19 ∧ Aside0 (frisketlaw36_CompareBetter.j3 kq l2 t316 t319 x9_2 x10_2 x11_2 x12_2 x13_19 = some r) ∧ Aside0 (kq ≤ kj13) ∧ Aside0 (Kd.N k24 24 wc w.heap.size (fun k_ => some k_ ≠ (v320 : Value).ownBlock ∧ some k_ ≠ (u9 : Value).ownBlock) v317 t316) ∧ Aside0 (Kd.N k24 24 wc w.heap.size (fun k_ => some k_ ≠ (v317 : Value).ownBlock ∧ some k_ ≠ (u9 : Value).ownBlock) v320 t319) ∧ Aside0 (Kd.R k54 54 wc w.heap.size (fun _ => True) u9 x9_2) ∧ Aside0 (Below w.heap.size w wc))
         case first =>
          have H := HC20.out
          clear HC20
          by_cases c21 : x12_2 < (l2.length : Int)
          ·rw [if_pos c21] at H
           have c21b0 : decide (x12_2 < (l2.length : Int)) = true := decide_eq_true c21
           clear c21
           (first | rw [c21b0] | (simp only [i64_w, i32_w]; rw [c21b0]) | skip)
           by_cases c22 : 0 ≤ x12_2
           ·rw [if_pos c22] at H
            have c22b0 : decide (0 ≤ x12_2) = true := decide_eq_true c22
            clear c22
            have H' := q13 H
            clear H
            have p322 : 0 ≤ (x12_2 : Int) := q15 (by first | (with_reducible assumption) | assumption)
            have q322 : x12_2 < (l2.length : Int) := q15 (by first | (with_reducible assumption) | assumption)
            obtain ⟨ad322, e322, hx322_0⟩ := Kd.at_int HR2.out x12_2 p322 q322
            cases e322
            replace hx322_0 := (HB.out.cell (q14 w _ hx322_0)).trans hx322_0
            replace p322 := eq_true p322
            replace q322 := eq_true q322
            go_wp2
            go_meet
            case rel => exact ⟨_, (rd l2 x12_2), (by first | rfl | (simp; done) | (simp [*]; done)), H', ⟨by have := HJ3.out; have := HK2.out; have := HJ13.out; first | omega | exact q17 _⟩, ⟨by (with_reducible repeat (first | apply q22 | apply q23 | apply q24)); exact HO_7.out⟩, ⟨by (with_reducible repeat (first | apply q22 | apply q23 | apply q24)); exact HO_8.out⟩, ⟨by (with_reducible repeat (first | apply q25 | apply q26 | apply q27)); exact HO_9.out⟩, ⟨by repeat (first | (with_reducible first | exact HB.out | apply q3 | apply q4 | apply q5) | exact HB.out)⟩⟩
           ·rw [if_neg c22] at H
            exact absurd H (by simp)
          ·rw [if_neg c21] at H
           have c21b0 : decide (x12_2 < (l2.length : Int)) = false := decide_eq_false c21
           clear c21
           (first | rw [c21b0] | (simp only [i64_w, i32_w]; rw [c21b0]) | skip)
           have H' := q13 H
           clear H
           go_wp2
           go_meet
           case rel => exact ⟨_, (0), (by first | rfl | (simp; done) | (simp [*]; done)), H', ⟨by have := HJ3.out; have := HK2.out; have := HJ13.out; first | omega | exact q17 _⟩, ⟨by (with_reducible repeat (first | apply q22 | apply q23 | apply q24)); exact HO_7.out⟩, ⟨by (with_reducible repeat (first | apply q22 | apply q23 | apply q24)); exact HO_8.out⟩, ⟨by (with_reducible repeat (first | apply q25 | apply q26 | apply q27)); exact HO_9.out⟩, ⟨by repeat (first | (with_reducible first | exact HB.out | apply q3 | apply q4 | apply q5) | exact HB.out)⟩⟩
         case rest =>
          clear HC20
          try clear c1
          try clear c2
          try clear p2
          try clear p3
          try clear q3
          try clear hx3
          try clear c5
          try clear c5b0
          try clear c5b1
          try clear c6
          try clear c6b0
          try clear c6b1
          try clear c7
          try clear c15
          try clear c15b0
          try clear c19
          try clear c21
          try clear c21b0
          try clear c22
          try clear c22b0
          try clear hx322_0
          try clear p2
          try clear p322
          try clear q322
          obtain ⟨kq, x13_19, rfl, HA, HJ19, HO_7, HO_8, HO_9, HB⟩ := hcut
          cases kq with
          | zero => exact absurd HA.out (by simp [frisketlaw36_CompareBetter.j3])
          | succ kj19 =>
           have H := HA.out
           clear HA
           simp only [frisketlaw36_CompareBetter.j3] at H
           have HC23 := q13 H
           clear H
           go_upto_region 12 with (fail)
           go_cut [14] (fun v14 wc => ∃ (kq : Nat) (x14_22 : Bool), v14 = .bool x14_22 ∧ Aside0 (frisketlaw36_CompareBetter.j4 kq l2 t316 t319 x9_2 x10_2 x11_2 x12_2 x13_19 x14_22 = some r) ∧ Aside0 (kq ≤ kj19) ∧ Aside0 (Kd.N k24 24 wc w.heap.size (fun k_ => some k_ ≠ (v320 : Value).ownBlock ∧ some k_ ≠ (u9 : Value).ownBlock) v317 t316) ∧ Aside0 (Kd.N k24 24 wc w.heap.size (fun k_ => some k_ ≠ (v317 : Value).ownBlock ∧ some k_ ≠ (u9 : Value).ownBlock) v320 t319) ∧ Aside0 (Kd.R k54 54 wc w.heap.size (fun _ => True) u9 x9_2) ∧ Aside0 (Below w.heap.size w wc))
           case first =>
            have H := HC23.out
            clear HC23
            by_cases c24 : x10_2 < (t316.length : Int)
            ·rw [if_pos c24] at H
             have c24b0 : decide (x10_2 < (t316.length : Int)) = true := decide_eq_true c24
             clear c24
             (first | rw [c24b0] | (simp only [i64_w, i32_w]; rw [c24b0]) | skip)
             by_cases c25 : x11_2 < (t319.length : Int)
             ·rw [if_pos c25] at H
              have c25b0 : decide (x11_2 < (t319.length : Int)) = true := decide_eq_true c25
              clear c25
              by_cases c26 : 0 ≤ x10_2
              ·rw [if_pos c26] at H
               have c26b0 : decide (0 ≤ x10_2) = true := decide_eq_true c26
               clear c26
               by_cases c27 : 0 ≤ x11_2
               ·rw [if_pos c27] at H
                have c27b0 : decide (0 ≤ x11_2) = true := decide_eq_true c27
                clear c27
                have H' := q13 H
                clear H
                try go_wp2
                have n0_ := q13 (q24 HO_7.out)
                have n1_ := q13 (q24 HO_8.out)
                have n2_ := q13 (q27 HO_9.out)
                have n3_ := q13 (q5 HB.out)
                clear HO_7
                clear HO_8
                clear HO_9
                clear HB
                have HO_7 := n0_
                have HO_8 := n1_
                have HO_9 := n2_
                have HB := n3_
                clear n0_ n1_ n2_ n3_
                obtain ⟨Ao29, co29, eo29⟩ := Kd.N_slice HO_7.out
                (first | subst eo29 | (injection eo29 with f1_ f2_ f3_; have f4_ := f1_.symm; have f5_ := f3_.symm; clear f1_ f2_ f3_; subst f4_; subst f5_))
                obtain ⟨Ao30, co30, eo30⟩ := Kd.N_slice HO_8.out
                (first | subst eo30 | (injection eo30 with f1_ f2_ f3_; have f4_ := f1_.symm; have f5_ := f3_.symm; clear f1_ f2_ f3_; subst f4_; subst f5_))
                have p323 : 0 ≤ (x10_2 : Int) := q15 (by first | (with_reducible assumption) | assumption)
                have q323 : x10_2 < (t316.length : Int) := q15 (by first | (with_reducible assumption) | assumption)
                obtain ⟨ad323, A323_1, c323_1, e323, hx323_0, hx323_1, hl323_1, hi323_1⟩ := at_T24 (Kd.N_reads' HO_7.out).2.2 x10_2 p323 q323
                cases e323
                obtain ⟨ce323, hce323, hMe323, hcc323⟩ := Kd.N_get HO_7.out z24 x10_2 p323 (by first | exact q323 | exact q15 (by first | (with_reducible assumption) | assumption) | (have e_ := (Kd.N_reads' HO_7.out).1; omega))
                obtain ⟨ua323_1, uc323_1, rfl, ul323_1, ge323_1⟩ := k24_openF hMe323
                have hv323_1 := hcc323 1 _ rfl
                rw [add_field _ _ 1 (by omega)] at hv323_1
                replace hv323_1 := Option.some.inj (hv323_1.symm.trans hx323_1)
                injection hv323_1 with hva_ hvn_ hvc_
                rw [hva_] at ge323_1
                rw [hvc_] at ul323_1
                have HL323_1 := q13 (show Kd.V k69 69 _ w.heap.size _ _ ((rd_T24 t316 x10_2).f1) from Kd.V_mk ul323_1 ge323_1)
                clear hva_ hvn_ hvc_ ge323_1 ul323_1
                clear hcc323 hce323
                have HR323_1 := q13 hi323_1
                have HC323_1 := q13 hl323_1
                clear hi323_1 hl323_1
                replace p323 := eq_true p323
                replace q323 := eq_true q323
                have p324 : 0 ≤ (x11_2 : Int) := q15 (by first | (with_reducible assumption) | assumption)
                have q324 : x11_2 < (t319.length : Int) := q15 (by first | (with_reducible assumption) | assumption)
                obtain ⟨ad324, A324_1, c324_1, e324, hx324_0, hx324_1, hl324_1, hi324_1⟩ := at_T24 (Kd.N_reads' HO_8.out).2.2 x11_2 p324 q324
                cases e324
                obtain ⟨ce324, hce324, hMe324, hcc324⟩ := Kd.N_get HO_8.out z24 x11_2 p324 (by first | exact q324 | exact q15 (by first | (with_reducible assumption) | assumption) | (have e_ := (Kd.N_reads' HO_8.out).1; omega))
                obtain ⟨ua324_1, uc324_1, rfl, ul324_1, ge324_1⟩ := k24_openF hMe324
                have hv324_1 := hcc324 1 _ rfl
                rw [add_field _ _ 1 (by omega)] at hv324_1
                replace hv324_1 := Option.some.inj (hv324_1.symm.trans hx324_1)
                injection hv324_1 with hva_ hvn_ hvc_
                rw [hva_] at ge324_1
                rw [hvc_] at ul324_1
                have HL324_1 := q13 (show Kd.V k69 69 _ w.heap.size _ _ ((rd_T24 t319 x11_2).f1) from Kd.V_mk ul324_1 ge324_1)
                clear hva_ hvn_ hvc_ ge324_1 ul324_1
                clear hcc324 hce324
                have HR324_1 := q13 hi324_1
                have HC324_1 := q13 hl324_1
                clear hi324_1 hl324_1
                replace p324 := eq_true p324
                replace q324 := eq_true q324
                refine start_ (n := 24) (S := fun w' => w'.cell? (ad323.add ((x10_2).toNat * 2)) = some (.int .i64 ((rd_T24 t316 x10_2).f0)) ∧ w'.cell? ⟨(ad323.add ((x10_2).toNat * 2)).block, (ad323.add ((x10_2).toNat * 2)).off + 1, none⟩ = some (.slice A323_1 ((rd_T24 t316 x10_2).f1).length c323_1) ∧ w'.cell? (ad324.add ((x11_2).toNat * 2)) = some (.int .i64 ((rd_T24 t319 x11_2).f0)) ∧ w'.cell? ⟨(ad324.add ((x11_2).toNat * 2)).block, (ad324.add ((x11_2).toNat * 2)).off + 1, none⟩ = some (.slice A324_1 ((rd_T24 t319 x11_2).f1).length c324_1)) (ds := []) #[false, false, false, false, false, false, false, false, false, false, false, false, false, false, false, false, false, false, false, false, false, false, false, false] (by kernel_rfl) rfl rfl ⟨hx323_0, hx323_1, hx324_0, hx324_1⟩ (fun hHeld => ?_); refine with_tabW frisketlaw36_CompareBetter.tab12 frisketlaw36_CompareBetter.bits12 (fun HT_ HW_ => ?_)
                generalize wc.drew = w28 at HO_7 HO_8 HO_9 HB HL323_1 HL324_1 HR323_1 HR324_1 hx323_0 hx323_1 hx324_0 hx324_1 hHeld ⊢
                refine go_in [0, 1, 2, 3, 4, 5, 6, 7, 8, 9, 10, 11, 12, 13, 14, 16, 17, 18, 19, 15, 20, 21, 22, 23] ?_
                repeat (first | (refine pz (v := ?_) (a' := ?_) HT_ rfl rfl (by kernel_rfl) (fun _ _ _ h => h) (Or.inl ⟨by rfl, ?_⟩) ?_ ?_; rotate_left; (focus intro w'; go_simp; with_reducible rfl); rotate_left; (focus simp only [Act.put, List.setIfInBounds_toArray, List.set_cons_zero, List.set_cons_succ, i64_w, i32_w, u8_w, u8_tm, u8_c, u8_cm]; rfl)) | (refine tz (v := ?_) (a' := ?_) HT_ HW_ rfl rfl hHeld (by kernel_rfl) (fun _ _ _ h => h) (Or.inl ⟨by rfl, ?_⟩) ?_ ?_; rotate_left; (focus rintro w' ⟨s0, s1, s2, s3⟩; go_simp; with_reducible rfl); rotate_left; (focus simp only [Act.put, List.setIfInBounds_toArray, List.set_cons_zero, List.set_cons_succ, i64_w, i32_w, u8_w, u8_tm, u8_c, u8_cm]; rfl)))
                refine go_out ?_
                refine done_ (done_of HT_.out (by kernel_rfl)) ?_
                try go_wp2
                go_meet
                case rel => exact ⟨_, ((((rd_T24 t316 x10_2).f0) == ((rd_T24 t319 x11_2).f0))), (by first | rfl | (simp; done) | (simp [*]; done)), H', ⟨by have := HJ3.out; have := HK2.out; have := HJ13.out; have := HJ19.out; first | omega | exact q17 _⟩, ⟨by (with_reducible repeat (first | apply q22 | apply q23 | apply q24)); exact HO_7.out⟩, ⟨by (with_reducible repeat (first | apply q22 | apply q23 | apply q24)); exact HO_8.out⟩, ⟨by (with_reducible repeat (first | apply q25 | apply q26 | apply q27)); exact HO_9.out⟩, ⟨by repeat (first | (with_reducible first | exact HB.out | apply q3 | apply q4 | apply q5) | exact HB.out)⟩⟩
               ·rw [if_neg c27] at H
                exact absurd H (by simp)
              ·rw [if_neg c26] at H
               exact absurd H (by simp)
             ·rw [if_neg c25] at H
              have c25b0 : decide (x11_2 < (t319.length : Int)) = false := decide_eq_false c25
              clear c25
              have H' := q13 H
              clear H
              try go_wp2
              have n0_ := q13 (q24 HO_7.out)
              have n1_ := q13 (q24 HO_8.out)
              have n2_ := q13 (q27 HO_9.out)
              have n3_ := q13 (q5 HB.out)
              clear HO_7
              clear HO_8
              clear HO_9
              clear HB
              have HO_7 := n0_
              have HO_8 := n1_
              have HO_9 := n2_
              have HB := n3_
              clear n0_ n1_ n2_ n3_
              obtain ⟨Ao32, co32, eo32⟩ := Kd.N_slice HO_7.out
              (first | subst eo32 | (injection eo32 with f1_ f2_ f3_; have f4_ := f1_.symm; have f5_ := f3_.symm; clear f1_ f2_ f3_; subst f4_; subst f5_))
              obtain ⟨Ao33, co33, eo33⟩ := Kd.N_slice HO_8.out
              (first | subst eo33 | (injection eo33 with f1_ f2_ f3_; have f4_ := f1_.symm; have f5_ := f3_.symm; clear f1_ f2_ f3_; subst f4_; subst f5_))
              refine start_ (n := 24) (S := fun w' => True) (ds := []) #[false, false, false, false, false, false, false, false, false, false, false, false, false, false, false, false, false, false, false, false, false, false, false, false] (by kernel_rfl) rfl rfl trivial (fun hHeld => ?_); refine with_tabW frisketlaw36_CompareBetter.tab12 frisketlaw36_CompareBetter.bits12 (fun HT_ HW_ => ?_)
              generalize wc.drew = w31 at HO_7 HO_8 HO_9 HB hHeld ⊢
              refine go_in [0, 1, 2, 3, 4, 5, 6, 7, 8, 9, 10, 11, 12, 13, 14, 15, 16, 17, 18, 19, 20, 21, 22, 23] ?_
              repeat (first | (refine pz (v := ?_) (a' := ?_) HT_ rfl rfl (by kernel_rfl) (fun _ _ _ h => h) (Or.inl ⟨by rfl, ?_⟩) ?_ ?_; rotate_left; (focus intro w'; go_simp; with_reducible rfl); rotate_left; (focus simp only [Act.put, List.setIfInBounds_toArray, List.set_cons_zero, List.set_cons_succ, i64_w, i32_w, u8_w, u8_tm, u8_c, u8_cm]; rfl)) | (refine pz (v := undef) (a' := ?_) HT_ rfl rfl (by kernel_rfl) (fun _ _ _ h => h) (Or.inr ⟨by rfl, rfl⟩) ?_ ?_; rotate_left; (focus simp only [Act.put, List.setIfInBounds_toArray, List.set_cons_zero, List.set_cons_succ, i64_w, i32_w, u8_w, u8_tm, u8_c, u8_cm]; rfl)))
              refine go_out ?_
              refine done_ (done_of HT_.out (by kernel_rfl)) ?_
              try go_wp2
              go_meet
              case rel => exact ⟨_, (false), (by first | rfl | (simp; done) | (simp [*]; done)), H', ⟨by have := HJ3.out; have := HK2.out; have := HJ13.out; have := HJ19.out; first | omega | exact q17 _⟩, ⟨by (with_reducible repeat (first | apply q22 | apply q23 | apply q24)); exact HO_7.out⟩, ⟨by (with_reducible repeat (first | apply q22 | apply q23 | apply q24)); exact HO_8.out⟩, ⟨by (with_reducible repeat (first | apply q25 | apply q26 | apply q27)); exact HO_9.out⟩, ⟨by repeat (first | (with_reducible first | exact HB.out | apply q3 | apply q4 | apply q5) | exact HB.out)⟩⟩
            ·rw [if_neg c24] at H
             have c24b0 : decide (x10_2 < (t316.length : Int)) = false := decide_eq_false c24
             clear c24
             (first | rw [c24b0] | (simp only [i64_w, i32_w]; rw [c24b0]) | skip)
             have H' := q13 H
             clear H
             try go_wp2
             have n0_ := q13 (q24 HO_7.out)
             have n1_ := q13 (q24 HO_8.out)
             have n2_ := q13 (q27 HO_9.out)
             have n3_ := q13 (q5 HB.out)
             clear HO_7
             clear HO_8
             clear HO_9
             clear HB
             have HO_7 := n0_
             have HO_8 := n1_
             have HO_9 := n2_
             have HB := n3_
             clear n0_ n1_ n2_ n3_
             obtain ⟨Ao35, co35, eo35⟩ := Kd.N_slice HO_7.out
             (first | subst eo35 | (injection eo35 with f1_ f2_ f3_; have f4_ := f1_.symm; have f5_ := f3_.symm; clear f1_ f2_ f3_; subst f4_; subst f5_))
             refine start_ (n := 24) (S := fun w' => True) (ds := []) #[false, false, false, false, false, false, false, false, false, false, false, false, false, false, false, false, false, false, false, false, false, false, false, false] (by kernel_rfl) rfl rfl trivial (fun hHeld => ?_); refine with_tabW frisketlaw36_CompareBetter.tab12 frisketlaw36_CompareBetter.bits12 (fun HT_ HW_ => ?_)
             generalize wc.drew = w34 at HO_7 HO_8 HO_9 HB hHeld ⊢
             refine go_in [0, 1, 2, 3, 4, 5, 6, 7, 8, 9, 10, 11, 12, 13, 14, 15, 16, 17, 18, 19, 20, 21, 22, 23] ?_
             repeat (first | (refine pz (v := ?_) (a' := ?_) HT_ rfl rfl (by kernel_rfl) (fun _ _ _ h => h) (Or.inl ⟨by rfl, ?_⟩) ?_ ?_; rotate_left; (focus intro w'; go_simp; with_reducible rfl); rotate_left; (focus simp only [Act.put, List.setIfInBounds_toArray, List.set_cons_zero, List.set_cons_succ, i64_w, i32_w, u8_w, u8_tm, u8_c, u8_cm]; rfl)) | (refine pz (v := undef) (a' := ?_) HT_ rfl rfl (by kernel_rfl) (fun _ _ _ h => h) (Or.inr ⟨by rfl, rfl⟩) ?_ ?_; rotate_left; (focus simp only [Act.put, List.setIfInBounds_toArray, List.set_cons_zero, List.set_cons_succ, i64_w, i32_w, u8_w, u8_tm, u8_c, u8_cm]; rfl)))
             refine go_out ?_
             refine done_ (done_of HT_.out (by kernel_rfl)) ?_
             try go_wp2
             go_meet
             case rel => exact ⟨_, (false), (by first | rfl | (simp; done) | (simp [*]; done)), H', ⟨by have := HJ3.out; have := HK2.out; have := HJ13.out; have := HJ19.out; first | omega | exact q17 _⟩, ⟨by (with_reducible repeat (first | apply q22 | apply q23 | apply q24)); exact HO_7.out⟩, ⟨by (with_reducible repeat (first | apply q22 | apply q23 | apply q24)); exact HO_8.out⟩, ⟨by (with_reducible repeat (first | apply q25 | apply q26 | apply q27)); exact HO_9.out⟩, ⟨by repeat (first | (with_reducible first | exact HB.out | apply q3 | apply q4 | apply q5) | exact HB.out)⟩⟩
           case rest =>
            clear HC23
            try clear c2
            try clear p2
            try clear c3
            try clear p3
            try clear q3
            try clear hx3
            try clear c24
            try clear c24b0
            try clear c25
            try clear c25b0
            try clear c26
            try clear c27
            try clear c32
            try clear p32
            try clear q32
            try clear hx32
            try clear hx323_0
            try clear hx323_1
            try clear hx324_0
            try clear hx324_1
            try clear p323
            try clear p324
            try clear q323
            try clear q324
            obtain ⟨kq, x14_22, rfl, HA, HJ22, HO_7, HO_8, HO_9, HB⟩ := hcut
            cases kq with
            | zero => exact absurd HA.out (by simp [frisketlaw36_CompareBetter.j4])
            | succ kj22 =>
             have H := HA.out
             clear HA
             simp only [frisketlaw36_CompareBetter.j4] at H
             have HC36 := q13 H
             clear H
             go_upto_region 15 with (fail)
             go_cut [88] (fun v88 wc => ∃ (kq : Nat) (x88_35 : Bool), v88 = .bool x88_35 ∧ Aside0 (frisketlaw36_CompareBetter.j5 kq l2 t316 t319 x9_2 x10_2 x11_2 x12_2 x13_19 x88_35 = some r) ∧ Aside0 (kq ≤ kj22) ∧ Aside0 (Kd.N k24 24 wc w.heap.size (fun k_ => some k_ ≠ (v320 : Value).ownBlock ∧ some k_ ≠ (u9 : Value).ownBlock) v317 t316) ∧ Aside0 (Kd.N k24 24 wc w.heap.size (fun k_ => some k_ ≠ (v317 : Value).ownBlock ∧ some k_ ≠ (u9 : Value).ownBlock) v320 t319) ∧ Aside0 (Kd.R k54 54 wc w.heap.size (fun _ => True) u9 x9_2) ∧ Aside0 (Below w.heap.size w wc))
             case first =>
              have H := HC36.out
              clear HC36
              by_cases c37 : x14_22 = true
              ·subst c37
               have H1 : (frisketlaw36_CompareBetter.j5 kj22 l2 t316 t319 x9_2 x10_2 x11_2 x12_2 x13_19 ((Int.tmod x13_19 3) == 0)) = some r := by rw [if_pos rfl] at H; exact H
               clear H
               have H := H1
               clear H1
               have H' := q13 H
               clear H
               go_wp2
               go_meet
               case rel => exact ⟨_, (((Int.tmod x13_19 3) == 0)), (by first | rfl | (simp; done) | (simp [*]; done)), H', ⟨by have := HJ3.out; have := HK2.out; have := HJ13.out; have := HJ19.out; have := HJ22.out; first | omega | exact q17 _⟩, ⟨by (with_reducible repeat (first | apply q22 | apply q23 | apply q24)); exact HO_7.out⟩, ⟨by (with_reducible repeat (first | apply q22 | apply q23 | apply q24)); exact HO_8.out⟩, ⟨by (with_reducible repeat (first | apply q25 | apply q26 | apply q27)); exact HO_9.out⟩, ⟨by repeat (first | (with_reducible first | exact HB.out | apply q3 | apply q4 | apply q5) | exact HB.out)⟩⟩
              ·replace c37 := Bool.eq_false_iff.mpr c37
               subst c37
               have H1 : (frisketlaw36_CompareBetter.j5 kj22 l2 t316 t319 x9_2 x10_2 x11_2 x12_2 x13_19 false) = some r := by rw [if_neg (show ¬ (false = true) by decide)] at H; exact H
               clear H
               have H := H1
               clear H1
               have H' := q13 H
               clear H
               go_wp2
               go_meet
               case rel => exact ⟨_, (false), (by first | rfl | (simp; done) | (simp [*]; done)), H', ⟨by have := HJ3.out; have := HK2.out; have := HJ13.out; have := HJ19.out; have := HJ22.out; first | omega | exact q17 _⟩, ⟨by (with_reducible repeat (first | apply q22 | apply q23 | apply q24)); exact HO_7.out⟩, ⟨by (with_reducible repeat (first | apply q22 | apply q23 | apply q24)); exact HO_8.out⟩, ⟨by (with_reducible repeat (first | apply q25 | apply q26 | apply q27)); exact HO_9.out⟩, ⟨by repeat (first | (with_reducible first | exact HB.out | apply q3 | apply q4 | apply q5) | exact HB.out)⟩⟩
             case rest =>
              clear HC36
              try clear c2
              try clear p2
              try clear c3
              try clear p3
              try clear q3
              try clear hx3
              try clear c24
              try clear c24b0
              try clear c25
              try clear c25b0
              try clear c26
              try clear c27
              try clear c32
              try clear p32
              try clear q32
              try clear hx32
              try clear c37
              try clear hx323_0
              try clear hx323_1
              try clear hx324_0
              try clear hx324_1
              try clear p2
              try clear p3
              try clear p32
              try clear p323
              try clear p324
              try clear q3
              try clear q32
              try clear q323
              try clear q324
              obtain ⟨kq, x88_35, rfl, HA, HJ35, HO_7, HO_8, HO_9, HB⟩ := hcut
              cases kq with
              | zero => exact absurd HA.out (by simp [frisketlaw36_CompareBetter.j5])
              | succ kj35 =>
               have H := HA.out
               clear HA
               simp only [frisketlaw36_CompareBetter.j5] at H
               by_cases c38 : x88_35 = true
               ·subst c38
                have H1 : (if 0 ≤ x10_2 then (if x10_2 < (t316.length : Int) then (if 0 ≤ x11_2 then (if x11_2 < (t319.length : Int) then ((compare_Same.f kj35 ((rd_T24 t316 x10_2).f0) ((rd_T24 t316 x10_2).f1) ((rd_T24 t319 x11_2).f0) ((rd_T24 t319 x11_2).f1)).bind fun t328 => (if t328 = true then (if x9_2.length < 5864062014805 then (frisketlaw36_CompareBetter.l0 kj35 l2 t316 t319 (x9_2 ++ [(⟨0, x10_2, x11_2⟩ : S54)]) (wrap64 (x10_2 + 1)) (wrap64 (x11_2 + 1)) (wrap64 (x12_2 + 1))) else (none)) else (if x9_2.length < 5864062014805 then (frisketlaw36_CompareBetter.l0 kj35 l2 t316 t319 (x9_2 ++ [(⟨3, x10_2, x11_2⟩ : S54)]) (wrap64 (x10_2 + 1)) (wrap64 (x11_2 + 1)) (wrap64 (x12_2 + 1))) else (none)))) else (none)) else (none)) else (none)) else (none)) = some r := by rw [if_pos rfl] at H; exact H
                clear H
                have H := H1
                clear H1
                by_cases c39 : 0 ≤ x10_2
                ·rw [if_pos c39] at H
                 have c39b0 : decide (0 ≤ x10_2) = true := decide_eq_true c39
                 clear c39
                 by_cases c40 : x10_2 < (t316.length : Int)
                 ·rw [if_pos c40] at H
                  have c40b0 : decide (x10_2 < (t316.length : Int)) = true := decide_eq_true c40
                  clear c40
                  by_cases c41 : 0 ≤ x11_2
                  ·rw [if_pos c41] at H
                   have c41b0 : decide (0 ≤ x11_2) = true := decide_eq_true c41
                   clear c41
                   by_cases c42 : x11_2 < (t319.length : Int)
                   ·rw [if_pos c42] at H
                    have c42b0 : decide (x11_2 < (t319.length : Int)) = true := decide_eq_true c42
                    clear c42
                    replace H := Option.bind_eq_some_iff.mp H
                    obtain ⟨t328, A430, H⟩ := H
                    replace H : (if t328 = true then (if x9_2.length < 5864062014805 then (frisketlaw36_CompareBetter.l0 kj35 l2 t316 t319 (x9_2 ++ [(⟨0, x10_2, x11_2⟩ : S54)]) (wrap64 (x10_2 + 1)) (wrap64 (x11_2 + 1)) (wrap64 (x12_2 + 1))) else (none)) else (if x9_2.length < 5864062014805 then (frisketlaw36_CompareBetter.l0 kj35 l2 t316 t319 (x9_2 ++ [(⟨3, x10_2, x11_2⟩ : S54)]) (wrap64 (x10_2 + 1)) (wrap64 (x11_2 + 1)) (wrap64 (x12_2 + 1))) else (none))) = some r := H
                    have A43 := q13 A430
                    clear A430
                    by_cases c44 : t328 = true
                    ·subst c44
                     have H1 : (if x9_2.length < 5864062014805 then (frisketlaw36_CompareBetter.l0 kj35 l2 t316 t319 (x9_2 ++ [(⟨0, x10_2, x11_2⟩ : S54)]) (wrap64 (x10_2 + 1)) (wrap64 (x11_2 + 1)) (wrap64 (x12_2 + 1))) else (none)) = some r := by rw [if_pos rfl] at H; exact H
                     clear H
                     have H := H1
                     clear H1
                     by_cases c45 : x9_2.length < 5864062014805
                     ·rw [if_pos c45] at H
                      have LMc45 := q13 c45
                      clear c45
                      obtain ⟨y329, hy329⟩ : ∃ y_ : List (S54), y_ = (x9_2 ++ [(⟨0, x10_2, x11_2⟩ : S54)]) := ⟨_, rfl⟩
                      replace H : (frisketlaw36_CompareBetter.l0 kj35 l2 t316 t319 y329 (wrap64 (x10_2 + 1)) (wrap64 (x11_2 + 1)) (wrap64 (x12_2 + 1))) = some r := by first | (rw [hy329]; with_reducible exact H) | (have H2_ := (Option.bind_some _ _).symm.trans H; rw [hy329]; with_reducible exact H2_) | (have H2_ := (Option.bind_some _ _).symm.trans H; with_reducible exact H2_) | with_reducible exact H | (rw [hy329]; exact H) | exact H
                      have Ny329 := q13 hy329
                      clear hy329
                      have H' := q13 H
                      clear H
                      try go_wp2_with (first | ((with_reducible refine gate_dst (N := 15) rfl ?_); (try (refine gate_guard (by rfl) ?_; dsimp only)); refine box_event ?hg (N := 15) ?hd (cs := #[.int .i64 0, .int .i64 0, .int .i64 0]) (t := 54) ?hr ?_; (case hd => rfl); (case hg => rfl); (case hr => first | (go_simp; done) | (go_simp; rfl)); intro gb325 hg w46 hbox hb; have n0_ := q13 (Kd.N_below (Kd.N_elderB (by (with_reducible repeat (first | apply q22 | apply q23 | apply q24)); exact HO_7.out) gb325 (Nat.le_of_eq hg.symm)) hb); have n1_ := q13 (Kd.N_below (Kd.N_elderB (by (with_reducible repeat (first | apply q22 | apply q23 | apply q24)); exact HO_8.out) gb325 (Nat.le_of_eq hg.symm)) hb); have n2_ := q13 (Kd.R_below (Kd.R_elderB (by (with_reducible repeat (first | apply q25 | apply q26 | apply q27)); exact HO_9.out) gb325 (Nat.le_of_eq hg.symm)) hb); have n3_ := q13 (q12 (by repeat (first | (with_reducible first | exact HB.out | apply q3 | apply q4 | apply q5) | exact HB.out)) hb); have n4_ := q13 (hbox); have n5_ := q13 ((by rw [hg]; exact (q7 (by repeat (first | (with_reducible first | exact HB.out | apply q3 | apply q4 | apply q5) | exact HB.out))) : w.heap.size ≤ gb325)); have n6_ := q13 ((by rw [hg]; exact (q7 (by repeat (first | (with_reducible first | exact HB.out | apply q3 | apply q4 | apply q5) | exact HB.out))) : w.heap.size ≤ gb325)); clear HO_7; clear HO_8; clear HO_9; clear HB; have HO_7 := n0_; have HO_8 := n1_; have HO_9 := n2_; have HB := n3_; have BK325 := n4_; have GW325 := n5_; have GE325 := n6_; clear n0_ n1_ n2_ n3_ n4_ n5_ n6_; clear hb hbox hg; have hcz47_0 : w46.cell? ⟨gb325, 0, none⟩ = some (.int .i64 0) := (q9 BK325.out 0).trans rfl; have hcz47_1 : w46.cell? ⟨gb325, 1, none⟩ = some (.int .i64 0) := (q9 BK325.out 1).trans rfl; have hcz47_2 : w46.cell? ⟨gb325, 2, none⟩ = some (.int .i64 0) := (q9 BK325.out 2).trans rfl; have hfz47_0 := q11 BK325.out 0; have hfz47_1 := q11 BK325.out 1; have hfz47_2 := q11 BK325.out 2))
                      have n0_ : Aside0 (Kd.N k24 24 (((w46.setCell ⟨gb325, 0, none⟩ (.int .i64 3)).setCell ⟨gb325, 1, none⟩ (.int .i64 x10_2)).setCell ⟨gb325, 2, none⟩ (.int .i64 x11_2)) w.heap.size (fun k_ => some k_ ≠ (v320 : Value).ownBlock ∧ some k_ ≠ (u9 : Value).ownBlock ∧ k_ ≠ gb325) v317 t316) := ⟨by (with_reducible repeat (first | apply q22 | apply q23 | apply q24)); exact Kd.N_mono (Kd.N_far (p := ⟨gb325, 2, none⟩) (Kd.N_far (p := ⟨gb325, 1, none⟩) (Kd.N_far (p := ⟨gb325, 0, none⟩) (Kd.N_mono HO_7.out (fun k_ hk => (⟨hk, hk.2⟩ : _ ∧ k_ ≠ gb325))) (fun _ hk => hk.2) (.int .i64 3)) (fun _ hk => hk.2) (.int .i64 x10_2)) (fun _ hk => hk.2) (.int .i64 x11_2)) (fun _ hk => ⟨hk.1.1.1, ⟨hk.1.1.2, hk.1.2⟩⟩)⟩
                      have n1_ : Aside0 (Kd.N k24 24 (((w46.setCell ⟨gb325, 0, none⟩ (.int .i64 3)).setCell ⟨gb325, 1, none⟩ (.int .i64 x10_2)).setCell ⟨gb325, 2, none⟩ (.int .i64 x11_2)) w.heap.size (fun k_ => some k_ ≠ (v317 : Value).ownBlock ∧ some k_ ≠ (u9 : Value).ownBlock ∧ k_ ≠ gb325) v320 t319) := ⟨by (with_reducible repeat (first | apply q22 | apply q23 | apply q24)); exact Kd.N_mono (Kd.N_far (p := ⟨gb325, 2, none⟩) (Kd.N_far (p := ⟨gb325, 1, none⟩) (Kd.N_far (p := ⟨gb325, 0, none⟩) (Kd.N_mono HO_8.out (fun k_ hk => (⟨hk, hk.2⟩ : _ ∧ k_ ≠ gb325))) (fun _ hk => hk.2) (.int .i64 3)) (fun _ hk => hk.2) (.int .i64 x10_2)) (fun _ hk => hk.2) (.int .i64 x11_2)) (fun _ hk => ⟨hk.1.1.1, ⟨hk.1.1.2, hk.1.2⟩⟩)⟩
                      have n2_ : Aside0 (Kd.R k54 54 (((w46.setCell ⟨gb325, 0, none⟩ (.int .i64 3)).setCell ⟨gb325, 1, none⟩ (.int .i64 x10_2)).setCell ⟨gb325, 2, none⟩ (.int .i64 x11_2)) w.heap.size (fun k_ => k_ ≠ gb325) u9 x9_2) := ⟨by (with_reducible repeat (first | apply q25 | apply q26 | apply q27)); exact Kd.R_mono (Kd.R_far (p := ⟨gb325, 2, none⟩) (Kd.R_far (p := ⟨gb325, 1, none⟩) (Kd.R_far (p := ⟨gb325, 0, none⟩) (Kd.R_mono HO_9.out (fun k_ hk => (⟨hk, hk.2⟩ : _ ∧ k_ ≠ gb325))) (fun _ hk => hk.2) (.int .i64 3)) (fun _ hk => hk.2) (.int .i64 x10_2)) (fun _ hk => hk.2) (.int .i64 x11_2)) (fun _ hk => hk.1.2)⟩
                      have n3_ : Aside0 ((((w46.setCell ⟨gb325, 0, none⟩ (.int .i64 3)).setCell ⟨gb325, 1, none⟩ (.int .i64 x10_2)).setCell ⟨gb325, 2, none⟩ (.int .i64 x11_2)).heap[gb325]? = some (.cells #[.int .i64 3, .int .i64 x10_2, .int .i64 x11_2] 54 (0, 0))) := ⟨by (with_reducible repeat (first | refine q0 ?_ _ | refine q1 ?_ | refine q2 ?_ _)); refine blk_put (cs := #[.int .i64 3, .int .i64 x10_2, .int .i64 0]) ?_ 2 _ rfl; (with_reducible repeat (first | refine q0 ?_ _ | refine q1 ?_ | refine q2 ?_ _)); refine blk_put (cs := #[.int .i64 3, .int .i64 0, .int .i64 0]) ?_ 1 _ rfl; (with_reducible repeat (first | refine q0 ?_ _ | refine q1 ?_ | refine q2 ?_ _)); refine blk_put (cs := #[.int .i64 0, .int .i64 0, .int .i64 0]) ?_ 0 _ rfl; (with_reducible repeat (first | refine q0 ?_ _ | refine q1 ?_ | refine q2 ?_ _)); exact BK325.out⟩
                      have n4_ : Aside0 (Below w.heap.size w (((w46.setCell ⟨gb325, 0, none⟩ (.int .i64 3)).setCell ⟨gb325, 1, none⟩ (.int .i64 x10_2)).setCell ⟨gb325, 2, none⟩ (.int .i64 x11_2))) := ⟨by repeat (first | (with_reducible first | exact HB.out | apply q3 | apply q4 | apply q5 | refine q6 ?_ GE325.out) | exact HB.out)⟩
                      (try clear HO_7)
                      (try clear HO_8)
                      (try clear HO_9)
                      (try clear BK325)
                      (try clear HB)
                      generalize (((w46.setCell ⟨gb325, 0, none⟩ (.int .i64 3)).setCell ⟨gb325, 1, none⟩ (.int .i64 x10_2)).setCell ⟨gb325, 2, none⟩ (.int .i64 x11_2)) = w48 at n0_ n1_ n2_ n3_ n4_ ⊢
                      have HO_7 := n0_
                      have HO_8 := n1_
                      have HO_9 := n2_
                      have BK325 := n3_
                      have HB := n4_
                      clear n0_ n1_ n2_ n3_ n4_
                      have n0_ := q13 (q24 HO_7.out)
                      have n1_ := q13 (q24 HO_8.out)
                      have n2_ := q13 (q27 HO_9.out)
                      have n3_ := q13 (q1 BK325.out)
                      have n4_ := q13 (q5 HB.out)
                      clear HO_7
                      clear HO_8
                      clear HO_9
                      clear BK325
                      clear HB
                      have HO_7 := n0_
                      have HO_8 := n1_
                      have HO_9 := n2_
                      have BK325 := n3_
                      have HB := n4_
                      clear n0_ n1_ n2_ n3_ n4_
                      obtain ⟨Ao50, co50, eo50⟩ := Kd.N_slice HO_7.out
                      (first | subst eo50 | (injection eo50 with f1_ f2_ f3_; have f4_ := f1_.symm; have f5_ := f3_.symm; clear f1_ f2_ f3_; subst f4_; subst f5_))
                      have p326 : 0 ≤ (x10_2 : Int) := q15 (by first | (with_reducible assumption) | assumption)
                      have q326 : x10_2 < (t316.length : Int) := q15 (by first | (with_reducible assumption) | assumption)
                      obtain ⟨ad326, A326_1, c326_1, e326, hx326_0, hx326_1, hl326_1, hi326_1⟩ := at_T24 (Kd.N_reads' HO_7.out).2.2 x10_2 p326 q326
                      cases e326
                      obtain ⟨ce326, hce326, hMe326, hcc326⟩ := Kd.N_get HO_7.out z24 x10_2 p326 (by first | exact q326 | exact q15 (by first | (with_reducible assumption) | assumption) | (have e_ := (Kd.N_reads' HO_7.out).1; omega))
                      obtain ⟨ua326_1, uc326_1, rfl, ul326_1, ge326_1⟩ := k24_openF hMe326
                      have hv326_1 := hcc326 1 _ rfl
                      rw [add_field _ _ 1 (by omega)] at hv326_1
                      replace hv326_1 := Option.some.inj (hv326_1.symm.trans hx326_1)
                      injection hv326_1 with hva_ hvn_ hvc_
                      rw [hva_] at ge326_1
                      rw [hvc_] at ul326_1
                      have HL326_1 := q13 (show Kd.V k69 69 _ w.heap.size _ _ ((rd_T24 t316 x10_2).f1) from Kd.V_mk ul326_1 ge326_1)
                      clear hva_ hvn_ hvc_ ge326_1 ul326_1
                      clear hcc326 hce326
                      have HR326_1 := q13 hi326_1
                      have HC326_1 := q13 hl326_1
                      clear hi326_1 hl326_1
                      replace p326 := eq_true p326
                      replace q326 := eq_true q326
                      obtain ⟨Ao51, co51, eo51⟩ := Kd.N_slice HO_8.out
                      (first | subst eo51 | (injection eo51 with f1_ f2_ f3_; have f4_ := f1_.symm; have f5_ := f3_.symm; clear f1_ f2_ f3_; subst f4_; subst f5_))
                      have p327 : 0 ≤ (x11_2 : Int) := q15 (by first | (with_reducible assumption) | assumption)
                      have q327 : x11_2 < (t319.length : Int) := q15 (by first | (with_reducible assumption) | assumption)
                      obtain ⟨ad327, A327_1, c327_1, e327, hx327_0, hx327_1, hl327_1, hi327_1⟩ := at_T24 (Kd.N_reads' HO_8.out).2.2 x11_2 p327 q327
                      cases e327
                      obtain ⟨ce327, hce327, hMe327, hcc327⟩ := Kd.N_get HO_8.out z24 x11_2 p327 (by first | exact q327 | exact q15 (by first | (with_reducible assumption) | assumption) | (have e_ := (Kd.N_reads' HO_8.out).1; omega))
                      obtain ⟨ua327_1, uc327_1, rfl, ul327_1, ge327_1⟩ := k24_openF hMe327
                      have hv327_1 := hcc327 1 _ rfl
                      rw [add_field _ _ 1 (by omega)] at hv327_1
                      replace hv327_1 := Option.some.inj (hv327_1.symm.trans hx327_1)
                      injection hv327_1 with hva_ hvn_ hvc_
                      rw [hva_] at ge327_1
                      rw [hvc_] at ul327_1
                      have HL327_1 := q13 (show Kd.V k69 69 _ w.heap.size _ _ ((rd_T24 t319 x11_2).f1) from Kd.V_mk ul327_1 ge327_1)
                      clear hva_ hvn_ hvc_ ge327_1 ul327_1
                      clear hcc327 hce327
                      have HR327_1 := q13 hi327_1
                      have HC327_1 := q13 hl327_1
                      clear hi327_1 hl327_1
                      replace p327 := eq_true p327
                      replace q327 := eq_true q327
                      refine start_ (n := 9) (S := fun w' => w'.cell? (ad326.add ((x10_2).toNat * 2)) = some (.int .i64 ((rd_T24 t316 x10_2).f0)) ∧ w'.cell? ⟨(ad326.add ((x10_2).toNat * 2)).block, (ad326.add ((x10_2).toNat * 2)).off + 1, none⟩ = some (.slice A326_1 ((rd_T24 t316 x10_2).f1).length c326_1) ∧ w'.cell? (ad327.add ((x11_2).toNat * 2)) = some (.int .i64 ((rd_T24 t319 x11_2).f0)) ∧ w'.cell? ⟨(ad327.add ((x11_2).toNat * 2)).block, (ad327.add ((x11_2).toNat * 2)).off + 1, none⟩ = some (.slice A327_1 ((rd_T24 t319 x11_2).f1).length c327_1)) (ds := []) #[false, false, false, false, false, false, false, false, false] (by kernel_rfl) rfl rfl ⟨hx326_0, hx326_1, hx327_0, hx327_1⟩ (fun hHeld => ?_); refine with_tabW frisketlaw36_CompareBetter.tab17 frisketlaw36_CompareBetter.bits17 (fun HT_ HW_ => ?_)
                      generalize w48.drew = w49 at HO_7 HO_8 HO_9 BK325 HB HL326_1 HL327_1 HR326_1 HR327_1 hx326_0 hx326_1 hx327_0 hx327_1 hHeld ⊢
                      refine go_in [0, 1, 2, 4, 5, 6, 3, 7] ?_
                      repeat (first | (refine pz (v := ?_) (a' := ?_) HT_ rfl rfl (by kernel_rfl) (fun _ _ _ h => h) (Or.inl ⟨by rfl, ?_⟩) ?_ ?_; rotate_left; (focus intro w'; go_simp; with_reducible rfl); rotate_left; (focus simp only [Act.put, List.setIfInBounds_toArray, List.set_cons_zero, List.set_cons_succ, i64_w, i32_w, u8_w, u8_tm, u8_c, u8_cm]; rfl)) | (refine tz (v := ?_) (a' := ?_) HT_ HW_ rfl rfl hHeld (by kernel_rfl) (fun _ _ _ h => h) (Or.inl ⟨by rfl, ?_⟩) ?_ ?_; rotate_left; (focus rintro w' ⟨s0, s1, s2, s3⟩; go_simp; with_reducible rfl); rotate_left; (focus simp only [Act.put, List.setIfInBounds_toArray, List.set_cons_zero, List.set_cons_succ, i64_w, i32_w, u8_w, u8_tm, u8_c, u8_cm]; rfl)))
                      refine go_out ?_
                      refine one_ (i := 8) (N := some 106) #[true, true, true, true, true, true, true, true, true] rfl rfl (one_of HT_.out (by kernel_rfl)) (by decide) (fun K hK => ?_)
                      refine goes_ Try.func13 (by kernel_rfl) rfl #[.agg #[.int .i64 ((rd_T24 t316 x10_2).f0), .slice A326_1 ((rd_T24 t316 x10_2).f1).length c326_1], .agg #[.int .i64 ((rd_T24 t319 x11_2).f0), .slice A327_1 ((rd_T24 t319 x11_2).f1).length c327_1]] (by rfl) rfl rfl (by (try simp only [List.map_toArray, List.map_cons, List.map_nil]); first | done | rfl | (simp only [List.length_drop, List.length_take]; rfl)) ?_
                      with_reducible refine (compare_Same.calls kj35 ((rd_T24 t316 x10_2).f0) _ _ ((rd_T24 t316 x10_2).f1) ((rd_T24 t319 x11_2).f0) _ _ ((rd_T24 t319 x11_2).f1) true _ ?side1 ?side2 ?side3 ?side4 A43.out).mono ?_
                      (case side1 => repeat (first | exact (by repeat (first | (with_reducible exact HR326_1.out) | (with_reducible refine q18 ?_ _) | (with_reducible refine q19 ?_ _) | (with_reducible refine q20 ?_) | exact HR326_1.out)) | (with_reducible refine q18 ?_ _) | (with_reducible refine q19 ?_ _) | (with_reducible refine q20 ?_)))
                      (case side2 => exact HC326_1.out)
                      (case side3 => repeat (first | exact (by repeat (first | (with_reducible exact HR327_1.out) | (with_reducible refine q18 ?_ _) | (with_reducible refine q19 ?_ _) | (with_reducible refine q20 ?_) | exact HR327_1.out)) | (with_reducible refine q18 ?_ _) | (with_reducible refine q19 ?_ _) | (with_reducible refine q20 ?_)))
                      (case side4 => exact HC327_1.out)
                      rintro e w52 ⟨rfl, hb⟩
                      have HS0_ := (hb.cell (q14 _ _ (hHeld.1))).trans (hHeld.1)
                      have HS1_ := (hb.cell (q14 _ _ (hHeld.2.1))).trans (hHeld.2.1)
                      have HS2_ := (hb.cell (q14 _ _ (hHeld.2.2.1))).trans (hHeld.2.2.1)
                      have HS3_ := (hb.cell (q14 _ _ (hHeld.2.2.2))).trans (hHeld.2.2.2)
                      refine ⟨_, rfl, ?_⟩
                      have n0_ := q13 (Kd.N_below (by (with_reducible repeat (first | apply q22 | apply q23 | apply q24)); exact HO_7.out) hb)
                      have n1_ := q13 (Kd.N_below (by (with_reducible repeat (first | apply q22 | apply q23 | apply q24)); exact HO_8.out) hb)
                      have n2_ := q13 (Kd.R_below (by (with_reducible repeat (first | apply q25 | apply q26 | apply q27)); exact HO_9.out) hb)
                      have n3_ := q13 (Kd.V_below (by (with_reducible repeat (first | apply q28 | apply q29 | apply q30)); exact HL326_1.out) hb)
                      have n4_ := q13 (Kd.V_below (by (with_reducible repeat (first | apply q28 | apply q29 | apply q30)); exact HL327_1.out) hb)
                      have n5_ := q13 (q8 (g := gb325) (o := .cells #[.int .i64 3, .int .i64 x10_2, .int .i64 x11_2] 54 (0, 0)) (by (with_reducible repeat (first | refine q0 ?_ _ | refine q1 ?_ | refine q2 ?_ _)); exact BK325.out) hb)
                      have n6_ := q13 (Kd.C_below (by repeat (first | (with_reducible exact HR326_1.out) | (with_reducible refine q18 ?_ _) | (with_reducible refine q19 ?_ _) | (with_reducible refine q20 ?_) | exact HR326_1.out)) hb)
                      have n7_ := q13 (Kd.C_below (by repeat (first | (with_reducible exact HR327_1.out) | (with_reducible refine q18 ?_ _) | (with_reducible refine q19 ?_ _) | (with_reducible refine q20 ?_) | exact HR327_1.out)) hb)
                      have n8_ := q13 (q12 (by repeat (first | (with_reducible first | exact HB.out | apply q3 | apply q4 | apply q5 | refine q6 ?_ GE325.out) | exact HB.out)) hb)
                      clear HO_7
                      clear HO_8
                      clear HO_9
                      clear HL326_1
                      clear HL327_1
                      clear BK325
                      clear HR326_1
                      clear HR327_1
                      clear HB
                      have HO_7 := n0_
                      have HO_8 := n1_
                      have HO_9 := n2_
                      have HL326_1 := n3_
                      have HL327_1 := n4_
                      have BK325 := n5_
                      have HR326_1 := n6_
                      have HR327_1 := n7_
                      have HB := n8_
                      clear n0_ n1_ n2_ n3_ n4_ n5_ n6_ n7_ n8_
                      (try clear hb)
                      (try clear hb2)
                      (try clear hk)
                      (try clear hi)
                      refine hK.out _ _ ⟨HS0_, HS1_, HS2_, HS3_⟩ (fun hHeld => ?_)
                      clear hK K
                      refine norm_ (a' := ?_) ?_ ?_
                      rotate_left
                      ·show Act.put _ (some 106) _ = _
                       simp only [Act.put, List.setIfInBounds_toArray, List.set_cons_zero, List.set_cons_succ, i64_w, i32_w]
                       rfl
                      refine done_ (done_of HT_.out (by kernel_rfl)) ?_
                      have hcz53_0 : w52.cell? ⟨gb325, 0, none⟩ = some (.int .i64 3) := (q9 BK325.out 0).trans rfl
                      have hcz53_1 : w52.cell? ⟨gb325, 1, none⟩ = some (.int .i64 x10_2) := (q9 BK325.out 1).trans rfl
                      have hcz53_2 : w52.cell? ⟨gb325, 2, none⟩ = some (.int .i64 x11_2) := (q9 BK325.out 2).trans rfl
                      have hfz53_0 := q11 BK325.out 0
                      have hfz53_1 := q11 BK325.out 1
                      have hfz53_2 := q11 BK325.out 2
                      try go_wp2_with (first | ((with_reducible refine gate_builtin (b := .append) (xs := #[.tmp 108, .tmp 110]) rfl ?_); (try (refine gate_guard (by rfl) ?_; dsimp only)); at_builtin; refine Kd.R_append k54 (w0 := w) w.heap.size rfl (.tmp 108) (.tmp 110) 52 54 (.agg #[(.int .i64 0), (.int .i64 0), (.int .i64 0)]) 24 rfl Try.underlying52 info54 rfl (by decide) (by omega) u9 x9_2 (⟨0, x10_2, x11_2⟩ : S54) [.int .i64 0, .int .i64 x10_2, .int .i64 x11_2] (fun k_ => k_ ≠ gb325) (fun _ => False) rfl (by first | (go_simp; done) | (go_simp; rfl)) ?aP (fun _ hk => hk.elim) ?aF ?aO ?aB ?aS ?aL ?_; (case aP => exact k54_mkM _ _ _ (⟨0, x10_2, x11_2⟩ : S54)); (case aB => exact (by repeat (first | (with_reducible first | exact HB.out | apply q3 | apply q4 | apply q5 | refine q6 ?_ GE325.out) | exact HB.out))); (case aF => exact (fun k_ hk => Kd.freshB (g := gb325) (o := .cells #[.int .i64 0, .int .i64 x10_2, .int .i64 x11_2] 54 (0, 0)) (by (with_reducible repeat (first | refine q0 ?_ _ | refine q1 ?_ | refine q2 ?_ _)); refine blk_put (cs := #[.int .i64 3, .int .i64 x10_2, .int .i64 x11_2]) ?_ 0 _ rfl; (with_reducible repeat (first | refine q0 ?_ _ | refine q1 ?_ | refine q2 ?_ _)); exact BK325.out) k_ hk)); (case aO => exact (by (with_reducible repeat (first | apply q25 | apply q26 | apply q27)); exact Kd.R_mono (Kd.R_far (p := ⟨gb325, 0, none⟩) (Kd.R_mono HO_9.out (fun k_ hk => (⟨hk, hk⟩ : _ ∧ k_ ≠ gb325))) (fun _ hk => hk.2) (.int .i64 0)) (fun _ hk => hk.1))); (case aS => exact (q7 (by repeat (first | (with_reducible first | exact HB.out | apply q3 | apply q4 | apply q5 | refine q6 ?_ GE325.out) | exact HB.out)))); (case aL => have := LMc45.out; omega); intro v330 w54 ho hb hg hat; rw [← Ny329.out] at ho; have n0_ := q13 (Kd.N_afterv (ok := (fun k_ => some k_ ≠ (.slice (some ad327) t319.length co51 : Value).ownBlock ∧ k_ ≠ gb325)) (by (with_reducible repeat (first | apply q22 | apply q23 | apply q24)); exact Kd.N_mono (Kd.N_far (p := ⟨gb325, 0, none⟩) (Kd.N_mono HO_7.out (fun k_ hk => (⟨hk, hk.2.2⟩ : _ ∧ k_ ≠ gb325))) (fun _ hk => hk.2) (.int .i64 0)) (fun _ hk => ⟨⟨hk.1.1, hk.1.2.2⟩, hk.1.2.1⟩)) hg hat); have n1_ := q13 (Kd.N_afterv (ok := (fun k_ => some k_ ≠ (.slice (some ad326) t316.length co50 : Value).ownBlock ∧ k_ ≠ gb325)) (by (with_reducible repeat (first | apply q22 | apply q23 | apply q24)); exact Kd.N_mono (Kd.N_far (p := ⟨gb325, 0, none⟩) (Kd.N_mono HO_8.out (fun k_ hk => (⟨hk, hk.2.2⟩ : _ ∧ k_ ≠ gb325))) (fun _ hk => hk.2) (.int .i64 0)) (fun _ hk => ⟨⟨hk.1.1, hk.1.2.2⟩, hk.1.2.1⟩)) hg hat); have n2_ := q13 (blk_grown (g := gb325) (o := .cells #[.int .i64 0, .int .i64 x10_2, .int .i64 x11_2] 54 (0, 0)) (by (with_reducible repeat (first | refine q0 ?_ _ | refine q1 ?_ | refine q2 ?_ _)); refine blk_put (cs := #[.int .i64 3, .int .i64 x10_2, .int .i64 x11_2]) ?_ 0 _ rfl; (with_reducible repeat (first | refine q0 ?_ _ | refine q1 ?_ | refine q2 ?_ _)); exact BK325.out) hg (Kd.R_away HO_9.out (fun _ hk => hk))); have n3_ := q13 (Kd.V_afterv (ok := (fun k_ => some k_ ≠ (.slice (some ad326) t316.length co50 : Value).ownBlock ∧ some k_ ≠ (.slice (some ad327) t319.length co51 : Value).ownBlock ∧ k_ ≠ gb325)) (by (with_reducible repeat (first | apply q28 | apply q29 | apply q30)); exact q34 (Kd.V_far (p := ⟨gb325, 0, none⟩) (q34 HL326_1.out (fun k_ hk => (⟨hk, hk.1.2.2⟩ : _ ∧ k_ ≠ gb325))) (fun _ hk => hk.2) (.int .i64 0)) (fun _ hk => ⟨⟨hk.1.2, ⟨hk.1.1.1, hk.1.1.2.2⟩⟩, hk.1.1.2.1⟩)) hg hat); have n4_ := q13 (Kd.V_afterv (ok := (fun k_ => some k_ ≠ (.slice (some ad326) t316.length co50 : Value).ownBlock ∧ some k_ ≠ (.slice (some ad327) t319.length co51 : Value).ownBlock ∧ k_ ≠ gb325)) (by (with_reducible repeat (first | apply q28 | apply q29 | apply q30)); exact q34 (Kd.V_far (p := ⟨gb325, 0, none⟩) (q34 HL327_1.out (fun k_ hk => (⟨hk, hk.1.2.2⟩ : _ ∧ k_ ≠ gb325))) (fun _ hk => hk.2) (.int .i64 0)) (fun _ hk => ⟨⟨hk.1.1.1, ⟨hk.1.2, hk.1.1.2.2⟩⟩, hk.1.1.2.1⟩)) hg hat); have n5_ := q13 (hb); have n6_ := q13 (ho); clear HO_7; clear HO_8; clear BK325; clear HL326_1; clear HL327_1; clear HB; clear HO_9; have HO_7 := n0_; have HO_8 := n1_; have BK325 := n2_; have HL326_1 := n3_; have HL327_1 := n4_; have HB := n5_; have HO331 := n6_; clear n0_ n1_ n2_ n3_ n4_ n5_ n6_; clear ho hb hg hat))
                      go_roundg kj35
                      case measure => have := HJ3.out; have := HK2.out; have := HJ13.out; have := HJ19.out; have := HJ22.out; have := HJ35.out; omega
                      case rel => exact ⟨(y329), (wrap64 (x10_2 + 1)), (wrap64 (x11_2 + 1)), (wrap64 (x12_2 + 1)), (by first | rfl | (simp; done) | (simp [*]; done)), (by first | rfl | (simp; done) | (simp [*]; done)), (by first | rfl | (simp; done) | (simp [*]; done)), H', ⟨by have := HJ3.out; have := HK2.out; have := HJ13.out; have := HJ19.out; have := HJ22.out; have := HJ35.out; omega⟩, ⟨by (with_reducible repeat (first | apply q22 | apply q23 | apply q24)); exact Kd.N_mono HO_7.out (fun _ hk => ⟨hk.1.1, hk.2⟩)⟩, ⟨by (with_reducible repeat (first | apply q22 | apply q23 | apply q24)); exact Kd.N_mono HO_8.out (fun _ hk => ⟨hk.1.1, hk.2⟩)⟩, ⟨by (with_reducible repeat (first | apply q25 | apply q26 | apply q27)); exact Kd.R_mono HO331.out (fun _ hk => trivial)⟩, ⟨by repeat (first | (with_reducible first | exact HB.out | apply q3 | apply q4 | apply q5 | refine q6 ?_ GE325.out) | exact HB.out)⟩⟩
                     ·rw [if_neg c45] at H
                      exact absurd H (by simp)
                    ·replace c44 := Bool.eq_false_iff.mpr c44
                     subst c44
                     have H1 : (if x9_2.length < 5864062014805 then (frisketlaw36_CompareBetter.l0 kj35 l2 t316 t319 (x9_2 ++ [(⟨3, x10_2, x11_2⟩ : S54)]) (wrap64 (x10_2 + 1)) (wrap64 (x11_2 + 1)) (wrap64 (x12_2 + 1))) else (none)) = some r := by rw [if_neg (show ¬ (false = true) by decide)] at H; exact H
                     clear H
                     have H := H1
                     clear H1
                     by_cases c55 : x9_2.length < 5864062014805
                     ·rw [if_pos c55] at H
                      have LMc55 := q13 c55
                      clear c55
                      obtain ⟨y332, hy332⟩ : ∃ y_ : List (S54), y_ = (x9_2 ++ [(⟨3, x10_2, x11_2⟩ : S54)]) := ⟨_, rfl⟩
                      replace H : (frisketlaw36_CompareBetter.l0 kj35 l2 t316 t319 y332 (wrap64 (x10_2 + 1)) (wrap64 (x11_2 + 1)) (wrap64 (x12_2 + 1))) = some r := by first | (rw [hy332]; with_reducible exact H) | (have H2_ := (Option.bind_some _ _).symm.trans H; rw [hy332]; with_reducible exact H2_) | (have H2_ := (Option.bind_some _ _).symm.trans H; with_reducible exact H2_) | with_reducible exact H | (rw [hy332]; exact H) | exact H
                      have Ny332 := q13 hy332
                      clear hy332
                      have H' := q13 H
                      clear H
                      try go_wp2_with (first | ((with_reducible refine gate_dst (N := 15) rfl ?_); (try (refine gate_guard (by rfl) ?_; dsimp only)); refine box_event ?hg (N := 15) ?hd (cs := #[.int .i64 0, .int .i64 0, .int .i64 0]) (t := 54) ?hr ?_; (case hd => rfl); (case hg => rfl); (case hr => first | (go_simp; done) | (go_simp; rfl)); intro gb325 hg w56 hbox hb; have n0_ := q13 (Kd.N_below (Kd.N_elderB (by (with_reducible repeat (first | apply q22 | apply q23 | apply q24)); exact HO_7.out) gb325 (Nat.le_of_eq hg.symm)) hb); have n1_ := q13 (Kd.N_below (Kd.N_elderB (by (with_reducible repeat (first | apply q22 | apply q23 | apply q24)); exact HO_8.out) gb325 (Nat.le_of_eq hg.symm)) hb); have n2_ := q13 (Kd.R_below (Kd.R_elderB (by (with_reducible repeat (first | apply q25 | apply q26 | apply q27)); exact HO_9.out) gb325 (Nat.le_of_eq hg.symm)) hb); have n3_ := q13 (q12 (by repeat (first | (with_reducible first | exact HB.out | apply q3 | apply q4 | apply q5) | exact HB.out)) hb); have n4_ := q13 (hbox); have n5_ := q13 ((by rw [hg]; exact (q7 (by repeat (first | (with_reducible first | exact HB.out | apply q3 | apply q4 | apply q5) | exact HB.out))) : w.heap.size ≤ gb325)); have n6_ := q13 ((by rw [hg]; exact (q7 (by repeat (first | (with_reducible first | exact HB.out | apply q3 | apply q4 | apply q5) | exact HB.out))) : w.heap.size ≤ gb325)); clear HO_7; clear HO_8; clear HO_9; clear HB; have HO_7 := n0_; have HO_8 := n1_; have HO_9 := n2_; have HB := n3_; have BK325 := n4_; have GW325 := n5_; have GE325 := n6_; clear n0_ n1_ n2_ n3_ n4_ n5_ n6_; clear hb hbox hg; have hcz57_0 : w56.cell? ⟨gb325, 0, none⟩ = some (.int .i64 0) := (q9 BK325.out 0).trans rfl; have hcz57_1 : w56.cell? ⟨gb325, 1, none⟩ = some (.int .i64 0) := (q9 BK325.out 1).trans rfl; have hcz57_2 : w56.cell? ⟨gb325, 2, none⟩ = some (.int .i64 0) := (q9 BK325.out 2).trans rfl; have hfz57_0 := q11 BK325.out 0; have hfz57_1 := q11 BK325.out 1; have hfz57_2 := q11 BK325.out 2))
                      have n0_ : Aside0 (Kd.N k24 24 (((w56.setCell ⟨gb325, 0, none⟩ (.int .i64 3)).setCell ⟨gb325, 1, none⟩ (.int .i64 x10_2)).setCell ⟨gb325, 2, none⟩ (.int .i64 x11_2)) w.heap.size (fun k_ => some k_ ≠ (v320 : Value).ownBlock ∧ some k_ ≠ (u9 : Value).ownBlock ∧ k_ ≠ gb325) v317 t316) := ⟨by (with_reducible repeat (first | apply q22 | apply q23 | apply q24)); exact Kd.N_mono (Kd.N_far (p := ⟨gb325, 2, none⟩) (Kd.N_far (p := ⟨gb325, 1, none⟩) (Kd.N_far (p := ⟨gb325, 0, none⟩) (Kd.N_mono HO_7.out (fun k_ hk => (⟨hk, hk.2⟩ : _ ∧ k_ ≠ gb325))) (fun _ hk => hk.2) (.int .i64 3)) (fun _ hk => hk.2) (.int .i64 x10_2)) (fun _ hk => hk.2) (.int .i64 x11_2)) (fun _ hk => ⟨hk.1.1.1, ⟨hk.1.1.2, hk.1.2⟩⟩)⟩
                      have n1_ : Aside0 (Kd.N k24 24 (((w56.setCell ⟨gb325, 0, none⟩ (.int .i64 3)).setCell ⟨gb325, 1, none⟩ (.int .i64 x10_2)).setCell ⟨gb325, 2, none⟩ (.int .i64 x11_2)) w.heap.size (fun k_ => some k_ ≠ (v317 : Value).ownBlock ∧ some k_ ≠ (u9 : Value).ownBlock ∧ k_ ≠ gb325) v320 t319) := ⟨by (with_reducible repeat (first | apply q22 | apply q23 | apply q24)); exact Kd.N_mono (Kd.N_far (p := ⟨gb325, 2, none⟩) (Kd.N_far (p := ⟨gb325, 1, none⟩) (Kd.N_far (p := ⟨gb325, 0, none⟩) (Kd.N_mono HO_8.out (fun k_ hk => (⟨hk, hk.2⟩ : _ ∧ k_ ≠ gb325))) (fun _ hk => hk.2) (.int .i64 3)) (fun _ hk => hk.2) (.int .i64 x10_2)) (fun _ hk => hk.2) (.int .i64 x11_2)) (fun _ hk => ⟨hk.1.1.1, ⟨hk.1.1.2, hk.1.2⟩⟩)⟩
                      have n2_ : Aside0 (Kd.R k54 54 (((w56.setCell ⟨gb325, 0, none⟩ (.int .i64 3)).setCell ⟨gb325, 1, none⟩ (.int .i64 x10_2)).setCell ⟨gb325, 2, none⟩ (.int .i64 x11_2)) w.heap.size (fun k_ => k_ ≠ gb325) u9 x9_2) := ⟨by (with_reducible repeat (first | apply q25 | apply q26 | apply q27)); exact Kd.R_mono (Kd.R_far (p := ⟨gb325, 2, none⟩) (Kd.R_far (p := ⟨gb325, 1, none⟩) (Kd.R_far (p := ⟨gb325, 0, none⟩) (Kd.R_mono HO_9.out (fun k_ hk => (⟨hk, hk.2⟩ : _ ∧ k_ ≠ gb325))) (fun _ hk => hk.2) (.int .i64 3)) (fun _ hk => hk.2) (.int .i64 x10_2)) (fun _ hk => hk.2) (.int .i64 x11_2)) (fun _ hk => hk.1.2)⟩
                      have n3_ : Aside0 ((((w56.setCell ⟨gb325, 0, none⟩ (.int .i64 3)).setCell ⟨gb325, 1, none⟩ (.int .i64 x10_2)).setCell ⟨gb325, 2, none⟩ (.int .i64 x11_2)).heap[gb325]? = some (.cells #[.int .i64 3, .int .i64 x10_2, .int .i64 x11_2] 54 (0, 0))) := ⟨by (with_reducible repeat (first | refine q0 ?_ _ | refine q1 ?_ | refine q2 ?_ _)); refine blk_put (cs := #[.int .i64 3, .int .i64 x10_2, .int .i64 0]) ?_ 2 _ rfl; (with_reducible repeat (first | refine q0 ?_ _ | refine q1 ?_ | refine q2 ?_ _)); refine blk_put (cs := #[.int .i64 3, .int .i64 0, .int .i64 0]) ?_ 1 _ rfl; (with_reducible repeat (first | refine q0 ?_ _ | refine q1 ?_ | refine q2 ?_ _)); refine blk_put (cs := #[.int .i64 0, .int .i64 0, .int .i64 0]) ?_ 0 _ rfl; (with_reducible repeat (first | refine q0 ?_ _ | refine q1 ?_ | refine q2 ?_ _)); exact BK325.out⟩
                      have n4_ : Aside0 (Below w.heap.size w (((w56.setCell ⟨gb325, 0, none⟩ (.int .i64 3)).setCell ⟨gb325, 1, none⟩ (.int .i64 x10_2)).setCell ⟨gb325, 2, none⟩ (.int .i64 x11_2))) := ⟨by repeat (first | (with_reducible first | exact HB.out | apply q3 | apply q4 | apply q5 | refine q6 ?_ GE325.out) | exact HB.out)⟩
                      (try clear HO_7)
                      (try clear HO_8)
                      (try clear HO_9)
                      (try clear BK325)
                      (try clear HB)
                      generalize (((w56.setCell ⟨gb325, 0, none⟩ (.int .i64 3)).setCell ⟨gb325, 1, none⟩ (.int .i64 x10_2)).setCell ⟨gb325, 2, none⟩ (.int .i64 x11_2)) = w58 at n0_ n1_ n2_ n3_ n4_ ⊢
                      have HO_7 := n0_
                      have HO_8 := n1_
                      have HO_9 := n2_
                      have BK325 := n3_
                      have HB := n4_
                      clear n0_ n1_ n2_ n3_ n4_
                      have n0_ := q13 (q24 HO_7.out)
                      have n1_ := q13 (q24 HO_8.out)
                      have n2_ := q13 (q27 HO_9.out)
                      have n3_ := q13 (q1 BK325.out)
                      have n4_ := q13 (q5 HB.out)
                      clear HO_7
                      clear HO_8
                      clear HO_9
                      clear BK325
                      clear HB
                      have HO_7 := n0_
                      have HO_8 := n1_
                      have HO_9 := n2_
                      have BK325 := n3_
                      have HB := n4_
                      clear n0_ n1_ n2_ n3_ n4_
                      obtain ⟨Ao60, co60, eo60⟩ := Kd.N_slice HO_7.out
                      (first | subst eo60 | (injection eo60 with f1_ f2_ f3_; have f4_ := f1_.symm; have f5_ := f3_.symm; clear f1_ f2_ f3_; subst f4_; subst f5_))
                      have p326 : 0 ≤ (x10_2 : Int) := q15 (by first | (with_reducible assumption) | assumption)
                      have q326 : x10_2 < (t316.length : Int) := q15 (by first | (with_reducible assumption) | assumption)
                      obtain ⟨ad326, A326_1, c326_1, e326, hx326_0, hx326_1, hl326_1, hi326_1⟩ := at_T24 (Kd.N_reads' HO_7.out).2.2 x10_2 p326 q326
                      cases e326
                      obtain ⟨ce326, hce326, hMe326, hcc326⟩ := Kd.N_get HO_7.out z24 x10_2 p326 (by first | exact q326 | exact q15 (by first | (with_reducible assumption) | assumption) | (have e_ := (Kd.N_reads' HO_7.out).1; omega))
                      obtain ⟨ua326_1, uc326_1, rfl, ul326_1, ge326_1⟩ := k24_openF hMe326
                      have hv326_1 := hcc326 1 _ rfl
                      rw [add_field _ _ 1 (by omega)] at hv326_1
                      replace hv326_1 := Option.some.inj (hv326_1.symm.trans hx326_1)
                      injection hv326_1 with hva_ hvn_ hvc_
                      rw [hva_] at ge326_1
                      rw [hvc_] at ul326_1
                      have HL326_1 := q13 (show Kd.V k69 69 _ w.heap.size _ _ ((rd_T24 t316 x10_2).f1) from Kd.V_mk ul326_1 ge326_1)
                      clear hva_ hvn_ hvc_ ge326_1 ul326_1
                      clear hcc326 hce326
                      have HR326_1 := q13 hi326_1
                      have HC326_1 := q13 hl326_1
                      clear hi326_1 hl326_1
                      replace p326 := eq_true p326
                      replace q326 := eq_true q326
                      obtain ⟨Ao61, co61, eo61⟩ := Kd.N_slice HO_8.out
                      (first | subst eo61 | (injection eo61 with f1_ f2_ f3_; have f4_ := f1_.symm; have f5_ := f3_.symm; clear f1_ f2_ f3_; subst f4_; subst f5_))
                      have p327 : 0 ≤ (x11_2 : Int) := q15 (by first | (with_reducible assumption) | assumption)
                      have q327 : x11_2 < (t319.length : Int) := q15 (by first | (with_reducible assumption) | assumption)
                      obtain ⟨ad327, A327_1, c327_1, e327, hx327_0, hx327_1, hl327_1, hi327_1⟩ := at_T24 (Kd.N_reads' HO_8.out).2.2 x11_2 p327 q327
                      cases e327
                      obtain ⟨ce327, hce327, hMe327, hcc327⟩ := Kd.N_get HO_8.out z24 x11_2 p327 (by first | exact q327 | exact q15 (by first | (with_reducible assumption) | assumption) | (have e_ := (Kd.N_reads' HO_8.out).1; omega))
                      obtain ⟨ua327_1, uc327_1, rfl, ul327_1, ge327_1⟩ := k24_openF hMe327
                      have hv327_1 := hcc327 1 _ rfl
                      rw [add_field _ _ 1 (by omega)] at hv327_1
                      replace hv327_1 := Option.some.inj (hv327_1.symm.trans hx327_1)
                      injection hv327_1 with hva_ hvn_ hvc_
                      rw [hva_] at ge327_1
                      rw [hvc_] at ul327_1
                      have HL327_1 := q13 (show Kd.V k69 69 _ w.heap.size _ _ ((rd_T24 t319 x11_2).f1) from Kd.V_mk ul327_1 ge327_1)
                      clear hva_ hvn_ hvc_ ge327_1 ul327_1
                      clear hcc327 hce327
                      have HR327_1 := q13 hi327_1
                      have HC327_1 := q13 hl327_1
                      clear hi327_1 hl327_1
                      replace p327 := eq_true p327
                      replace q327 := eq_true q327
                      refine start_ (n := 9) (S := fun w' => w'.cell? (ad326.add ((x10_2).toNat * 2)) = some (.int .i64 ((rd_T24 t316 x10_2).f0)) ∧ w'.cell? ⟨(ad326.add ((x10_2).toNat * 2)).block, (ad326.add ((x10_2).toNat * 2)).off + 1, none⟩ = some (.slice A326_1 ((rd_T24 t316 x10_2).f1).length c326_1) ∧ w'.cell? (ad327.add ((x11_2).toNat * 2)) = some (.int .i64 ((rd_T24 t319 x11_2).f0)) ∧ w'.cell? ⟨(ad327.add ((x11_2).toNat * 2)).block, (ad327.add ((x11_2).toNat * 2)).off + 1, none⟩ = some (.slice A327_1 ((rd_T24 t319 x11_2).f1).length c327_1)) (ds := []) #[false, false, false, false, false, false, false, false, false] (by kernel_rfl) rfl rfl ⟨hx326_0, hx326_1, hx327_0, hx327_1⟩ (fun hHeld => ?_); refine with_tabW frisketlaw36_CompareBetter.tab17 frisketlaw36_CompareBetter.bits17 (fun HT_ HW_ => ?_)
                      generalize w58.drew = w59 at HO_7 HO_8 HO_9 BK325 HB HL326_1 HL327_1 HR326_1 HR327_1 hx326_0 hx326_1 hx327_0 hx327_1 hHeld ⊢
                      refine go_in [0, 1, 2, 4, 5, 6, 3, 7] ?_
                      repeat (first | (refine pz (v := ?_) (a' := ?_) HT_ rfl rfl (by kernel_rfl) (fun _ _ _ h => h) (Or.inl ⟨by rfl, ?_⟩) ?_ ?_; rotate_left; (focus intro w'; go_simp; with_reducible rfl); rotate_left; (focus simp only [Act.put, List.setIfInBounds_toArray, List.set_cons_zero, List.set_cons_succ, i64_w, i32_w, u8_w, u8_tm, u8_c, u8_cm]; rfl)) | (refine tz (v := ?_) (a' := ?_) HT_ HW_ rfl rfl hHeld (by kernel_rfl) (fun _ _ _ h => h) (Or.inl ⟨by rfl, ?_⟩) ?_ ?_; rotate_left; (focus rintro w' ⟨s0, s1, s2, s3⟩; go_simp; with_reducible rfl); rotate_left; (focus simp only [Act.put, List.setIfInBounds_toArray, List.set_cons_zero, List.set_cons_succ, i64_w, i32_w, u8_w, u8_tm, u8_c, u8_cm]; rfl)))
                      refine go_out ?_
                      refine one_ (i := 8) (N := some 106) #[true, true, true, true, true, true, true, true, true] rfl rfl (one_of HT_.out (by kernel_rfl)) (by decide) (fun K hK => ?_)
                      refine goes_ Try.func13 (by kernel_rfl) rfl #[.agg #[.int .i64 ((rd_T24 t316 x10_2).f0), .slice A326_1 ((rd_T24 t316 x10_2).f1).length c326_1], .agg #[.int .i64 ((rd_T24 t319 x11_2).f0), .slice A327_1 ((rd_T24 t319 x11_2).f1).length c327_1]] (by rfl) rfl rfl (by (try simp only [List.map_toArray, List.map_cons, List.map_nil]); first | done | rfl | (simp only [List.length_drop, List.length_take]; rfl)) ?_
                      with_reducible refine (compare_Same.calls kj35 ((rd_T24 t316 x10_2).f0) _ _ ((rd_T24 t316 x10_2).f1) ((rd_T24 t319 x11_2).f0) _ _ ((rd_T24 t319 x11_2).f1) false _ ?side1 ?side2 ?side3 ?side4 A43.out).mono ?_
                      (case side1 => repeat (first | exact (by repeat (first | (with_reducible exact HR326_1.out) | (with_reducible refine q18 ?_ _) | (with_reducible refine q19 ?_ _) | (with_reducible refine q20 ?_) | exact HR326_1.out)) | (with_reducible refine q18 ?_ _) | (with_reducible refine q19 ?_ _) | (with_reducible refine q20 ?_)))
                      (case side2 => exact HC326_1.out)
                      (case side3 => repeat (first | exact (by repeat (first | (with_reducible exact HR327_1.out) | (with_reducible refine q18 ?_ _) | (with_reducible refine q19 ?_ _) | (with_reducible refine q20 ?_) | exact HR327_1.out)) | (with_reducible refine q18 ?_ _) | (with_reducible refine q19 ?_ _) | (with_reducible refine q20 ?_)))
                      (case side4 => exact HC327_1.out)
                      rintro e w62 ⟨rfl, hb⟩
                      have HS0_ := (hb.cell (q14 _ _ (hHeld.1))).trans (hHeld.1)
                      have HS1_ := (hb.cell (q14 _ _ (hHeld.2.1))).trans (hHeld.2.1)
                      have HS2_ := (hb.cell (q14 _ _ (hHeld.2.2.1))).trans (hHeld.2.2.1)
                      have HS3_ := (hb.cell (q14 _ _ (hHeld.2.2.2))).trans (hHeld.2.2.2)
                      refine ⟨_, rfl, ?_⟩
                      have n0_ := q13 (Kd.N_below (by (with_reducible repeat (first | apply q22 | apply q23 | apply q24)); exact HO_7.out) hb)
                      have n1_ := q13 (Kd.N_below (by (with_reducible repeat (first | apply q22 | apply q23 | apply q24)); exact HO_8.out) hb)
                      have n2_ := q13 (Kd.R_below (by (with_reducible repeat (first | apply q25 | apply q26 | apply q27)); exact HO_9.out) hb)
                      have n3_ := q13 (Kd.V_below (by (with_reducible repeat (first | apply q28 | apply q29 | apply q30)); exact HL326_1.out) hb)
                      have n4_ := q13 (Kd.V_below (by (with_reducible repeat (first | apply q28 | apply q29 | apply q30)); exact HL327_1.out) hb)
                      have n5_ := q13 (q8 (g := gb325) (o := .cells #[.int .i64 3, .int .i64 x10_2, .int .i64 x11_2] 54 (0, 0)) (by (with_reducible repeat (first | refine q0 ?_ _ | refine q1 ?_ | refine q2 ?_ _)); exact BK325.out) hb)
                      have n6_ := q13 (Kd.C_below (by repeat (first | (with_reducible exact HR326_1.out) | (with_reducible refine q18 ?_ _) | (with_reducible refine q19 ?_ _) | (with_reducible refine q20 ?_) | exact HR326_1.out)) hb)
                      have n7_ := q13 (Kd.C_below (by repeat (first | (with_reducible exact HR327_1.out) | (with_reducible refine q18 ?_ _) | (with_reducible refine q19 ?_ _) | (with_reducible refine q20 ?_) | exact HR327_1.out)) hb)
                      have n8_ := q13 (q12 (by repeat (first | (with_reducible first | exact HB.out | apply q3 | apply q4 | apply q5 | refine q6 ?_ GE325.out) | exact HB.out)) hb)
                      clear HO_7
                      clear HO_8
                      clear HO_9
                      clear HL326_1
                      clear HL327_1
                      clear BK325
                      clear HR326_1
                      clear HR327_1
                      clear HB
                      have HO_7 := n0_
                      have HO_8 := n1_
                      have HO_9 := n2_
                      have HL326_1 := n3_
                      have HL327_1 := n4_
                      have BK325 := n5_
                      have HR326_1 := n6_
                      have HR327_1 := n7_
                      have HB := n8_
                      clear n0_ n1_ n2_ n3_ n4_ n5_ n6_ n7_ n8_
                      (try clear hb)
                      (try clear hb2)
                      (try clear hk)
                      (try clear hi)
                      refine hK.out _ _ ⟨HS0_, HS1_, HS2_, HS3_⟩ (fun hHeld => ?_)
                      clear hK K
                      refine norm_ (a' := ?_) ?_ ?_
                      rotate_left
                      ·show Act.put _ (some 106) _ = _
                       simp only [Act.put, List.setIfInBounds_toArray, List.set_cons_zero, List.set_cons_succ, i64_w, i32_w]
                       rfl
                      refine done_ (done_of HT_.out (by kernel_rfl)) ?_
                      have hcz63_0 : w62.cell? ⟨gb325, 0, none⟩ = some (.int .i64 3) := (q9 BK325.out 0).trans rfl
                      have hcz63_1 : w62.cell? ⟨gb325, 1, none⟩ = some (.int .i64 x10_2) := (q9 BK325.out 1).trans rfl
                      have hcz63_2 : w62.cell? ⟨gb325, 2, none⟩ = some (.int .i64 x11_2) := (q9 BK325.out 2).trans rfl
                      have hfz63_0 := q11 BK325.out 0
                      have hfz63_1 := q11 BK325.out 1
                      have hfz63_2 := q11 BK325.out 2
                      try go_wp2_with (first | ((with_reducible refine gate_builtin (b := .append) (xs := #[.tmp 108, .tmp 110]) rfl ?_); (try (refine gate_guard (by rfl) ?_; dsimp only)); at_builtin; refine Kd.R_append k54 (w0 := w) w.heap.size rfl (.tmp 108) (.tmp 110) 52 54 (.agg #[(.int .i64 0), (.int .i64 0), (.int .i64 0)]) 24 rfl Try.underlying52 info54 rfl (by decide) (by omega) u9 x9_2 (⟨3, x10_2, x11_2⟩ : S54) [.int .i64 3, .int .i64 x10_2, .int .i64 x11_2] (fun k_ => k_ ≠ gb325) (fun _ => False) rfl rfl ?aP (fun _ hk => hk.elim) ?aF ?aO ?aB ?aS ?aL ?_; (case aP => exact k54_mkM _ _ _ (⟨3, x10_2, x11_2⟩ : S54)); (case aB => exact (by repeat (first | (with_reducible first | exact HB.out | apply q3 | apply q4 | apply q5 | refine q6 ?_ GE325.out) | exact HB.out))); (case aF => exact (fun k_ hk => Kd.freshB (g := gb325) (o := .cells #[.int .i64 3, .int .i64 x10_2, .int .i64 x11_2] 54 (0, 0)) (by (with_reducible repeat (first | refine q0 ?_ _ | refine q1 ?_ | refine q2 ?_ _)); exact BK325.out) k_ hk)); (case aO => exact (by (with_reducible repeat (first | apply q25 | apply q26 | apply q27)); exact HO_9.out)); (case aS => exact (q7 (by repeat (first | (with_reducible first | exact HB.out | apply q3 | apply q4 | apply q5 | refine q6 ?_ GE325.out) | exact HB.out)))); (case aL => have := LMc55.out; omega); intro v333 w64 ho hb hg hat; rw [← Ny332.out] at ho; have n0_ := q13 (Kd.N_afterv (ok := (fun k_ => some k_ ≠ (.slice (some ad327) t319.length co61 : Value).ownBlock ∧ k_ ≠ gb325)) (by (with_reducible repeat (first | apply q22 | apply q23 | apply q24)); exact Kd.N_mono HO_7.out (fun _ hk => ⟨⟨hk.1, hk.2.2⟩, hk.2.1⟩)) hg hat); have n1_ := q13 (Kd.N_afterv (ok := (fun k_ => some k_ ≠ (.slice (some ad326) t316.length co60 : Value).ownBlock ∧ k_ ≠ gb325)) (by (with_reducible repeat (first | apply q22 | apply q23 | apply q24)); exact Kd.N_mono HO_8.out (fun _ hk => ⟨⟨hk.1, hk.2.2⟩, hk.2.1⟩)) hg hat); have n2_ := q13 (blk_grown (g := gb325) (o := .cells #[.int .i64 3, .int .i64 x10_2, .int .i64 x11_2] 54 (0, 0)) (by (with_reducible repeat (first | refine q0 ?_ _ | refine q1 ?_ | refine q2 ?_ _)); exact BK325.out) hg (Kd.R_away HO_9.out (fun _ hk => hk))); have n3_ := q13 (Kd.V_afterv (ok := (fun k_ => some k_ ≠ (.slice (some ad326) t316.length co60 : Value).ownBlock ∧ some k_ ≠ (.slice (some ad327) t319.length co61 : Value).ownBlock ∧ k_ ≠ gb325)) (by (with_reducible repeat (first | apply q28 | apply q29 | apply q30)); exact q34 HL326_1.out (fun _ hk => ⟨⟨hk.2, ⟨hk.1.1, hk.1.2.2⟩⟩, hk.1.2.1⟩)) hg hat); have n4_ := q13 (Kd.V_afterv (ok := (fun k_ => some k_ ≠ (.slice (some ad326) t316.length co60 : Value).ownBlock ∧ some k_ ≠ (.slice (some ad327) t319.length co61 : Value).ownBlock ∧ k_ ≠ gb325)) (by (with_reducible repeat (first | apply q28 | apply q29 | apply q30)); exact q34 HL327_1.out (fun _ hk => ⟨⟨hk.1.1, ⟨hk.2, hk.1.2.2⟩⟩, hk.1.2.1⟩)) hg hat); have n5_ := q13 (hb); have n6_ := q13 (ho); clear HO_7; clear HO_8; clear BK325; clear HL326_1; clear HL327_1; clear HB; clear HO_9; have HO_7 := n0_; have HO_8 := n1_; have BK325 := n2_; have HL326_1 := n3_; have HL327_1 := n4_; have HB := n5_; have HO334 := n6_; clear n0_ n1_ n2_ n3_ n4_ n5_ n6_; clear ho hb hg hat))
                      go_roundg kj35
                      case measure => have := HJ3.out; have := HK2.out; have := HJ13.out; have := HJ19.out; have := HJ22.out; have := HJ35.out; omega
                      case rel => exact ⟨(y332), (wrap64 (x10_2 + 1)), (wrap64 (x11_2 + 1)), (wrap64 (x12_2 + 1)), (by first | rfl | (simp; done) | (simp [*]; done)), (by first | rfl | (simp; done) | (simp [*]; done)), (by first | rfl | (simp; done) | (simp [*]; done)), H', ⟨by have := HJ3.out; have := HK2.out; have := HJ13.out; have := HJ19.out; have := HJ22.out; have := HJ35.out; omega⟩, ⟨by (with_reducible repeat (first | apply q22 | apply q23 | apply q24)); exact Kd.N_mono HO_7.out (fun _ hk => ⟨hk.1.1, hk.2⟩)⟩, ⟨by (with_reducible repeat (first | apply q22 | apply q23 | apply q24)); exact Kd.N_mono HO_8.out (fun _ hk => ⟨hk.1.1, hk.2⟩)⟩, ⟨by (with_reducible repeat (first | apply q25 | apply q26 | apply q27)); exact Kd.R_mono HO334.out (fun _ hk => trivial)⟩, ⟨by repeat (first | (with_reducible first | exact HB.out | apply q3 | apply q4 | apply q5 | refine q6 ?_ GE325.out) | exact HB.out)⟩⟩
                     ·rw [if_neg c55] at H
                      exact absurd H (by simp)
                   ·rw [if_neg c42] at H
                    exact absurd H (by simp)
                  ·rw [if_neg c41] at H
                   exact absurd H (by simp)
                 ·rw [if_neg c40] at H
                  exact absurd H (by simp)
                ·rw [if_neg c39] at H
                 exact absurd H (by simp)
               ·replace c38 := Bool.eq_false_iff.mpr c38
                subst c38
                have H1 : (if x10_2 < (t316.length : Int) then (if (Int.tmod x13_19 3) < 2 then (if x9_2.length < 5864062014805 then (frisketlaw36_CompareBetter.l0 kj35 l2 t316 t319 (x9_2 ++ [(⟨1, x10_2, 0⟩ : S54)]) (wrap64 (x10_2 + 1)) x11_2 (wrap64 (x12_2 + 1))) else (none)) else (if x11_2 = (t319.length : Int) then (if x9_2.length < 5864062014805 then (frisketlaw36_CompareBetter.l0 kj35 l2 t316 t319 (x9_2 ++ [(⟨1, x10_2, 0⟩ : S54)]) (wrap64 (x10_2 + 1)) x11_2 (wrap64 (x12_2 + 1))) else (none)) else (if x9_2.length < 5864062014805 then (frisketlaw36_CompareBetter.l0 kj35 l2 t316 t319 (x9_2 ++ [(⟨2, 0, x11_2⟩ : S54)]) x10_2 (wrap64 (x11_2 + 1)) (wrap64 (x12_2 + 1))) else (none)))) else (if x9_2.length < 5864062014805 then (frisketlaw36_CompareBetter.l0 kj35 l2 t316 t319 (x9_2 ++ [(⟨2, 0, x11_2⟩ : S54)]) x10_2 (wrap64 (x11_2 + 1)) (wrap64 (x12_2 + 1))) else (none))) = some r := by rw [if_neg (show ¬ (false = true) by decide)] at H; exact H
                clear H
                have H := H1
                clear H1
                by_cases c65 : x10_2 < (t316.length : Int)
                ·rw [if_pos c65] at H
                 have c65b0 : decide (x10_2 < (t316.length : Int)) = true := decide_eq_true c65
                 clear c65
                 by_cases c66 : (Int.tmod x13_19 3) < 2
                 ·rw [if_pos c66] at H
                  have c66b0 : decide ((Int.tmod x13_19 3) < 2) = true := decide_eq_true c66
                  clear c66
                  by_cases c67 : x9_2.length < 5864062014805
                  ·rw [if_pos c67] at H
                   have LMc67 := q13 c67
                   clear c67
                   obtain ⟨y335, hy335⟩ : ∃ y_ : List (S54), y_ = (x9_2 ++ [(⟨1, x10_2, 0⟩ : S54)]) := ⟨_, rfl⟩
                   replace H : (frisketlaw36_CompareBetter.l0 kj35 l2 t316 t319 y335 (wrap64 (x10_2 + 1)) x11_2 (wrap64 (x12_2 + 1))) = some r := by first | (rw [hy335]; with_reducible exact H) | (have H2_ := (Option.bind_some _ _).symm.trans H; rw [hy335]; with_reducible exact H2_) | (have H2_ := (Option.bind_some _ _).symm.trans H; with_reducible exact H2_) | with_reducible exact H | (rw [hy335]; exact H) | exact H
                   have Ny335 := q13 hy335
                   clear hy335
                   have H' := q13 H
                   clear H
                   obtain ⟨Ao68, co68, eo68⟩ := Kd.N_slice HO_7.out
                   subst eo68
                   go_wp2_with (first | ((with_reducible refine gate_builtin (b := .append) (xs := #[.tmp 132, .tmp 135]) rfl ?_); (try (refine gate_guard (by rfl) ?_; dsimp only)); at_builtin; refine Kd.R_append k54 (w0 := w) w.heap.size rfl (.tmp 132) (.tmp 135) 52 54 (.agg #[(.int .i64 0), (.int .i64 0), (.int .i64 0)]) 24 rfl Try.underlying52 info54 rfl (by decide) (by omega) u9 x9_2 (⟨1, x10_2, 0⟩ : S54) [.int .i64 1, .int .i64 x10_2, .int .i64 0] (fun _ => True) (fun _ => False) rfl rfl ?aP (fun _ hk => hk.elim) ?aF ?aO ?aB ?aS ?aL ?_; (case aP => exact k54_mkM _ _ _ (⟨1, x10_2, 0⟩ : S54)); (case aB => exact (by repeat (first | (with_reducible first | exact HB.out | apply q3 | apply q4 | apply q5) | exact HB.out))); (case aF => exact (fun _ _ => trivial)); (case aO => exact (by (with_reducible repeat (first | apply q25 | apply q26 | apply q27)); exact HO_9.out)); (case aS => exact (q7 (by repeat (first | (with_reducible first | exact HB.out | apply q3 | apply q4 | apply q5) | exact HB.out)))); (case aL => have := LMc67.out; omega); intro v336 w69 ho hb hg hat; rw [← Ny335.out] at ho; have n0_ := q13 (Kd.N_afterv (ok := (fun k_ => some k_ ≠ (v320 : Value).ownBlock)) (by (with_reducible repeat (first | apply q22 | apply q23 | apply q24)); exact HO_7.out) hg hat); have n1_ := q13 (Kd.N_afterv (ok := (fun k_ => some k_ ≠ (.slice Ao68 t316.length co68 : Value).ownBlock)) (by (with_reducible repeat (first | apply q22 | apply q23 | apply q24)); exact HO_8.out) hg hat); have n2_ := q13 (hb); have n3_ := q13 (ho); clear HO_7; clear HO_8; clear HB; clear HO_9; have HO_7 := n0_; have HO_8 := n1_; have HB := n2_; have HO337 := n3_; clear n0_ n1_ n2_ n3_; clear ho hb hg hat))
                   go_roundg kj35
                   case measure => have := HJ3.out; have := HK2.out; have := HJ13.out; have := HJ19.out; have := HJ22.out; have := HJ35.out; omega
                   case rel => exact ⟨(y335), (wrap64 (x10_2 + 1)), (x11_2), (wrap64 (x12_2 + 1)), (by first | rfl | (simp; done) | (simp [*]; done)), (by first | rfl | (simp; done) | (simp [*]; done)), (by first | rfl | (simp; done) | (simp [*]; done)), H', ⟨by have := HJ3.out; have := HK2.out; have := HJ13.out; have := HJ19.out; have := HJ22.out; have := HJ35.out; omega⟩, ⟨by (with_reducible repeat (first | apply q22 | apply q23 | apply q24)); exact HO_7.out⟩, ⟨by (with_reducible repeat (first | apply q22 | apply q23 | apply q24)); exact HO_8.out⟩, ⟨by (with_reducible repeat (first | apply q25 | apply q26 | apply q27)); exact HO337.out⟩, ⟨by repeat (first | (with_reducible first | exact HB.out | apply q3 | apply q4 | apply q5) | exact HB.out)⟩⟩
                  ·rw [if_neg c67] at H
                   exact absurd H (by simp)
                 ·rw [if_neg c66] at H
                  have c66b0 : decide ((Int.tmod x13_19 3) < 2) = false := decide_eq_false c66
                  clear c66
                  by_cases c70 : x11_2 = (t319.length : Int)
                  ·rw [if_pos c70] at H
                   have c70b0 : (x11_2 == (t319.length : Int)) = true := beq_iff_eq.mpr c70
                   have c70b1 : (x11_2 != (t319.length : Int)) = false := bne_eq_false_iff_eq.mpr c70
                   clear c70
                   by_cases c71 : x9_2.length < 5864062014805
                   ·rw [if_pos c71] at H
                    have LMc71 := q13 c71
                    clear c71
                    obtain ⟨y338, hy338⟩ : ∃ y_ : List (S54), y_ = (x9_2 ++ [(⟨1, x10_2, 0⟩ : S54)]) := ⟨_, rfl⟩
                    replace H : (frisketlaw36_CompareBetter.l0 kj35 l2 t316 t319 y338 (wrap64 (x10_2 + 1)) x11_2 (wrap64 (x12_2 + 1))) = some r := by first | (rw [hy338]; with_reducible exact H) | (have H2_ := (Option.bind_some _ _).symm.trans H; rw [hy338]; with_reducible exact H2_) | (have H2_ := (Option.bind_some _ _).symm.trans H; with_reducible exact H2_) | with_reducible exact H | (rw [hy338]; exact H) | exact H
                    have Ny338 := q13 hy338
                    clear hy338
                    have H' := q13 H
                    clear H
                    obtain ⟨Ao72, co72, eo72⟩ := Kd.N_slice HO_7.out
                    subst eo72
                    obtain ⟨Ao73, co73, eo73⟩ := Kd.N_slice HO_8.out
                    subst eo73
                    go_wp2_with (first | ((with_reducible refine gate_builtin (b := .append) (xs := #[.tmp 132, .tmp 135]) rfl ?_); (try (refine gate_guard (by rfl) ?_; dsimp only)); at_builtin; refine Kd.R_append k54 (w0 := w) w.heap.size rfl (.tmp 132) (.tmp 135) 52 54 (.agg #[(.int .i64 0), (.int .i64 0), (.int .i64 0)]) 24 rfl Try.underlying52 info54 rfl (by decide) (by omega) u9 x9_2 (⟨1, x10_2, 0⟩ : S54) [.int .i64 1, .int .i64 x10_2, .int .i64 0] (fun _ => True) (fun _ => False) rfl rfl ?aP (fun _ hk => hk.elim) ?aF ?aO ?aB ?aS ?aL ?_; (case aP => exact k54_mkM _ _ _ (⟨1, x10_2, 0⟩ : S54)); (case aB => exact (by repeat (first | (with_reducible first | exact HB.out | apply q3 | apply q4 | apply q5) | exact HB.out))); (case aF => exact (fun _ _ => trivial)); (case aO => exact (by (with_reducible repeat (first | apply q25 | apply q26 | apply q27)); exact HO_9.out)); (case aS => exact (q7 (by repeat (first | (with_reducible first | exact HB.out | apply q3 | apply q4 | apply q5) | exact HB.out)))); (case aL => have := LMc71.out; omega); intro v339 w74 ho hb hg hat; rw [← Ny338.out] at ho; have n0_ := q13 (Kd.N_afterv (ok := (fun k_ => some k_ ≠ (.slice Ao73 t319.length co73 : Value).ownBlock)) (by (with_reducible repeat (first | apply q22 | apply q23 | apply q24)); exact HO_7.out) hg hat); have n1_ := q13 (Kd.N_afterv (ok := (fun k_ => some k_ ≠ (.slice Ao72 t316.length co72 : Value).ownBlock)) (by (with_reducible repeat (first | apply q22 | apply q23 | apply q24)); exact HO_8.out) hg hat); have n2_ := q13 (hb); have n3_ := q13 (ho); clear HO_7; clear HO_8; clear HB; clear HO_9; have HO_7 := n0_; have HO_8 := n1_; have HB := n2_; have HO340 := n3_; clear n0_ n1_ n2_ n3_; clear ho hb hg hat))
                    go_roundg kj35
                    case measure => have := HJ3.out; have := HK2.out; have := HJ13.out; have := HJ19.out; have := HJ22.out; have := HJ35.out; omega
                    case rel => exact ⟨(y338), (wrap64 (x10_2 + 1)), (x11_2), (wrap64 (x12_2 + 1)), (by first | rfl | (simp; done) | (simp [*]; done)), (by first | rfl | (simp; done) | (simp [*]; done)), (by first | rfl | (simp; done) | (simp [*]; done)), H', ⟨by have := HJ3.out; have := HK2.out; have := HJ13.out; have := HJ19.out; have := HJ22.out; have := HJ35.out; omega⟩, ⟨by (with_reducible repeat (first | apply q22 | apply q23 | apply q24)); exact HO_7.out⟩, ⟨by (with_reducible repeat (first | apply q22 | apply q23 | apply q24)); exact HO_8.out⟩, ⟨by (with_reducible repeat (first | apply q25 | apply q26 | apply q27)); exact HO340.out⟩, ⟨by repeat (first | (with_reducible first | exact HB.out | apply q3 | apply q4 | apply q5) | exact HB.out)⟩⟩
                   ·rw [if_neg c71] at H
                    exact absurd H (by simp)
                  ·rw [if_neg c70] at H
                   have c70b0 : (x11_2 == (t319.length : Int)) = false := beq_eq_false_iff_ne.mpr c70
                   have c70b1 : (x11_2 != (t319.length : Int)) = true := bne_iff_ne.mpr c70
                   by_cases c75 : x9_2.length < 5864062014805
                   ·rw [if_pos c75] at H
                    have LMc75 := q13 c75
                    clear c75
                    obtain ⟨y341, hy341⟩ : ∃ y_ : List (S54), y_ = (x9_2 ++ [(⟨2, 0, x11_2⟩ : S54)]) := ⟨_, rfl⟩
                    replace H : (frisketlaw36_CompareBetter.l0 kj35 l2 t316 t319 y341 x10_2 (wrap64 (x11_2 + 1)) (wrap64 (x12_2 + 1))) = some r := by first | (rw [hy341]; with_reducible exact H) | (have H2_ := (Option.bind_some _ _).symm.trans H; rw [hy341]; with_reducible exact H2_) | (have H2_ := (Option.bind_some _ _).symm.trans H; with_reducible exact H2_) | with_reducible exact H | (rw [hy341]; exact H) | exact H
                    have Ny341 := q13 hy341
                    clear hy341
                    have H' := q13 H
                    clear H
                    obtain ⟨Ao76, co76, eo76⟩ := Kd.N_slice HO_7.out
                    subst eo76
                    obtain ⟨Ao77, co77, eo77⟩ := Kd.N_slice HO_8.out
                    subst eo77
                    go_wp2_with (first | ((with_reducible refine gate_builtin (b := .append) (xs := #[.tmp 81, .tmp 84]) rfl ?_); (try (refine gate_guard (by rfl) ?_; dsimp only)); at_builtin; refine Kd.R_append k54 (w0 := w) w.heap.size rfl (.tmp 81) (.tmp 84) 52 54 (.agg #[(.int .i64 0), (.int .i64 0), (.int .i64 0)]) 24 rfl Try.underlying52 info54 rfl (by decide) (by omega) u9 x9_2 (⟨2, 0, x11_2⟩ : S54) [.int .i64 2, .int .i64 0, .int .i64 x11_2] (fun _ => True) (fun _ => False) rfl rfl ?aP (fun _ hk => hk.elim) ?aF ?aO ?aB ?aS ?aL ?_; (case aP => exact k54_mkM _ _ _ (⟨2, 0, x11_2⟩ : S54)); (case aB => exact (by repeat (first | (with_reducible first | exact HB.out | apply q3 | apply q4 | apply q5) | exact HB.out))); (case aF => exact (fun _ _ => trivial)); (case aO => exact (by (with_reducible repeat (first | apply q25 | apply q26 | apply q27)); exact HO_9.out)); (case aS => exact (q7 (by repeat (first | (with_reducible first | exact HB.out | apply q3 | apply q4 | apply q5) | exact HB.out)))); (case aL => have := LMc75.out; omega); intro v342 w78 ho hb hg hat; rw [← Ny341.out] at ho; have n0_ := q13 (Kd.N_afterv (ok := (fun k_ => some k_ ≠ (.slice Ao77 t319.length co77 : Value).ownBlock)) (by (with_reducible repeat (first | apply q22 | apply q23 | apply q24)); exact HO_7.out) hg hat); have n1_ := q13 (Kd.N_afterv (ok := (fun k_ => some k_ ≠ (.slice Ao76 t316.length co76 : Value).ownBlock)) (by (with_reducible repeat (first | apply q22 | apply q23 | apply q24)); exact HO_8.out) hg hat); have n2_ := q13 (hb); have n3_ := q13 (ho); clear HO_7; clear HO_8; clear HB; clear HO_9; have HO_7 := n0_; have HO_8 := n1_; have HB := n2_; have HO343 := n3_; clear n0_ n1_ n2_ n3_; clear ho hb hg hat))
                    go_roundg kj35
                    case measure => have := HJ3.out; have := HK2.out; have := HJ13.out; have := HJ19.out; have := HJ22.out; have := HJ35.out; omega
                    case rel => exact ⟨(y341), (x10_2), (wrap64 (x11_2 + 1)), (wrap64 (x12_2 + 1)), (by first | rfl | (simp; done) | (simp [*]; done)), (by first | rfl | (simp; done) | (simp [*]; done)), (by first | rfl | (simp; done) | (simp [*]; done)), H', ⟨by have := HJ3.out; have := HK2.out; have := HJ13.out; have := HJ19.out; have := HJ22.out; have := HJ35.out; omega⟩, ⟨by (with_reducible repeat (first | apply q22 | apply q23 | apply q24)); exact HO_7.out⟩, ⟨by (with_reducible repeat (first | apply q22 | apply q23 | apply q24)); exact HO_8.out⟩, ⟨by (with_reducible repeat (first | apply q25 | apply q26 | apply q27)); exact HO343.out⟩, ⟨by repeat (first | (with_reducible first | exact HB.out | apply q3 | apply q4 | apply q5) | exact HB.out)⟩⟩
                   ·rw [if_neg c75] at H
                    exact absurd H (by simp)
                ·rw [if_neg c65] at H
                 have c65b0 : decide (x10_2 < (t316.length : Int)) = false := decide_eq_false c65
                 clear c65
                 by_cases c79 : x9_2.length < 5864062014805
                 ·rw [if_pos c79] at H
                  have LMc79 := q13 c79
                  clear c79
                  obtain ⟨y344, hy344⟩ : ∃ y_ : List (S54), y_ = (x9_2 ++ [(⟨2, 0, x11_2⟩ : S54)]) := ⟨_, rfl⟩
                  replace H : (frisketlaw36_CompareBetter.l0 kj35 l2 t316 t319 y344 x10_2 (wrap64 (x11_2 + 1)) (wrap64 (x12_2 + 1))) = some r := by first | (rw [hy344]; with_reducible exact H) | (have H2_ := (Option.bind_some _ _).symm.trans H; rw [hy344]; with_reducible exact H2_) | (have H2_ := (Option.bind_some _ _).symm.trans H; with_reducible exact H2_) | with_reducible exact H | (rw [hy344]; exact H) | exact H
                  have Ny344 := q13 hy344
                  clear hy344
                  have H' := q13 H
                  clear H
                  obtain ⟨Ao80, co80, eo80⟩ := Kd.N_slice HO_7.out
                  subst eo80
                  go_wp2_with (first | ((with_reducible refine gate_builtin (b := .append) (xs := #[.tmp 81, .tmp 84]) rfl ?_); (try (refine gate_guard (by rfl) ?_; dsimp only)); at_builtin; refine Kd.R_append k54 (w0 := w) w.heap.size rfl (.tmp 81) (.tmp 84) 52 54 (.agg #[(.int .i64 0), (.int .i64 0), (.int .i64 0)]) 24 rfl Try.underlying52 info54 rfl (by decide) (by omega) u9 x9_2 (⟨2, 0, x11_2⟩ : S54) [.int .i64 2, .int .i64 0, .int .i64 x11_2] (fun _ => True) (fun _ => False) rfl rfl ?aP (fun _ hk => hk.elim) ?aF ?aO ?aB ?aS ?aL ?_; (case aP => exact k54_mkM _ _ _ (⟨2, 0, x11_2⟩ : S54)); (case aB => exact (by repeat (first | (with_reducible first | exact HB.out | apply q3 | apply q4 | apply q5) | exact HB.out))); (case aF => exact (fun _ _ => trivial)); (case aO => exact (by (with_reducible repeat (first | apply q25 | apply q26 | apply q27)); exact HO_9.out)); (case aS => exact (q7 (by repeat (first | (with_reducible first | exact HB.out | apply q3 | apply q4 | apply q5) | exact HB.out)))); (case aL => have := LMc79.out; omega); intro v345 w81 ho hb hg hat; rw [← Ny344.out] at ho; have n0_ := q13 (Kd.N_afterv (ok := (fun k_ => some k_ ≠ (v320 : Value).ownBlock)) (by (with_reducible repeat (first | apply q22 | apply q23 | apply q24)); exact HO_7.out) hg hat); have n1_ := q13 (Kd.N_afterv (ok := (fun k_ => some k_ ≠ (.slice Ao80 t316.length co80 : Value).ownBlock)) (by (with_reducible repeat (first | apply q22 | apply q23 | apply q24)); exact HO_8.out) hg hat); have n2_ := q13 (hb); have n3_ := q13 (ho); clear HO_7; clear HO_8; clear HB; clear HO_9; have HO_7 := n0_; have HO_8 := n1_; have HB := n2_; have HO346 := n3_; clear n0_ n1_ n2_ n3_; clear ho hb hg hat))
                  go_roundg kj35
                  case measure => have := HJ3.out; have := HK2.out; have := HJ13.out; have := HJ19.out; have := HJ22.out; have := HJ35.out; omega
                  case rel => exact ⟨(y344), (x10_2), (wrap64 (x11_2 + 1)), (wrap64 (x12_2 + 1)), (by first | rfl | (simp; done) | (simp [*]; done)), (by first | rfl | (simp; done) | (simp [*]; done)), (by first | rfl | (simp; done) | (simp [*]; done)), H', ⟨by have := HJ3.out; have := HK2.out; have := HJ13.out; have := HJ19.out; have := HJ22.out; have := HJ35.out; omega⟩, ⟨by (with_reducible repeat (first | apply q22 | apply q23 | apply q24)); exact HO_7.out⟩, ⟨by (with_reducible repeat (first | apply q22 | apply q23 | apply q24)); exact HO_8.out⟩, ⟨by (with_reducible repeat (first | apply q25 | apply q26 | apply q27)); exact HO346.out⟩, ⟨by repeat (first | (with_reducible first | exact HB.out | apply q3 | apply q4 | apply q5) | exact HB.out)⟩⟩
                 ·rw [if_neg c79] at H
                  exact absurd H (by simp)
        ·replace c19 := Bool.eq_false_iff.mpr c19
         subst c19
         have H1 : ((compare_Apply.f kj13 t316 x9_2 t319).bind fun bt347 => ((compare_Least.f kj13 t316 t319).bind fun bt351 => (if bt347.2 = 0 then (if bt351.2 = 0 then ((frisketlaw36_as.f kj13 bt347.1).bind fun t355 => ((frisketlaw36_as.f kj13 t319).bind fun t358 => ((frisketref36_SamePages.f kj13 t355 t358).bind fun t361 => (if t361 = true then ((compare_Cost.f kj13 bt351.1).bind fun t362 => ((compare_Cost.f kj13 x9_2).bind fun t363 => (if t362 ≤ t363 then ((frisketlaw36_sane.f kj13).bind fun t364 => (some t364)) else (none)))) else (none))))) else (none)) else (none)))) = some r := by rw [if_neg (show ¬ (false = true) by decide)] at H; exact H
         clear H
         have H := H1
         clear H1
         replace H := Option.bind_eq_some_iff.mp H
         obtain ⟨⟨t347, t350⟩, A820, H⟩ := H
         replace H : ((compare_Least.f kj13 t316 t319).bind fun bt351 => (if t350 = 0 then (if bt351.2 = 0 then ((frisketlaw36_as.f kj13 t347).bind fun t355 => ((frisketlaw36_as.f kj13 t319).bind fun t358 => ((frisketref36_SamePages.f kj13 t355 t358).bind fun t361 => (if t361 = true then ((compare_Cost.f kj13 bt351.1).bind fun t362 => ((compare_Cost.f kj13 x9_2).bind fun t363 => (if t362 ≤ t363 then ((frisketlaw36_sane.f kj13).bind fun t364 => (some t364)) else (none)))) else (none))))) else (none)) else (none))) = some r := H
         have A82 := q13 A820
         clear A820
         replace H := Option.bind_eq_some_iff.mp H
         obtain ⟨⟨t351, t352⟩, A830, H⟩ := H
         replace H : (if t350 = 0 then (if t352 = 0 then ((frisketlaw36_as.f kj13 t347).bind fun t355 => ((frisketlaw36_as.f kj13 t319).bind fun t358 => ((frisketref36_SamePages.f kj13 t355 t358).bind fun t361 => (if t361 = true then ((compare_Cost.f kj13 t351).bind fun t362 => ((compare_Cost.f kj13 x9_2).bind fun t363 => (if t362 ≤ t363 then ((frisketlaw36_sane.f kj13).bind fun t364 => (some t364)) else (none)))) else (none))))) else (none)) else (none)) = some r := H
         have A83 := q13 A830
         clear A830
         by_cases c84 : t350 = 0
         ·rw [if_pos c84] at H
          have c84b0 : (t350 == 0) = true := beq_iff_eq.mpr c84
          have c84b1 : (t350 != 0) = false := bne_eq_false_iff_eq.mpr c84
          clear c84
          by_cases c85 : t352 = 0
          ·rw [if_pos c85] at H
           have c85b0 : (t352 == 0) = true := beq_iff_eq.mpr c85
           have c85b1 : (t352 != 0) = false := bne_eq_false_iff_eq.mpr c85
           clear c85
           replace H := Option.bind_eq_some_iff.mp H
           obtain ⟨t355, A860, H⟩ := H
           replace H : ((frisketlaw36_as.f kj13 t319).bind fun t358 => ((frisketref36_SamePages.f kj13 t355 t358).bind fun t361 => (if t361 = true then ((compare_Cost.f kj13 t351).bind fun t362 => ((compare_Cost.f kj13 x9_2).bind fun t363 => (if t362 ≤ t363 then ((frisketlaw36_sane.f kj13).bind fun t364 => (some t364)) else (none)))) else (none)))) = some r := H
           have A86 := q13 A860
           clear A860
           replace H := Option.bind_eq_some_iff.mp H
           obtain ⟨t358, A870, H⟩ := H
           replace H : ((frisketref36_SamePages.f kj13 t355 t358).bind fun t361 => (if t361 = true then ((compare_Cost.f kj13 t351).bind fun t362 => ((compare_Cost.f kj13 x9_2).bind fun t363 => (if t362 ≤ t363 then ((frisketlaw36_sane.f kj13).bind fun t364 => (some t364)) else (none)))) else (none))) = some r := H
           have A87 := q13 A870
           clear A870
           replace H := Option.bind_eq_some_iff.mp H
           obtain ⟨t361, A880, H⟩ := H
           replace H : (if t361 = true then ((compare_Cost.f kj13 t351).bind fun t362 => ((compare_Cost.f kj13 x9_2).bind fun t363 => (if t362 ≤ t363 then ((frisketlaw36_sane.f kj13).bind fun t364 => (some t364)) else (none)))) else (none)) = some r := H
           have A88 := q13 A880
           clear A880
           by_cases c89 : t361 = true
           ·subst c89
            have H1 : ((compare_Cost.f kj13 t351).bind fun t362 => ((compare_Cost.f kj13 x9_2).bind fun t363 => (if t362 ≤ t363 then ((frisketlaw36_sane.f kj13).bind fun t364 => (some t364)) else (none)))) = some r := by rw [if_pos rfl] at H; exact H
            clear H
            have H := H1
            clear H1
            replace H := Option.bind_eq_some_iff.mp H
            obtain ⟨t362, A900, H⟩ := H
            replace H : ((compare_Cost.f kj13 x9_2).bind fun t363 => (if t362 ≤ t363 then ((frisketlaw36_sane.f kj13).bind fun t364 => (some t364)) else (none))) = some r := H
            have A90 := q13 A900
            clear A900
            replace H := Option.bind_eq_some_iff.mp H
            obtain ⟨t363, A910, H⟩ := H
            replace H : (if t362 ≤ t363 then ((frisketlaw36_sane.f kj13).bind fun t364 => (some t364)) else (none)) = some r := H
            have A91 := q13 A910
            clear A910
            by_cases c92 : t362 ≤ t363
            ·rw [if_pos c92] at H
             have c92b0 : decide (t362 ≤ t363) = true := decide_eq_true c92
             clear c92
             replace H := Option.bind_eq_some_iff.mp H
             obtain ⟨t364, A930, H⟩ := H
             replace H : (some t364) = some r := H
             have A93 := q13 A930
             clear A930
             obtain rfl := Option.some.inj H
             obtain ⟨Ao94, co94, eo94⟩ := Kd.N_slice HO_7.out
             subst eo94
             obtain ⟨Ao95, co95, eo95⟩ := Kd.R_slice HO_9.out
             subst eo95
             obtain ⟨Ao96, co96, eo96⟩ := Kd.N_slice HO_8.out
             subst eo96
             go_wp2_with (first | ((with_reducible refine gate_callee (f := 23) rfl ?_); refine goesL_ (some 143) rfl rfl Try.func23 (by kernel_rfl) rfl #[.slice Ao94 t316.length co94, .slice Ao95 x9_2.length co95, .slice Ao96 t319.length co96] rfl (by (try simp only [List.map_toArray, List.map_cons, List.map_nil]); first | done | rfl | (simp only [List.length_drop, List.length_take]; rfl)) ?_; (with_reducible refine (compare_Apply.calls kj13 (fun k_ => (some k_ ≠ (.slice Ao96 t319.length co96 : Value).ownBlock ∧ some k_ ≠ (.slice Ao95 x9_2.length co95 : Value).ownBlock)) _ _ t316 _ _ x9_2 (fun k_ => (some k_ ≠ (.slice Ao94 t316.length co94 : Value).ownBlock ∧ some k_ ≠ (.slice Ao95 x9_2.length co95 : Value).ownBlock)) _ _ t319 t347 t350 _ ?side1 ?side2 ?side3 ?side4 A82.out).mono ?_); (case side1 => exact Kd.N_V (HO_7.out)); (case side2 => repeat (first | exact (Kd.R_reads' HO_9.out).2.2 | (with_reducible refine q18 ?_ _) | (with_reducible refine q19 ?_ _) | (with_reducible refine q20 ?_))); (case side3 => exact (Kd.R_reads' HO_9.out).2.1); (case side4 => exact Kd.N_V (HO_8.out)); rintro e w97 ⟨v348, rfl, ho0, hb⟩; refine ⟨_, rfl, ?_⟩; have n0_ := q13 (Kd.N_elder' (by (with_reducible repeat (first | apply q22 | apply q23 | apply q24)); exact HO_7.out) (by first | exact Kd.N_base ho0 | exact Kd.R_base ho0) hb); have n1_ := q13 (Kd.N_elder' (by (with_reducible repeat (first | apply q22 | apply q23 | apply q24)); exact HO_8.out) (by first | exact Kd.N_base ho0 | exact Kd.R_base ho0) hb); have n2_ := q13 (Kd.R_below (by (with_reducible repeat (first | apply q25 | apply q26 | apply q27)); exact HO_9.out) hb); have n3_ := q13 (Kd.N_lower (Kd.N_mono (ok' := fun k_ => some k_ ≠ (.slice Ao95 x9_2.length co95 : Value).ownBlock) ho0 (fun k_ hk_ => Or.elim hk_ (fun hs_ => Or.elim hs_ (fun hs_ => hs_.2) (fun hs_ => hs_.2)) (fun hn_ => (Kd.fresh' (Kd.R_lt (by (with_reducible repeat (first | apply q25 | apply q26 | apply q27)); exact HO_9.out)) k_ hn_)))) (q7 (by repeat (first | (with_reducible first | exact HB.out | apply q3 | apply q4 | apply q5) | exact HB.out)))); have n4_ := q13 (q12 (by repeat (first | (with_reducible first | exact HB.out | apply q3 | apply q4 | apply q5) | exact HB.out)) hb); clear HO_7; clear HO_8; clear HO_9; clear HB; have HO_7 := n0_; have HO_8 := n1_; have HO_9 := n2_; have HO349 := n3_; have HB := n4_; clear n0_ n1_ n2_ n3_ n4_; (try clear hb); (try clear hb2); (try clear hk); (try clear hi); (try clear ho0)) | ((with_reducible refine gate_callee (f := 24) rfl ?_); refine goesL_ (some 149) rfl rfl Try.func24 (by kernel_rfl) rfl #[.slice Ao94 t316.length co94, .slice Ao96 t319.length co96] rfl (by (try simp only [List.map_toArray, List.map_cons, List.map_nil]); first | done | rfl | (simp only [List.length_drop, List.length_take]; rfl)) ?_; (with_reducible refine (compare_Least.calls kj13 _ _ t316 _ _ t319 t351 t352 _ ?side1 ?side2 ?side3 ?side4 A83.out).mono ?_); (case side1 => repeat (first | exact (Kd.N_reads' HO_7.out).2.2 | (with_reducible refine q18 ?_ _) | (with_reducible refine q19 ?_ _) | (with_reducible refine q20 ?_))); (case side2 => exact (Kd.N_reads' HO_7.out).2.1); (case side3 => repeat (first | exact (Kd.N_reads' HO_8.out).2.2 | (with_reducible refine q18 ?_ _) | (with_reducible refine q19 ?_ _) | (with_reducible refine q20 ?_))); (case side4 => exact (Kd.N_reads' HO_8.out).2.1); rintro e w98 ⟨v353, rfl, ho0, hb⟩; refine ⟨_, rfl, ?_⟩; have n0_ := q13 (Kd.N_elder' (by (with_reducible repeat (first | apply q22 | apply q23 | apply q24)); exact HO_7.out) (Kd.R_base ho0) hb); have n1_ := q13 (Kd.N_elder' (by (with_reducible repeat (first | apply q22 | apply q23 | apply q24)); exact HO_8.out) (Kd.R_base ho0) hb); have n2_ := q13 (Kd.R_elder' (by (with_reducible repeat (first | apply q25 | apply q26 | apply q27)); exact HO_9.out) (Kd.R_base ho0) hb); have n3_ := q13 (Kd.N_elder' (by (with_reducible repeat (first | apply q22 | apply q23 | apply q24)); exact HO349.out) (Kd.R_base ho0) hb); have n4_ := q13 (Kd.R_lower (Kd.R_new' ho0 (Kd.R_lt (by (with_reducible repeat (first | apply q25 | apply q26 | apply q27)); exact HO_9.out))) (q7 (by repeat (first | (with_reducible first | exact HB.out | apply q3 | apply q4 | apply q5) | exact HB.out)))); have n5_ := q13 (q12 (by repeat (first | (with_reducible first | exact HB.out | apply q3 | apply q4 | apply q5) | exact HB.out)) hb); clear HO_7; clear HO_8; clear HO_9; clear HO349; clear HB; have HO_7 := n0_; have HO_8 := n1_; have HO_9 := n2_; have HO349 := n3_; have HO354 := n4_; have HB := n5_; clear n0_ n1_ n2_ n3_ n4_ n5_; (try clear hb); (try clear hb2); (try clear hk); (try clear hi); (try clear ho0); obtain ⟨Ao99, co99, eo99⟩ := Kd.N_slice HO349.out; subst eo99) | (go_at_call 9; (with_reducible refine (frisketlaw36_as.calls kj13 (fun k_ => (some k_ ≠ (.slice Ao95 x9_2.length co95 : Value).ownBlock ∧ some k_ ≠ (v353 : Value).ownBlock)) _ _ t347 t355 _ ?side1 A86.out).mono ?_); (case side1 => exact Kd.N_V (HO349.out)); rintro e w100 ⟨v356, rfl, ho0, hb⟩; have n0_ := q13 (Kd.N_elder' (by (with_reducible repeat (first | apply q22 | apply q23 | apply q24)); exact HO_7.out) (by first | exact Kd.N_base ho0 | exact Kd.R_base ho0) hb); have n1_ := q13 (Kd.N_elder' (by (with_reducible repeat (first | apply q22 | apply q23 | apply q24)); exact HO_8.out) (by first | exact Kd.N_base ho0 | exact Kd.R_base ho0) hb); have n2_ := q13 (Kd.R_below (by (with_reducible repeat (first | apply q25 | apply q26 | apply q27)); exact HO_9.out) hb); have n3_ := q13 (Kd.N_elder' (by (with_reducible repeat (first | apply q22 | apply q23 | apply q24)); exact HO349.out) (by first | exact Kd.N_base ho0 | exact Kd.R_base ho0) hb); have n4_ := q13 (Kd.R_below (by (with_reducible repeat (first | apply q25 | apply q26 | apply q27)); exact HO354.out) hb); have n5_ := q13 (Kd.N_lower (Kd.N_mono (ok' := fun k_ => some k_ ≠ (.slice Ao95 x9_2.length co95 : Value).ownBlock ∧ some k_ ≠ (v353 : Value).ownBlock) ho0 (fun k_ hk_ => ⟨Or.elim hk_ (fun hs_ => hs_.1) (fun hn_ => (Kd.fresh' (Kd.R_lt (by (with_reducible repeat (first | apply q25 | apply q26 | apply q27)); exact HO_9.out)) k_ hn_)), Or.elim hk_ (fun hs_ => hs_.2) (fun hn_ => (Kd.fresh' (Kd.R_lt (by (with_reducible repeat (first | apply q25 | apply q26 | apply q27)); exact HO354.out)) k_ hn_))⟩)) (q7 (by repeat (first | (with_reducible first | exact HB.out | apply q3 | apply q4 | apply q5) | exact HB.out)))); have n6_ := q13 (q12 (by repeat (first | (with_reducible first | exact HB.out | apply q3 | apply q4 | apply q5) | exact HB.out)) hb); clear HO_7; clear HO_8; clear HO_9; clear HO349; clear HO354; clear HB; have HO_7 := n0_; have HO_8 := n1_; have HO_9 := n2_; have HO349 := n3_; have HO354 := n4_; have HO357 := n5_; have HB := n6_; clear n0_ n1_ n2_ n3_ n4_ n5_ n6_; (try clear hb); (try clear hb2); (try clear hk); (try clear hi); (try clear ho0)) | (go_at_call 9; (with_reducible refine (frisketlaw36_as.calls kj13 (fun k_ => ((((some k_ ≠ (.slice Ao94 t316.length co94 : Value).ownBlock ∧ some k_ ≠ (.slice Ao95 x9_2.length co95 : Value).ownBlock) ∧ some k_ ≠ (.slice Ao99 t347.length co99 : Value).ownBlock) ∧ some k_ ≠ (v353 : Value).ownBlock) ∧ some k_ ≠ (v356 : Value).ownBlock)) _ _ t319 t358 _ ?side1 A87.out).mono ?_); (case side1 => exact Kd.N_V (HO_8.out)); rintro e w101 ⟨v359, rfl, ho0, hb⟩; have n0_ := q13 (Kd.N_elder' (by (with_reducible repeat (first | apply q22 | apply q23 | apply q24)); exact HO_7.out) (by first | exact Kd.N_base ho0 | exact Kd.R_base ho0) hb); have n1_ := q13 (Kd.N_elder' (by (with_reducible repeat (first | apply q22 | apply q23 | apply q24)); exact HO_8.out) (by first | exact Kd.N_base ho0 | exact Kd.R_base ho0) hb); have n2_ := q13 (Kd.R_below (by (with_reducible repeat (first | apply q25 | apply q26 | apply q27)); exact HO_9.out) hb); have n3_ := q13 (Kd.N_elder' (by (with_reducible repeat (first | apply q22 | apply q23 | apply q24)); exact HO349.out) (by first | exact Kd.N_base ho0 | exact Kd.R_base ho0) hb); have n4_ := q13 (Kd.R_below (by (with_reducible repeat (first | apply q25 | apply q26 | apply q27)); exact HO354.out) hb); have n5_ := q13 (Kd.N_elder' (by (with_reducible repeat (first | apply q22 | apply q23 | apply q24)); exact HO357.out) (by first | exact Kd.N_base ho0 | exact Kd.R_base ho0) hb); have n6_ := q13 (Kd.N_lower (Kd.N_mono (ok' := fun k_ => some k_ ≠ (.slice Ao94 t316.length co94 : Value).ownBlock ∧ some k_ ≠ (.slice Ao95 x9_2.length co95 : Value).ownBlock ∧ some k_ ≠ (.slice Ao99 t347.length co99 : Value).ownBlock ∧ some k_ ≠ (v353 : Value).ownBlock ∧ some k_ ≠ (v356 : Value).ownBlock) ho0 (fun k_ hk_ => ⟨Or.elim hk_ (fun hs_ => hs_.1.1.1.1) (fun hn_ => (Kd.fresh' (Kd.N_lt (by (with_reducible repeat (first | apply q22 | apply q23 | apply q24)); exact HO_7.out)) k_ hn_)), Or.elim hk_ (fun hs_ => hs_.1.1.1.2) (fun hn_ => (Kd.fresh' (Kd.R_lt (by (with_reducible repeat (first | apply q25 | apply q26 | apply q27)); exact HO_9.out)) k_ hn_)), Or.elim hk_ (fun hs_ => hs_.1.1.2) (fun hn_ => (Kd.fresh' (Kd.N_lt (by (with_reducible repeat (first | apply q22 | apply q23 | apply q24)); exact HO349.out)) k_ hn_)), Or.elim hk_ (fun hs_ => hs_.1.2) (fun hn_ => (Kd.fresh' (Kd.R_lt (by (with_reducible repeat (first | apply q25 | apply q26 | apply q27)); exact HO354.out)) k_ hn_)), Or.elim hk_ (fun hs_ => hs_.2) (fun hn_ => (Kd.fresh' (Kd.N_lt (by (with_reducible repeat (first | apply q22 | apply q23 | apply q24)); exact HO357.out)) k_ hn_))⟩)) (q7 (by repeat (first | (with_reducible first | exact HB.out | apply q3 | apply q4 | apply q5) | exact HB.out)))); have n7_ := q13 (q12 (by repeat (first | (with_reducible first | exact HB.out | apply q3 | apply q4 | apply q5) | exact HB.out)) hb); clear HO_7; clear HO_8; clear HO_9; clear HO349; clear HO354; clear HO357; clear HB; have HO_7 := n0_; have HO_8 := n1_; have HO_9 := n2_; have HO349 := n3_; have HO354 := n4_; have HO357 := n5_; have HO360 := n6_; have HB := n7_; clear n0_ n1_ n2_ n3_ n4_ n5_ n6_ n7_; (try clear hb); (try clear hb2); (try clear hk); (try clear hi); (try clear ho0); obtain ⟨Ao102, co102, eo102⟩ := Kd.N_slice HO357.out; subst eo102; obtain ⟨Ao103, co103, eo103⟩ := Kd.N_slice HO360.out; subst eo103) | (go_at_call 10; (with_reducible refine (frisketref36_SamePages.calls kj13 _ _ t355 _ _ t358 true _ ?side1 ?side2 ?side3 ?side4 A88.out).mono ?_); (case side1 => repeat (first | exact (Kd.N_reads' HO357.out).2.2 | (with_reducible refine q18 ?_ _) | (with_reducible refine q19 ?_ _) | (with_reducible refine q20 ?_))); (case side2 => exact (Kd.N_reads' HO357.out).2.1); (case side3 => repeat (first | exact (Kd.N_reads' HO360.out).2.2 | (with_reducible refine q18 ?_ _) | (with_reducible refine q19 ?_ _) | (with_reducible refine q20 ?_))); (case side4 => exact (Kd.N_reads' HO360.out).2.1); rintro e w104 ⟨rfl, hb⟩; have n0_ := q13 (Kd.N_below (by (with_reducible repeat (first | apply q22 | apply q23 | apply q24)); exact HO_7.out) hb); have n1_ := q13 (Kd.N_below (by (with_reducible repeat (first | apply q22 | apply q23 | apply q24)); exact HO_8.out) hb); have n2_ := q13 (Kd.R_below (by (with_reducible repeat (first | apply q25 | apply q26 | apply q27)); exact HO_9.out) hb); have n3_ := q13 (Kd.N_below (by (with_reducible repeat (first | apply q22 | apply q23 | apply q24)); exact HO349.out) hb); have n4_ := q13 (Kd.R_below (by (with_reducible repeat (first | apply q25 | apply q26 | apply q27)); exact HO354.out) hb); have n5_ := q13 (Kd.N_below (by (with_reducible repeat (first | apply q22 | apply q23 | apply q24)); exact HO357.out) hb); have n6_ := q13 (Kd.N_below (by (with_reducible repeat (first | apply q22 | apply q23 | apply q24)); exact HO360.out) hb); have n7_ := q13 (q12 (by repeat (first | (with_reducible first | exact HB.out | apply q3 | apply q4 | apply q5) | exact HB.out)) hb); clear HO_7; clear HO_8; clear HO_9; clear HO349; clear HO354; clear HO357; clear HO360; clear HB; have HO_7 := n0_; have HO_8 := n1_; have HO_9 := n2_; have HO349 := n3_; have HO354 := n4_; have HO357 := n5_; have HO360 := n6_; have HB := n7_; clear n0_ n1_ n2_ n3_ n4_ n5_ n6_ n7_; (try clear hb); (try clear hb2); (try clear hk); (try clear hi); obtain ⟨Ao105, co105, eo105⟩ := Kd.R_slice HO354.out; subst eo105) | (go_at_call 25; (with_reducible refine (compare_Cost.calls kj13 _ _ t351 t362 _ ?side1 ?side2 A90.out).mono ?_); (case side1 => repeat (first | exact (Kd.R_reads' HO354.out).2.2 | (with_reducible refine q18 ?_ _) | (with_reducible refine q19 ?_ _) | (with_reducible refine q20 ?_))); (case side2 => exact (Kd.R_reads' HO354.out).2.1); rintro e w106 ⟨rfl, hb⟩; have n0_ := q13 (Kd.N_below (by (with_reducible repeat (first | apply q22 | apply q23 | apply q24)); exact HO_7.out) hb); have n1_ := q13 (Kd.N_below (by (with_reducible repeat (first | apply q22 | apply q23 | apply q24)); exact HO_8.out) hb); have n2_ := q13 (Kd.R_below (by (with_reducible repeat (first | apply q25 | apply q26 | apply q27)); exact HO_9.out) hb); have n3_ := q13 (Kd.N_below (by (with_reducible repeat (first | apply q22 | apply q23 | apply q24)); exact HO349.out) hb); have n4_ := q13 (Kd.R_below (by (with_reducible repeat (first | apply q25 | apply q26 | apply q27)); exact HO354.out) hb); have n5_ := q13 (Kd.N_below (by (with_reducible repeat (first | apply q22 | apply q23 | apply q24)); exact HO357.out) hb); have n6_ := q13 (Kd.N_below (by (with_reducible repeat (first | apply q22 | apply q23 | apply q24)); exact HO360.out) hb); have n7_ := q13 (q12 (by repeat (first | (with_reducible first | exact HB.out | apply q3 | apply q4 | apply q5) | exact HB.out)) hb); clear HO_7; clear HO_8; clear HO_9; clear HO349; clear HO354; clear HO357; clear HO360; clear HB; have HO_7 := n0_; have HO_8 := n1_; have HO_9 := n2_; have HO349 := n3_; have HO354 := n4_; have HO357 := n5_; have HO360 := n6_; have HB := n7_; clear n0_ n1_ n2_ n3_ n4_ n5_ n6_ n7_; (try clear hb); (try clear hb2); (try clear hk); (try clear hi)) | (go_at_call 25; (with_reducible refine (compare_Cost.calls kj13 _ _ x9_2 t363 _ ?side1 ?side2 A91.out).mono ?_); (case side1 => repeat (first | exact (Kd.R_reads' HO_9.out).2.2 | (with_reducible refine q18 ?_ _) | (with_reducible refine q19 ?_ _) | (with_reducible refine q20 ?_))); (case side2 => exact (Kd.R_reads' HO_9.out).2.1); rintro e w107 ⟨rfl, hb⟩; have n0_ := q13 (Kd.N_below (by (with_reducible repeat (first | apply q22 | apply q23 | apply q24)); exact HO_7.out) hb); have n1_ := q13 (Kd.N_below (by (with_reducible repeat (first | apply q22 | apply q23 | apply q24)); exact HO_8.out) hb); have n2_ := q13 (Kd.R_below (by (with_reducible repeat (first | apply q25 | apply q26 | apply q27)); exact HO_9.out) hb); have n3_ := q13 (Kd.N_below (by (with_reducible repeat (first | apply q22 | apply q23 | apply q24)); exact HO349.out) hb); have n4_ := q13 (Kd.R_below (by (with_reducible repeat (first | apply q25 | apply q26 | apply q27)); exact HO354.out) hb); have n5_ := q13 (Kd.N_below (by (with_reducible repeat (first | apply q22 | apply q23 | apply q24)); exact HO357.out) hb); have n6_ := q13 (Kd.N_below (by (with_reducible repeat (first | apply q22 | apply q23 | apply q24)); exact HO360.out) hb); have n7_ := q13 (q12 (by repeat (first | (with_reducible first | exact HB.out | apply q3 | apply q4 | apply q5) | exact HB.out)) hb); clear HO_7; clear HO_8; clear HO_9; clear HO349; clear HO354; clear HO357; clear HO360; clear HB; have HO_7 := n0_; have HO_8 := n1_; have HO_9 := n2_; have HO349 := n3_; have HO354 := n4_; have HO357 := n5_; have HO360 := n6_; have HB := n7_; clear n0_ n1_ n2_ n3_ n4_ n5_ n6_ n7_; (try clear hb); (try clear hb2); (try clear hk); (try clear hi)) | (go_at_call 7; (with_reducible refine (frisketlaw36_sane.calls kj13  t364 _ A93.out).mono ?_); rintro e w108 ⟨rfl, hb⟩; have n0_ := q13 (Kd.N_below (by (with_reducible repeat (first | apply q22 | apply q23 | apply q24)); exact HO_7.out) hb); have n1_ := q13 (Kd.N_below (by (with_reducible repeat (first | apply q22 | apply q23 | apply q24)); exact HO_8.out) hb); have n2_ := q13 (Kd.R_below (by (with_reducible repeat (first | apply q25 | apply q26 | apply q27)); exact HO_9.out) hb); have n3_ := q13 (Kd.N_below (by (with_reducible repeat (first | apply q22 | apply q23 | apply q24)); exact HO349.out) hb); have n4_ := q13 (Kd.R_below (by (with_reducible repeat (first | apply q25 | apply q26 | apply q27)); exact HO354.out) hb); have n5_ := q13 (Kd.N_below (by (with_reducible repeat (first | apply q22 | apply q23 | apply q24)); exact HO357.out) hb); have n6_ := q13 (Kd.N_below (by (with_reducible repeat (first | apply q22 | apply q23 | apply q24)); exact HO360.out) hb); have n7_ := q13 (q12 (by repeat (first | (with_reducible first | exact HB.out | apply q3 | apply q4 | apply q5) | exact HB.out)) hb); clear HO_7; clear HO_8; clear HO_9; clear HO349; clear HO354; clear HO357; clear HO360; clear HB; have HO_7 := n0_; have HO_8 := n1_; have HO_9 := n2_; have HO349 := n3_; have HO354 := n4_; have HO357 := n5_; have HO360 := n6_; have HB := n7_; clear n0_ n1_ n2_ n3_ n4_ n5_ n6_ n7_; (try clear hb); (try clear hb2); (try clear hk); (try clear hi)))
             go_ret
             exact ⟨by first | rfl | (simp [errW_none, errW_some] <;> rfl) | (simp [*, errW_none, errW_some] <;> rfl), by repeat (first | (with_reducible first | exact HB.out | apply q3 | apply q4 | apply q5) | exact HB.out)⟩
            ·rw [if_neg c92] at H
             exact absurd H (by simp)
           ·replace c89 := Bool.eq_false_iff.mpr c89
            subst c89
            have H1 : (none) = some r := by rw [if_neg (show ¬ (false = true) by decide)] at H; exact H
            clear H
            have H := H1
            clear H1
            exact absurd H (by simp)
          ·rw [if_neg c85] at H
           exact absurd H (by simp)
         ·rw [if_neg c84] at H
          exact absurd H (by simp)

/-- THE ONE PURE STATEMENT of frisketlaw36_CompareBetter: yours. -/
def frisketlaw36_CompareBetter.Pure : Prop := ∀ (l0 : List Int) (l1 : List Int) (l2 : List Int), l0.length ≤ maxLen → l0.length * 1 ≤ 140737488351232 → (∀ x ∈ l0, (Lit.int .u8 x).wf = true) → l1.length ≤ maxLen → l1.length * 1 ≤ 140737488351232 → (∀ x ∈ l1, (Lit.int .u8 x).wf = true) → l2.length ≤ maxLen → l2.length * 1 ≤ 140737488351232 → (∀ x ∈ l2, (Lit.int .u8 x).wf = true) → ∃ k, frisketlaw36_CompareBetter.f k l0 l1 l2 = some true
theorem frisketlaw36_CompareBetter.walk (P : frisketlaw36_CompareBetter.Pure) (a0 : Option Addr) (len0 cap0 : Nat) (z0 : List Int) (a1 : Option Addr) (len1 cap1 : Nat) (z1 : List Int) (a2 : Option Addr) (len2 cap2 : Nat) (z2 : List Int) (w : World) (w0 : (a0 = none ∧ len0 = 0 ∧ cap0 = 0 ∧ z0 = []) ∨ ∃ x, a0 = some x ∧ len0 ≤ cap0 ∧ cap0 ≤ maxLen ∧ z0.length = cap0 ∧ (∀ i, i < z0.length → w.cell? (x.add i) = some (.int .u8 (z0.getD i 0))) ∧ ∀ n ∈ z0, (Lit.int .u8 n).wf = true) (y0 : len0 * 1 ≤ 140737488351232) (w1 : (a1 = none ∧ len1 = 0 ∧ cap1 = 0 ∧ z1 = []) ∨ ∃ x, a1 = some x ∧ len1 ≤ cap1 ∧ cap1 ≤ maxLen ∧ z1.length = cap1 ∧ (∀ i, i < z1.length → w.cell? (x.add i) = some (.int .u8 (z1.getD i 0))) ∧ ∀ n ∈ z1, (Lit.int .u8 n).wf = true) (y1 : len1 * 1 ≤ 140737488351232) (w2 : (a2 = none ∧ len2 = 0 ∧ cap2 = 0 ∧ z2 = []) ∨ ∃ x, a2 = some x ∧ len2 ≤ cap2 ∧ cap2 ≤ maxLen ∧ z2.length = cap2 ∧ (∀ i, i < z2.length → w.cell? (x.add i) = some (.int .u8 (z2.getD i 0))) ∧ ∀ n ∈ z2, (Lit.int .u8 n).wf = true) (y2 : len2 * 1 ≤ 140737488351232) :
  Calls Try.prog 5 #[.slice a0 len0 cap0, .slice a1 len1 cap1, .slice a2 len2 cap2] w fun e w' => e = .returned (.bool true) ∧ Below w.heap.size w w' := by
 obtain ⟨l0, rfl, hr0, hm0, hw0, hc0⟩ := ReadsInt.ofRowC w0
 obtain ⟨l1, rfl, hr1, hm1, hw1, hc1⟩ := ReadsInt.ofRowC w1
 obtain ⟨l2, rfl, hr2, hm2, hw2, hc2⟩ := ReadsInt.ofRowC w2
 obtain ⟨k, h⟩ := P l0 l1 l2 hm0 y0 hw0 hm1 y1 hw1 hm2 y2 hw2
 refine (frisketlaw36_CompareBetter.calls k _ _ l0 _ _ l1 _ _ l2 true w (Kd.C_of_reads (d := (0 : Int)) (h1 := fun _ => rfl) hr0) hc0 (Kd.C_of_reads (d := (0 : Int)) (h1 := fun _ => rfl) hr1) hc1 (Kd.C_of_reads (d := (0 : Int)) (h1 := fun _ => rfl) hr2) hc2 h).mono ?_
 rintro e w' ⟨rfl, hd⟩
 exact ⟨rfl, hd⟩

end Go.Proofs.Ytgjmljjnminefaa.QCompareBetter
