import Derived.Lib.SliceRun
import Derived.Test.YtgjmljjnminefaaQCPx0
import Derived.Test.YtgjmljjnminefaaQCPx5
import Derived.Test.YtgjmljjnminefaaFGrowCP
import Derived.Test.YtgjmljjnminefaaArrEq
import Derived.Test.YtgjmljjnminefaaZip2
import Derived.Test.YtgjmljjnminefaaZip
namespace Go.Proofs.Ytgjmljjnminefaa.QCP
open Go.Proofs.Ytgjmljjnminefaa.Zip Go.Proofs.Ytgjmljjnminefaa.Zip2 Go.RowKit Go.Proofs.YtgjmljjnminefaaW.PrintWords Go.Proofs.YtgjmljjnminefaaW.PrintLast Go.Proofs.YtgjmljjnminefaaW.PrintMore
attribute [local go_sem] max2_int min2_int max_two min_two max_three min_three max_four min_four   -- for this text's walks alone
set_option linter.unusedVariables false
set_option linter.unusedSimpArgs false

mutual
def compare_tabled.l0 : Nat → List (S24) → List (S24) → Int → Int → List (List Int) → List (List Bool) → Option ((List (List Int)) × (List (List Bool)))
 | 0, _, _, _, _, _, _ => none
 | k + 1, x0, x1, x12, x13, x128000, x128001 => if x13 < x12 then (if 0 ≤ (wrap64 ((x1.length : Int) + 1)) then (if (wrap64 ((x1.length : Int) + 1) : Int).toNat ≤ 35184372088832 then (if x128000.length < 5864062014805 then (if (wrap64 ((x1.length : Int) + 1) : Int).toNat ≤ 281474976710656 then (if x128001.length < 5864062014805 then (compare_tabled.l0 k x0 x1 x12 (wrap64 (x13 + 1)) (x128000 ++ [(List.replicate (wrap64 ((x1.length : Int) + 1) : Int).toNat 0)]) (x128001 ++ [(List.replicate (wrap64 ((x1.length : Int) + 1) : Int).toNat false)])) else (none)) else (none)) else (none)) else (none)) else (none)) else (compare_tabled.l1 k x0 x1 (x0.length : Int) x128000 x128001)
def compare_tabled.l1 : Nat → List (S24) → List (S24) → Int → List (List Int) → List (List Bool) → Option ((List (List Int)) × (List (List Bool)))
 | 0, _, _, _, _, _ => none
 | k + 1, x0, x1, x6, x128000, x128001 => if x6 ≥ 0 then (compare_tabled.l2 k x0 x1 x6 (x1.length : Int) x128000 x128001) else (some (x128000, x128001))
def compare_tabled.l2 : Nat → List (S24) → List (S24) → Int → Int → List (List Int) → List (List Bool) → Option ((List (List Int)) × (List (List Bool)))
 | 0, _, _, _, _, _, _ => none
 | k + 1, x0, x1, x6, x7, x128000, x128001 => if x7 ≥ 0 then (if x6 = (x0.length : Int) then (compare_tabled.j3 k x0 x1 x6 x7 (wrap64 ((wrap64 ((x0.length : Int) + (x1.length : Int))) + 1)) (x7 == (x1.length : Int)) x128000 x128001) else (compare_tabled.j3 k x0 x1 x6 x7 (wrap64 ((wrap64 ((x0.length : Int) + (x1.length : Int))) + 1)) false x128000 x128001)) else (compare_tabled.l1 k x0 x1 (wrap64 (x6 - 1)) x128000 x128001)
def compare_tabled.j3 : Nat → List (S24) → List (S24) → Int → Int → Int → Bool → List (List Int) → List (List Bool) → Option ((List (List Int)) × (List (List Bool)))
 | 0, _, _, _, _, _, _, _, _ => none
 | k + 1, x0, x1, x6, x7, x8, x61, x128000, x128001 => if x61 = true then (compare_tabled.j4 k x0 x1 x6 x7 0 x128000 x128001) else (compare_tabled.j4 k x0 x1 x6 x7 x8 x128000 x128001)
def compare_tabled.j4 : Nat → List (S24) → List (S24) → Int → Int → Int → List (List Int) → List (List Bool) → Option ((List (List Int)) × (List (List Bool)))
 | 0, _, _, _, _, _, _, _ => none
 | k + 1, x0, x1, x6, x7, x8, x128000, x128001 => if x6 < (x0.length : Int) then (if 0 ≤ (wrap64 (x6 + 1)) then (if (wrap64 (x6 + 1)) < (x128000.length : Int) then (if 0 ≤ x7 then (if x7 < ((rd_L2 x128000 (wrap64 (x6 + 1))).length : Int) then (compare_tabled.j5 k x0 x1 x6 x7 (mn x8 (wrap64 (1 + (rd (rd_L2 x128000 (wrap64 (x6 + 1))) x7)))) x128000 x128001) else (none)) else (none)) else (none)) else (none)) else (compare_tabled.j5 k x0 x1 x6 x7 x8 x128000 x128001)
def compare_tabled.j5 : Nat → List (S24) → List (S24) → Int → Int → Int → List (List Int) → List (List Bool) → Option ((List (List Int)) × (List (List Bool)))
 | 0, _, _, _, _, _, _, _ => none
 | k + 1, x0, x1, x6, x7, x8, x128000, x128001 => if x7 < (x1.length : Int) then (if 0 ≤ x6 then (if x6 < (x128000.length : Int) then (if 0 ≤ (wrap64 (x7 + 1)) then (if (wrap64 (x7 + 1)) < ((rd_L2 x128000 x6).length : Int) then (compare_tabled.j6 k x0 x1 x6 x7 (mn x8 (wrap64 (1 + (rd (rd_L2 x128000 x6) (wrap64 (x7 + 1)))))) x128000 x128001) else (none)) else (none)) else (none)) else (none)) else (compare_tabled.j6 k x0 x1 x6 x7 x8 x128000 x128001)
def compare_tabled.j6 : Nat → List (S24) → List (S24) → Int → Int → Int → List (List Int) → List (List Bool) → Option ((List (List Int)) × (List (List Bool)))
 | 0, _, _, _, _, _, _, _ => none
 | k + 1, x0, x1, x6, x7, x8, x128000, x128001 => if x6 < (x0.length : Int) then (if x7 < (x1.length : Int) then (if 0 ≤ x6 then (if 0 ≤ x7 then (compare_tabled.j7 k x0 x1 x6 x7 x8 (((rd_T24 x0 x6).f0) == ((rd_T24 x1 x7).f0)) x128000 x128001) else (none)) else (none)) else (compare_tabled.j7 k x0 x1 x6 x7 x8 false x128000 x128001)) else (compare_tabled.j7 k x0 x1 x6 x7 x8 false x128000 x128001)
def compare_tabled.j7 : Nat → List (S24) → List (S24) → Int → Int → Int → Bool → List (List Int) → List (List Bool) → Option ((List (List Int)) × (List (List Bool)))
 | 0, _, _, _, _, _, _, _, _ => none
 | k + 1, x0, x1, x6, x7, x8, x116, x128000, x128001 => if x116 = true then (if 0 ≤ x6 then (if x6 < (x128001.length : Int) then (if x6 < (x0.length : Int) then (if 0 ≤ x7 then (if x7 < (x1.length : Int) then ((compare_Same.f k ((rd_T24 x0 x6).f0) ((rd_T24 x0 x6).f1) ((rd_T24 x1 x7).f0) ((rd_T24 x1 x7).f1)).bind fun t149 => (if x7 < ((rd_L7 x128001 x6).length : Int) then ((some (x128001.set (x6 : Int).toNat ((rd_L7 x128001 x6).set (x7 : Int).toNat t149) : List (List Bool))).bind fun y152 => (if x7 < ((rd_L7 y152 x6).length : Int) then (if rdOf false (rd_L7 y152 x6) x7 = true then (if 0 ≤ (wrap64 (x6 + 1)) then (if (wrap64 (x6 + 1)) < (x128000.length : Int) then (if 0 ≤ (wrap64 (x7 + 1)) then (if (wrap64 (x7 + 1)) < ((rd_L2 x128000 (wrap64 (x6 + 1))).length : Int) then (if x6 < (x128000.length : Int) then (if x7 < ((rd_L2 x128000 x6).length : Int) then (compare_tabled.l2 k x0 x1 x6 (wrap64 (x7 - 1)) (x128000.set (x6 : Int).toNat ((rd_L2 x128000 x6).set (x7 : Int).toNat (mn (mn x8 (rd (rd_L2 x128000 (wrap64 (x6 + 1))) (wrap64 (x7 + 1)))) (wrap64 (1 + (rd (rd_L2 x128000 (wrap64 (x6 + 1))) (wrap64 (x7 + 1)))))))) y152) else (none)) else (none)) else (none)) else (none)) else (none)) else (none)) else (if 0 ≤ (wrap64 (x6 + 1)) then (if (wrap64 (x6 + 1)) < (x128000.length : Int) then (if 0 ≤ (wrap64 (x7 + 1)) then (if (wrap64 (x7 + 1)) < ((rd_L2 x128000 (wrap64 (x6 + 1))).length : Int) then (if x6 < (x128000.length : Int) then (if x7 < ((rd_L2 x128000 x6).length : Int) then (compare_tabled.l2 k x0 x1 x6 (wrap64 (x7 - 1)) (x128000.set (x6 : Int).toNat ((rd_L2 x128000 x6).set (x7 : Int).toNat (mn x8 (wrap64 (1 + (rd (rd_L2 x128000 (wrap64 (x6 + 1))) (wrap64 (x7 + 1)))))))) y152) else (none)) else (none)) else (none)) else (none)) else (none)) else (none))) else (none))) else (none))) else (none)) else (none)) else (none)) else (none)) else (none)) else (if 0 ≤ x6 then (if x6 < (x128000.length : Int) then (if 0 ≤ x7 then (if x7 < ((rd_L2 x128000 x6).length : Int) then (compare_tabled.l2 k x0 x1 x6 (wrap64 (x7 - 1)) (x128000.set (x6 : Int).toNat ((rd_L2 x128000 x6).set (x7 : Int).toNat x8)) x128001) else (none)) else (none)) else (none)) else (none))
end
def compare_tabled.f (k : Nat) (l0 : List (S24)) (l1 : List (S24)) : Option ((List (List Int)) × (List (List Bool))) := compare_tabled.l0 k l0 l1 (wrap64 ((l0.length : Int) + 1)) 0 ([] : List (List Int)) ([] : List (List Bool))
theorem compare_tabled.mono_l : ∀ k, (∀ y0 y1 y2 y3 y4 y5, LeO (compare_tabled.l0 k y0 y1 y2 y3 y4 y5) (compare_tabled.l0 (k + 1) y0 y1 y2 y3 y4 y5)) ∧ (∀ y0 y1 y2 y3 y4, LeO (compare_tabled.l1 k y0 y1 y2 y3 y4) (compare_tabled.l1 (k + 1) y0 y1 y2 y3 y4)) ∧ (∀ y0 y1 y2 y3 y4 y5, LeO (compare_tabled.l2 k y0 y1 y2 y3 y4 y5) (compare_tabled.l2 (k + 1) y0 y1 y2 y3 y4 y5)) ∧ (∀ y0 y1 y2 y3 y4 y5 y6 y7, LeO (compare_tabled.j3 k y0 y1 y2 y3 y4 y5 y6 y7) (compare_tabled.j3 (k + 1) y0 y1 y2 y3 y4 y5 y6 y7)) ∧ (∀ y0 y1 y2 y3 y4 y5 y6, LeO (compare_tabled.j4 k y0 y1 y2 y3 y4 y5 y6) (compare_tabled.j4 (k + 1) y0 y1 y2 y3 y4 y5 y6)) ∧ (∀ y0 y1 y2 y3 y4 y5 y6, LeO (compare_tabled.j5 k y0 y1 y2 y3 y4 y5 y6) (compare_tabled.j5 (k + 1) y0 y1 y2 y3 y4 y5 y6)) ∧ (∀ y0 y1 y2 y3 y4 y5 y6, LeO (compare_tabled.j6 k y0 y1 y2 y3 y4 y5 y6) (compare_tabled.j6 (k + 1) y0 y1 y2 y3 y4 y5 y6)) ∧ (∀ y0 y1 y2 y3 y4 y5 y6 y7, LeO (compare_tabled.j7 k y0 y1 y2 y3 y4 y5 y6 y7) (compare_tabled.j7 (k + 1) y0 y1 y2 y3 y4 y5 y6 y7))
 | 0 => ⟨fun _ _ _ _ _ _ r h => by simp [compare_tabled.l0] at h, fun _ _ _ _ _ r h => by simp [compare_tabled.l1] at h, fun _ _ _ _ _ _ r h => by simp [compare_tabled.l2] at h, fun _ _ _ _ _ _ _ _ r h => by simp [compare_tabled.j3] at h, fun _ _ _ _ _ _ _ r h => by simp [compare_tabled.j4] at h, fun _ _ _ _ _ _ _ r h => by simp [compare_tabled.j5] at h, fun _ _ _ _ _ _ _ r h => by simp [compare_tabled.j6] at h, fun _ _ _ _ _ _ _ _ r h => by simp [compare_tabled.j7] at h⟩
 | k + 1 => by
  obtain ⟨ih0, ih1, ih2, ih3, ih4, ih5, ih6, ih7⟩ := compare_tabled.mono_l k
  refine ⟨?_, ?_, ?_, ?_, ?_, ?_, ?_, ?_⟩
  ·intro y0 y1 y2 y3 y4 y5
   unfold compare_tabled.l0
   repeat' first
   | (with_reducible exact ih0 _ _ _ _ _ _)
   | (with_reducible exact ih1 _ _ _ _ _)
   | (with_reducible exact ih2 _ _ _ _ _ _)
   | (with_reducible exact ih3 _ _ _ _ _ _ _ _)
   | (with_reducible exact ih4 _ _ _ _ _ _ _)
   | (with_reducible exact ih5 _ _ _ _ _ _ _)
   | (with_reducible exact ih6 _ _ _ _ _ _ _)
   | (with_reducible exact ih7 _ _ _ _ _ _ _ _)
   | (with_reducible exact compare_Same.mono _ _ _ _ _)
   | (with_reducible exact LeO.refl _)
   | (with_reducible exact LeO.none _)
   | (with_reducible refine LeO.ite ?_ ?_)
   | (with_reducible refine LeO.bind ?_ (fun _ => ?_))
   | exact ih0 _ _ _ _ _ _
   | exact ih1 _ _ _ _ _
   | exact ih2 _ _ _ _ _ _
   | exact ih3 _ _ _ _ _ _ _ _
   | exact ih4 _ _ _ _ _ _ _
   | exact ih5 _ _ _ _ _ _ _
   | exact ih6 _ _ _ _ _ _ _
   | exact ih7 _ _ _ _ _ _ _ _
   | exact compare_Same.mono _ _ _ _ _
   | exact LeO.none _
   | refine LeO.ite ?_ ?_
   | refine LeO.bind ?_ (fun _ => ?_)
  ·intro y0 y1 y2 y3 y4
   unfold compare_tabled.l1
   repeat' first
   | (with_reducible exact ih0 _ _ _ _ _ _)
   | (with_reducible exact ih1 _ _ _ _ _)
   | (with_reducible exact ih2 _ _ _ _ _ _)
   | (with_reducible exact ih3 _ _ _ _ _ _ _ _)
   | (with_reducible exact ih4 _ _ _ _ _ _ _)
   | (with_reducible exact ih5 _ _ _ _ _ _ _)
   | (with_reducible exact ih6 _ _ _ _ _ _ _)
   | (with_reducible exact ih7 _ _ _ _ _ _ _ _)
   | (with_reducible exact compare_Same.mono _ _ _ _ _)
   | (with_reducible exact LeO.refl _)
   | (with_reducible exact LeO.none _)
   | (with_reducible refine LeO.ite ?_ ?_)
   | (with_reducible refine LeO.bind ?_ (fun _ => ?_))
   | exact ih0 _ _ _ _ _ _
   | exact ih1 _ _ _ _ _
   | exact ih2 _ _ _ _ _ _
   | exact ih3 _ _ _ _ _ _ _ _
   | exact ih4 _ _ _ _ _ _ _
   | exact ih5 _ _ _ _ _ _ _
   | exact ih6 _ _ _ _ _ _ _
   | exact ih7 _ _ _ _ _ _ _ _
   | exact compare_Same.mono _ _ _ _ _
   | exact LeO.none _
   | refine LeO.ite ?_ ?_
   | refine LeO.bind ?_ (fun _ => ?_)
  ·intro y0 y1 y2 y3 y4 y5
   unfold compare_tabled.l2
   repeat' first
   | (with_reducible exact ih0 _ _ _ _ _ _)
   | (with_reducible exact ih1 _ _ _ _ _)
   | (with_reducible exact ih2 _ _ _ _ _ _)
   | (with_reducible exact ih3 _ _ _ _ _ _ _ _)
   | (with_reducible exact ih4 _ _ _ _ _ _ _)
   | (with_reducible exact ih5 _ _ _ _ _ _ _)
   | (with_reducible exact ih6 _ _ _ _ _ _ _)
   | (with_reducible exact ih7 _ _ _ _ _ _ _ _)
   | (with_reducible exact compare_Same.mono _ _ _ _ _)
   | (with_reducible exact LeO.refl _)
   | (with_reducible exact LeO.none _)
   | (with_reducible refine LeO.ite ?_ ?_)
   | (with_reducible refine LeO.bind ?_ (fun _ => ?_))
   | exact ih0 _ _ _ _ _ _
   | exact ih1 _ _ _ _ _
   | exact ih2 _ _ _ _ _ _
   | exact ih3 _ _ _ _ _ _ _ _
   | exact ih4 _ _ _ _ _ _ _
   | exact ih5 _ _ _ _ _ _ _
   | exact ih6 _ _ _ _ _ _ _
   | exact ih7 _ _ _ _ _ _ _ _
   | exact compare_Same.mono _ _ _ _ _
   | exact LeO.none _
   | refine LeO.ite ?_ ?_
   | refine LeO.bind ?_ (fun _ => ?_)
  ·intro y0 y1 y2 y3 y4 y5 y6 y7
   unfold compare_tabled.j3
   repeat' first
   | (with_reducible exact ih0 _ _ _ _ _ _)
   | (with_reducible exact ih1 _ _ _ _ _)
   | (with_reducible exact ih2 _ _ _ _ _ _)
   | (with_reducible exact ih3 _ _ _ _ _ _ _ _)
   | (with_reducible exact ih4 _ _ _ _ _ _ _)
   | (with_reducible exact ih5 _ _ _ _ _ _ _)
   | (with_reducible exact ih6 _ _ _ _ _ _ _)
   | (with_reducible exact ih7 _ _ _ _ _ _ _ _)
   | (with_reducible exact compare_Same.mono _ _ _ _ _)
   | (with_reducible exact LeO.refl _)
   | (with_reducible exact LeO.none _)
   | (with_reducible refine LeO.ite ?_ ?_)
   | (with_reducible refine LeO.bind ?_ (fun _ => ?_))
   | exact ih0 _ _ _ _ _ _
   | exact ih1 _ _ _ _ _
   | exact ih2 _ _ _ _ _ _
   | exact ih3 _ _ _ _ _ _ _ _
   | exact ih4 _ _ _ _ _ _ _
   | exact ih5 _ _ _ _ _ _ _
   | exact ih6 _ _ _ _ _ _ _
   | exact ih7 _ _ _ _ _ _ _ _
   | exact compare_Same.mono _ _ _ _ _
   | exact LeO.none _
   | refine LeO.ite ?_ ?_
   | refine LeO.bind ?_ (fun _ => ?_)
  ·intro y0 y1 y2 y3 y4 y5 y6
   unfold compare_tabled.j4
   repeat' first
   | (with_reducible exact ih0 _ _ _ _ _ _)
   | (with_reducible exact ih1 _ _ _ _ _)
   | (with_reducible exact ih2 _ _ _ _ _ _)
   | (with_reducible exact ih3 _ _ _ _ _ _ _ _)
   | (with_reducible exact ih4 _ _ _ _ _ _ _)
   | (with_reducible exact ih5 _ _ _ _ _ _ _)
   | (with_reducible exact ih6 _ _ _ _ _ _ _)
   | (with_reducible exact ih7 _ _ _ _ _ _ _ _)
   | (with_reducible exact compare_Same.mono _ _ _ _ _)
   | (with_reducible exact LeO.refl _)
   | (with_reducible exact LeO.none _)
   | (with_reducible refine LeO.ite ?_ ?_)
   | (with_reducible refine LeO.bind ?_ (fun _ => ?_))
   | exact ih0 _ _ _ _ _ _
   | exact ih1 _ _ _ _ _
   | exact ih2 _ _ _ _ _ _
   | exact ih3 _ _ _ _ _ _ _ _
   | exact ih4 _ _ _ _ _ _ _
   | exact ih5 _ _ _ _ _ _ _
   | exact ih6 _ _ _ _ _ _ _
   | exact ih7 _ _ _ _ _ _ _ _
   | exact compare_Same.mono _ _ _ _ _
   | exact LeO.none _
   | refine LeO.ite ?_ ?_
   | refine LeO.bind ?_ (fun _ => ?_)
  ·intro y0 y1 y2 y3 y4 y5 y6
   unfold compare_tabled.j5
   repeat' first
   | (with_reducible exact ih0 _ _ _ _ _ _)
   | (with_reducible exact ih1 _ _ _ _ _)
   | (with_reducible exact ih2 _ _ _ _ _ _)
   | (with_reducible exact ih3 _ _ _ _ _ _ _ _)
   | (with_reducible exact ih4 _ _ _ _ _ _ _)
   | (with_reducible exact ih5 _ _ _ _ _ _ _)
   | (with_reducible exact ih6 _ _ _ _ _ _ _)
   | (with_reducible exact ih7 _ _ _ _ _ _ _ _)
   | (with_reducible exact compare_Same.mono _ _ _ _ _)
   | (with_reducible exact LeO.refl _)
   | (with_reducible exact LeO.none _)
   | (with_reducible refine LeO.ite ?_ ?_)
   | (with_reducible refine LeO.bind ?_ (fun _ => ?_))
   | exact ih0 _ _ _ _ _ _
   | exact ih1 _ _ _ _ _
   | exact ih2 _ _ _ _ _ _
   | exact ih3 _ _ _ _ _ _ _ _
   | exact ih4 _ _ _ _ _ _ _
   | exact ih5 _ _ _ _ _ _ _
   | exact ih6 _ _ _ _ _ _ _
   | exact ih7 _ _ _ _ _ _ _ _
   | exact compare_Same.mono _ _ _ _ _
   | exact LeO.none _
   | refine LeO.ite ?_ ?_
   | refine LeO.bind ?_ (fun _ => ?_)
  ·intro y0 y1 y2 y3 y4 y5 y6
   unfold compare_tabled.j6
   repeat' first
   | (with_reducible exact ih0 _ _ _ _ _ _)
   | (with_reducible exact ih1 _ _ _ _ _)
   | (with_reducible exact ih2 _ _ _ _ _ _)
   | (with_reducible exact ih3 _ _ _ _ _ _ _ _)
   | (with_reducible exact ih4 _ _ _ _ _ _ _)
   | (with_reducible exact ih5 _ _ _ _ _ _ _)
   | (with_reducible exact ih6 _ _ _ _ _ _ _)
   | (with_reducible exact ih7 _ _ _ _ _ _ _ _)
   | (with_reducible exact compare_Same.mono _ _ _ _ _)
   | (with_reducible exact LeO.refl _)
   | (with_reducible exact LeO.none _)
   | (with_reducible refine LeO.ite ?_ ?_)
   | (with_reducible refine LeO.bind ?_ (fun _ => ?_))
   | exact ih0 _ _ _ _ _ _
   | exact ih1 _ _ _ _ _
   | exact ih2 _ _ _ _ _ _
   | exact ih3 _ _ _ _ _ _ _ _
   | exact ih4 _ _ _ _ _ _ _
   | exact ih5 _ _ _ _ _ _ _
   | exact ih6 _ _ _ _ _ _ _
   | exact ih7 _ _ _ _ _ _ _ _
   | exact compare_Same.mono _ _ _ _ _
   | exact LeO.none _
   | refine LeO.ite ?_ ?_
   | refine LeO.bind ?_ (fun _ => ?_)
  ·intro y0 y1 y2 y3 y4 y5 y6 y7
   unfold compare_tabled.j7
   repeat' first
   | (with_reducible exact ih0 _ _ _ _ _ _)
   | (with_reducible exact ih1 _ _ _ _ _)
   | (with_reducible exact ih2 _ _ _ _ _ _)
   | (with_reducible exact ih3 _ _ _ _ _ _ _ _)
   | (with_reducible exact ih4 _ _ _ _ _ _ _)
   | (with_reducible exact ih5 _ _ _ _ _ _ _)
   | (with_reducible exact ih6 _ _ _ _ _ _ _)
   | (with_reducible exact ih7 _ _ _ _ _ _ _ _)
   | (with_reducible exact compare_Same.mono _ _ _ _ _)
   | (with_reducible exact LeO.refl _)
   | (with_reducible exact LeO.none _)
   | (with_reducible refine LeO.ite ?_ ?_)
   | (with_reducible refine LeO.bind ?_ (fun _ => ?_))
   | exact ih0 _ _ _ _ _ _
   | exact ih1 _ _ _ _ _
   | exact ih2 _ _ _ _ _ _
   | exact ih3 _ _ _ _ _ _ _ _
   | exact ih4 _ _ _ _ _ _ _
   | exact ih5 _ _ _ _ _ _ _
   | exact ih6 _ _ _ _ _ _ _
   | exact ih7 _ _ _ _ _ _ _ _
   | exact compare_Same.mono _ _ _ _ _
   | exact LeO.none _
   | refine LeO.ite ?_ ?_
   | refine LeO.bind ?_ (fun _ => ?_)
theorem compare_tabled.mono : ∀ a0 a1 k, LeO (compare_tabled.f k a0 a1) (compare_tabled.f (k + 1) a0 a1) := by
 intro a0 a1 k
 obtain ⟨ih0, ih1, ih2, ih3, ih4, ih5, ih6, ih7⟩ := compare_tabled.mono_l k
 unfold compare_tabled.f
 repeat' first
   | (with_reducible exact ih0 _ _ _ _ _ _)
   | (with_reducible exact ih1 _ _ _ _ _)
   | (with_reducible exact ih2 _ _ _ _ _ _)
   | (with_reducible exact ih3 _ _ _ _ _ _ _ _)
   | (with_reducible exact ih4 _ _ _ _ _ _ _)
   | (with_reducible exact ih5 _ _ _ _ _ _ _)
   | (with_reducible exact ih6 _ _ _ _ _ _ _)
   | (with_reducible exact ih7 _ _ _ _ _ _ _ _)
   | (with_reducible exact compare_Same.mono _ _ _ _ _)
   | (with_reducible exact LeO.refl _)
   | (with_reducible exact LeO.none _)
   | (with_reducible refine LeO.ite ?_ ?_)
   | (with_reducible refine LeO.bind ?_ (fun _ => ?_))
   | exact ih0 _ _ _ _ _ _
   | exact ih1 _ _ _ _ _
   | exact ih2 _ _ _ _ _ _
   | exact ih3 _ _ _ _ _ _ _ _
   | exact ih4 _ _ _ _ _ _ _
   | exact ih5 _ _ _ _ _ _ _
   | exact ih6 _ _ _ _ _ _ _
   | exact ih7 _ _ _ _ _ _ _ _
   | exact compare_Same.mono _ _ _ _ _
   | exact LeO.none _
   | refine LeO.ite ?_ ?_
   | refine LeO.bind ?_ (fun _ => ?_)
def compare_tabled.T4 : Bool × List (List Nat × List Nat) := (true, [([], []), ([0], [0]), ([], []), ([2], [2]), ([3], [3]), ([4, 4], [4]), ([5], [5]), ([1, 6], [1, 6]), ([0, 1, 2, 3, 4, 5, 6, 7], []), ([8, 7, 7, 0, 1, 2, 3, 4, 5, 6, 7], [7, 8])])
def compare_tabled.B4 : List Nat := [0, 1, 0, 4, 12, 28, 60, 127, 255, 511]
theorem compare_tabled.tab4 : rtab .any (opsOf Try.f37 4) = compare_tabled.T4 := by kernel_rfl
theorem compare_tabled.bits4 : waitsOk compare_tabled.T4.2 compare_tabled.B4 = true := by kernel_rfl
def compare_tabled.T5 : Bool × List (List Nat × List Nat) := (true, [([], []), ([0], [0]), ([], []), ([2], [2]), ([3], [3]), ([4, 4], [4]), ([5], [5]), ([1, 6], [1, 6]), ([0, 1, 2, 3, 4, 5, 6, 7], []), ([8, 7, 7, 0, 1, 2, 3, 4, 5, 6, 7], [7, 8])])
def compare_tabled.B5 : List Nat := [0, 1, 0, 4, 12, 28, 60, 127, 255, 511]
theorem compare_tabled.tab5 : rtab .any (opsOf Try.f37 5) = compare_tabled.T5 := by kernel_rfl
theorem compare_tabled.bits5 : waitsOk compare_tabled.T5.2 compare_tabled.B5 = true := by kernel_rfl
def compare_tabled.T20 : Bool × List (List Nat × List Nat) := (true, [([], []), ([], []), ([1], [1]), ([0, 2], [0, 2]), ([3], [3]), ([4], [4]), ([4], [4]), ([6, 4], [4, 6]), ([5, 7, 4], [4, 5, 7]), ([4, 8], [4, 8]), ([9, 4], [9]), ([10], [10]), ([10], [10]), ([11, 12, 10], [10, 11, 12]), ([13, 10], [10, 13]), ([14, 10], [10, 14]), ([10], [10]), ([10], [10]), ([16, 17, 10], [10, 16, 17]), ([18, 10], [10, 18]), ([19, 10], [10, 19]), ([15, 20, 10], [10, 15, 20]), ([10, 21], [10, 21])])
def compare_tabled.B20 : List Nat := [0, 0, 2, 7, 15, 31, 31, 95, 255, 511, 1023, 2047, 2047, 8191, 16383, 32767, 2047, 2047, 198655, 460799, 985087, 2097151, 4194303]
theorem compare_tabled.tab20 : rtab .any (opsOf Try.f37 20) = compare_tabled.T20 := by kernel_rfl
theorem compare_tabled.bits20 : waitsOk compare_tabled.T20.2 compare_tabled.B20 = true := by kernel_rfl
def compare_tabled.T21 : Bool × List (List Nat × List Nat) := (true, [([], []), ([0], [0]), ([], []), ([1, 2], [1, 2]), ([3], [3]), ([], []), ([], []), ([], []), ([6, 7], [6, 7]), ([8], [8]), ([], []), ([], []), ([10, 11], [10, 11]), ([12], [12]), ([9, 13], [9, 13]), ([4, 5, 0, 1, 2, 3, 4, 5, 6, 7, 8, 9, 10, 11, 12, 13, 14], [4, 5]), ([15, 14, 14, 0, 1, 2, 3, 4, 5, 6, 7, 8, 9, 10, 11, 12, 13, 14], [14, 15])])
def compare_tabled.B21 : List Nat := [0, 1, 0, 7, 15, 0, 0, 0, 192, 448, 0, 0, 3072, 7168, 16320, 32767, 65535]
theorem compare_tabled.tab21 : rtab .any (opsOf Try.f37 21) = compare_tabled.T21 := by kernel_rfl
theorem compare_tabled.bits21 : waitsOk compare_tabled.T21.2 compare_tabled.B21 = true := by kernel_rfl
set_option maxHeartbeats 8000000 in
set_option maxRecDepth 100000 in
theorem compare_tabled.calls (k : Nat) (A0 : Option Addr) (c0 : Nat) (l0 : List (S24)) (A1 : Option Addr) (c1 : Nat) (l1 : List (S24)) (r1 : List (List Int)) (r2 : List (List Bool)) (w : World) (hr0 : Kd.C k24 w A0 l0.length l0) (hc0 : l0.length ≤ c0) (hr1 : Kd.C k24 w A1 l1.length l1) (hc1 : l1.length ≤ c1) (h : compare_tabled.f k l0 l1 = some (r1, r2)) :
  Calls Try.prog 37 #[.slice A0 l0.length c0, .slice A1 l1.length c1] w fun e w' => ∃ v0_ v1_ : Value, e = .returned (.agg #[v0_, v1_]) ∧ Kd.S (Kd.slice 3 (Kd.int .i64)) 67 w' w.heap.size (fun _ => True) v0_ r1 ∧ Kd.S (Kd.slice 4 Kd.bool) 82 w' w.heap.size (fun _ => True) v1_ r2 ∧ Below w.heap.size w w' := by
 have hu80 := Try.underlying80
 have hu24 := Try.underlying24
 have HR0 := q13 hr0
 have HC0 := q13 hc0
 clear hr0 hc0
 have HR1 := q13 hr1
 have HC1 := q13 hc1
 clear hr1 hc1
 have HB := q13 (Below.refl w.heap.size w)
 have H : (compare_tabled.l0 k l0 l1 (wrap64 ((l0.length : Int) + 1)) 0 ([] : List (List Int)) ([] : List (List Bool))) = some (r1, r2) := h
 clear h
 have H' := q13 H
 clear H
 go_enter Try.func37, Try.ntmps37
 go_wp2_with (first | ((with_reducible refine gate_dst (N := 4) rfl ?_); (try (refine gate_guard (by rfl) ?_; dsimp only)); refine box_event ?hg (N := 4) ?hd (cs := #[.slice none 0 0, .slice none 0 0]) (t := 80) ?hr ?_; (case hd => rfl); (case hg => rfl); (case hr => first | (go_simp; done) | (go_simp; rfl)); intro gb126 hg w3 hbox hb; have n0_ := q13 (q12 (gB HB) hb); have n1_ := q13 (hbox); have n2_ := q13 ((by rw [hg]; exact (q7 (gB HB)) : w.heap.size ≤ gb126)); have n3_ := q13 ((by rw [hg]; exact (q7 (gB HB)) : w.heap.size ≤ gb126)); clear HB; have HB := n0_; have BK126 := n1_; have GW126 := n2_; have GE126 := n3_; clear n0_ n1_ n2_ n3_; clear hb hbox hg) | ((with_reducible refine gate_dst (N := 5) rfl ?_); (try (refine gate_guard (by rfl) ?_; dsimp only)); refine box_event ?hg (N := 5) ?hd (cs := #[.slice none 0 0, .slice none 0 0]) (t := 80) ?hr ?_; (case hd => rfl); (case hg => rfl); (case hr => first | (go_simp; done) | (go_simp; rfl)); intro gb127 hg w4 hbox hb; have n0_ := q13 (q8 (g := gb126) (o := .cells #[.slice none 0 0, .slice none 0 0] 80 (0, 0)) (gK BK126) hb); have n1_ := q13 (q12 (by repeat (first | (with_reducible first | exact HB.out | apply q3 | apply q4 | apply q5 | refine q6 ?_ GE126.out) | exact HB.out)) hb); have n2_ := q13 (hbox); have n3_ := q13 ((by rw [hg]; exact (q7 (by repeat (first | (with_reducible first | exact HB.out | apply q3 | apply q4 | apply q5 | refine q6 ?_ GE126.out) | exact HB.out))) : w.heap.size ≤ gb127)); have n4_ := q13 ((by rw [hg]; exact (q7 (by repeat (first | (with_reducible first | exact HB.out | apply q3 | apply q4 | apply q5 | refine q6 ?_ GE126.out) | exact HB.out))) : w.heap.size ≤ gb127)); have n5_ := q13 ((by rw [hg]; exact Nat.ne_of_lt (blk_lt (g := gb126) (o := .cells #[.slice none 0 0, .slice none 0 0] 80 (0, 0)) (gK BK126)) : gb126 ≠ gb127)); have n6_ := q13 ((by rw [hg]; exact Nat.ne_of_gt (blk_lt (g := gb126) (o := .cells #[.slice none 0 0, .slice none 0 0] 80 (0, 0)) (gK BK126)) : gb127 ≠ gb126)); clear BK126; clear HB; have BK126 := n0_; have HB := n1_; have BK127 := n2_; have GW127 := n3_; have GE127 := n4_; have NB126_127 := n5_; have NB127_126 := n6_; clear n0_ n1_ n2_ n3_ n4_ n5_ n6_; clear hb hbox hg; have hnb5 := NB127_126.out; have hnc5 := NB126_127.out; have hcz6_0 : w4.cell? ⟨gb127, 0, none⟩ = some (.slice none 0 0) := (q9 BK127.out 0).trans rfl; have hcz6_1 : w4.cell? ⟨gb127, 1, none⟩ = some (.slice none 0 0) := (q9 BK127.out 1).trans rfl; have hfz6_0 := q11 BK127.out 0; have hfz6_1 := q11 BK127.out 1))
 go_loopg [13] k (fun kq v13 w' => ∃ (x13_1 : Int) (x128000_1 : List (List Int)) (x128001_1 : List (List Bool)) (u128000 : Value) (u128001 : Value), v13 = .int .i64 x13_1 ∧ Aside0 (compare_tabled.l0 kq l0 l1 (wrap64 ((l0.length : Int) + 1)) x13_1 x128000_1 x128001_1 = some (r1, r2)) ∧ Aside0 (kq ≤ k) ∧ Aside0 (Kd.S (Kd.slice 3 (Kd.int .i64)) 67 w' w.heap.size (fun _ => True) u128000 x128000_1) ∧ Aside0 (Kd.S (Kd.slice 4 Kd.bool) 82 w' w.heap.size (fun _ => True) u128001 x128001_1) ∧ Aside0 (w'.heap[gb126]? = some (.cells #[(.slice none 0 0), (.slice none 0 0)] 80 (0, 0))) ∧ Aside0 (w'.heap[gb127]? = some (.cells #[u128000, u128001] 80 (0, 0))) ∧ Aside0 (Below w.heap.size w w'))
 case atStart => exact ⟨(0), (([] : List (List Int))), (([] : List (List Bool))), (.slice none 0 0), (.slice none 0 0), (by first | rfl | (simp; done) | (simp [*]; done)), H', ⟨q17 _⟩, ⟨by first | exact Kd.S_nil _ _ _ _ _ | exact Kd.N_nil _ _ _ _ _ | exact Kd.V_nil _ _ _ _ _ | exact Kd.Q_nil _ _ _ _ _ | exact Kd.R_nil _ _ _ _ _⟩, ⟨by first | exact Kd.S_nil _ _ _ _ _ | exact Kd.N_nil _ _ _ _ _ | exact Kd.V_nil _ _ _ _ _ | exact Kd.Q_nil _ _ _ _ _ | exact Kd.R_nil _ _ _ _ _⟩, ⟨by (with_reducible repeat (first | refine q0 ?_ _ | refine q1 ?_ | refine q2 ?_ _)); refine blk_far ?_ NB126_127.out _; (with_reducible repeat (first | refine q0 ?_ _ | refine q1 ?_ | refine q2 ?_ _)); refine blk_far ?_ NB126_127.out _; (with_reducible repeat (first | refine q0 ?_ _ | refine q1 ?_ | refine q2 ?_ _)); exact BK126.out⟩, ⟨by (with_reducible repeat (first | refine q0 ?_ _ | refine q1 ?_ | refine q2 ?_ _)); refine blk_put (cs := #[.slice none 0 0, .slice none 0 0]) ?_ 1 _ rfl; (with_reducible repeat (first | refine q0 ?_ _ | refine q1 ?_ | refine q2 ?_ _)); refine blk_put (cs := #[.slice none 0 0, .slice none 0 0]) ?_ 0 _ rfl; (with_reducible repeat (first | refine q0 ?_ _ | refine q1 ?_ | refine q2 ?_ _)); exact BK127.out⟩, ⟨by repeat (first | (with_reducible first | exact HB.out | apply q3 | apply q4 | apply q5 | refine q6 ?_ GE126.out | refine q6 ?_ GE127.out) | exact HB.out)⟩⟩
 case round =>
  clear H'
  try clear c1
  try clear p2
  try clear c3
  try clear c5
  try clear p6
  obtain ⟨x13_1, x128000_1, x128001_1, u128000, u128001, rfl, HA, HK1, HO_128000, HO_128001, BK126, BK127, HB⟩ := hrel
  cases gk with
  | zero => exact absurd HA.out (by simp [compare_tabled.l0])
  | succ k1 =>
   have H := HA.out
   clear HA
   simp only [compare_tabled.l0] at H
   by_cases c7 : x13_1 < (wrap64 ((l0.length : Int) + 1))
   ·rw [if_pos c7] at H
    have c7b0 : decide (x13_1 < (wrap64 ((l0.length : Int) + 1))) = true := decide_eq_true c7
    clear c7
    obtain ⟨ji8, hji8⟩ : ∃ j_ : Int, (wrap64 ((l1.length : Int) + 1)) = j_ := ⟨_, rfl⟩
    replace H : (if 0 ≤ (ji8) then (if (ji8 : Int).toNat ≤ 35184372088832 then (if x128000_1.length < 5864062014805 then (if (ji8 : Int).toNat ≤ 281474976710656 then (if x128001_1.length < 5864062014805 then (compare_tabled.l0 k1 l0 l1 (wrap64 ((l0.length : Int) + 1)) (wrap64 (x13_1 + 1)) (x128000_1 ++ [(List.replicate (ji8 : Int).toNat 0)]) (x128001_1 ++ [(List.replicate (ji8 : Int).toNat false)])) else (none)) else (none)) else (none)) else (none)) else (none)) = some (r1, r2) := by first | (rw [hji8] at H; exact H) | (simp only [hji8] at H ⊢; exact H)
    have hji8w : (IntKind.i64.wrap ((l1.length : Int) + 1)) = ji8 := (i64_w _).trans hji8
    by_cases c9 : 0 ≤ (ji8)
    ·rw [if_pos c9] at H
     have c9b0 := eq_true c9
     have c9b1 : decide (0 ≤ (ji8)) = true := decide_eq_true c9
     clear c9
     by_cases c10 : (ji8 : Int).toNat ≤ 35184372088832
     ·rw [if_pos c10] at H
      have c10b0 := eq_true c10
      have c10b1 : decide ((ji8 : Int).toNat ≤ 35184372088832) = true := decide_eq_true c10
      clear c10
      obtain ⟨y128, hy128⟩ : ∃ y_ : List Int, y_ = (List.replicate (ji8 : Int).toNat 0) := ⟨_, rfl⟩
      replace H : (if x128000_1.length < 5864062014805 then (if (ji8 : Int).toNat ≤ 281474976710656 then (if x128001_1.length < 5864062014805 then (compare_tabled.l0 k1 l0 l1 (wrap64 ((l0.length : Int) + 1)) (wrap64 (x13_1 + 1)) (x128000_1 ++ [y128]) (x128001_1 ++ [(List.replicate (ji8 : Int).toNat false)])) else (none)) else (none)) else (none)) = some (r1, r2) := by first | (rw [hy128]; with_reducible exact H) | (have H2_ := (Option.bind_some _ _).symm.trans H; rw [hy128]; with_reducible exact H2_) | (have H2_ := (Option.bind_some _ _).symm.trans H; with_reducible exact H2_) | with_reducible exact H | (rw [hy128]; exact H) | exact H
      have Ny128 := q13 hy128
      clear hy128
      by_cases c11 : x128000_1.length < 5864062014805
      ·rw [if_pos c11] at H
       have LMc11 := q13 c11
       clear c11
       obtain ⟨y131, hy131⟩ : ∃ y_ : List (List Int), y_ = (x128000_1 ++ [y128]) := ⟨_, rfl⟩
       replace H : (if (ji8 : Int).toNat ≤ 281474976710656 then (if x128001_1.length < 5864062014805 then (compare_tabled.l0 k1 l0 l1 (wrap64 ((l0.length : Int) + 1)) (wrap64 (x13_1 + 1)) y131 (x128001_1 ++ [(List.replicate (ji8 : Int).toNat false)])) else (none)) else (none)) = some (r1, r2) := by first | (rw [hy131]; with_reducible exact H) | (have H2_ := (Option.bind_some _ _).symm.trans H; rw [hy131]; with_reducible exact H2_) | (have H2_ := (Option.bind_some _ _).symm.trans H; with_reducible exact H2_) | with_reducible exact H | (rw [hy131]; exact H) | exact H
       have Ny131 := q13 hy131
       clear hy131
       by_cases c12 : (ji8 : Int).toNat ≤ 281474976710656
       ·rw [if_pos c12] at H
        have c12b0 := eq_true c12
        have c12b1 : decide ((ji8 : Int).toNat ≤ 281474976710656) = true := decide_eq_true c12
        clear c12
        obtain ⟨y134, hy134⟩ : ∃ y_ : List Bool, y_ = (List.replicate (ji8 : Int).toNat false) := ⟨_, rfl⟩
        replace H : (if x128001_1.length < 5864062014805 then (compare_tabled.l0 k1 l0 l1 (wrap64 ((l0.length : Int) + 1)) (wrap64 (x13_1 + 1)) y131 (x128001_1 ++ [y134])) else (none)) = some (r1, r2) := by first | (rw [hy134]; with_reducible exact H) | (have H2_ := (Option.bind_some _ _).symm.trans H; rw [hy134]; with_reducible exact H2_) | (have H2_ := (Option.bind_some _ _).symm.trans H; with_reducible exact H2_) | with_reducible exact H | (rw [hy134]; exact H) | exact H
        have Ny134 := q13 hy134
        clear hy134
        by_cases c13 : x128001_1.length < 5864062014805
        ·rw [if_pos c13] at H
         have LMc13 := q13 c13
         clear c13
         obtain ⟨y137, hy137⟩ : ∃ y_ : List (List Bool), y_ = (x128001_1 ++ [y134]) := ⟨_, rfl⟩
         replace H : (compare_tabled.l0 k1 l0 l1 (wrap64 ((l0.length : Int) + 1)) (wrap64 (x13_1 + 1)) y131 y137) = some (r1, r2) := by first | (rw [hy137]; with_reducible exact H) | (have H2_ := (Option.bind_some _ _).symm.trans H; rw [hy137]; with_reducible exact H2_) | (have H2_ := (Option.bind_some _ _).symm.trans H; with_reducible exact H2_) | with_reducible exact H | (rw [hy137]; exact H) | exact H
         have Ny137 := q13 hy137
         clear hy137
         as_aux_lemma =>
          have H' := q13 H
          clear H
          try go_wp2
          have n0_ := q13 (q33 HO_128000.out)
          have n1_ := q13 (q33 HO_128001.out)
          have n2_ := q13 (q1 BK126.out)
          have n3_ := q13 (q1 BK127.out)
          have n4_ := q13 (q5 HB.out)
          clear HO_128000
          clear HO_128001
          clear BK126
          clear BK127
          clear HB
          have HO_128000 := n0_
          have HO_128001 := n1_
          have BK126 := n2_
          have BK127 := n3_
          have HB := n4_
          clear n0_ n1_ n2_ n3_ n4_
          refine start_ (n := 10) (S := fun w' => w'.cell? ⟨gb127, 0, none⟩ = some (u128000) ∧ w'.cell? ⟨gb127, 1, none⟩ = some (u128001)) (ds := [9]) (Array.replicate 10 false) (by kernel_rfl) rfl rfl ⟨(q9 BK127.out 0).trans rfl, (q9 BK127.out 1).trans rfl⟩ (fun hHeld => ?_); refine with_tabW compare_tabled.tab4 compare_tabled.bits4 (fun HT_ HW_ => ?_)
          generalize wr.drew = w14 at HO_128000 HO_128001 BK126 BK127 HB hHeld ⊢
          refine pure_ (i := 0) (N := some 15) (v := ?_) (a' := ?_) (fl 10 1 []) rfl rfl (any_of HT_.out (by kernel_rfl)) (fun _ _ _ h => h) (Or.inl ⟨by rfl, ?_⟩) ?_ ?_
          rotate_left
          ·intro w'
           go_simp
           with_reducible rfl
          rotate_left
          ·simp only [Act.put, List.setIfInBounds_toArray, List.set_cons_zero, List.set_cons_succ, i64_w, i32_w]
           rfl
          refine pure_ (i := 2) (N := some 17) (v := ?_) (a' := ?_) (fl 10 1 [2]) rfl rfl (any_of HT_.out (by kernel_rfl)) (fun _ _ _ h => h) (Or.inl ⟨by rfl, ?_⟩) ?_ ?_
          rotate_left
          ·intro w'
           go_simp
           with_reducible rfl
          rotate_left
          ·simp only [Act.put, List.setIfInBounds_toArray, List.set_cons_zero, List.set_cons_succ, i64_w, i32_w]
           rfl
          refine pure_ (i := 3) (N := some 18) (v := ?_) (a' := ?_) (fl 10 1 [2, 3]) rfl rfl (any_of HT_.out (by kernel_rfl)) (fun _ _ _ h => h) (Or.inl ⟨by rfl, ?_⟩) ?_ ?_
          rotate_left
          ·intro w'
           go_simp
           with_reducible rfl
          rotate_left
          ·simp only [Act.put, List.setIfInBounds_toArray, List.set_cons_zero, List.set_cons_succ, i64_w, i32_w]
           rfl
          refine pure_ (i := 4) (N := some 19) (v := ?_) (a' := ?_) (fl 10 1 [2, 3, 4]) rfl rfl (any_of HT_.out (by kernel_rfl)) (fun _ _ _ h => h) (Or.inl ⟨by rfl, ?_⟩) ?_ ?_
          rotate_left
          ·intro w'
           go_simp
           with_reducible rfl
          rotate_left
          ·simp only [Act.put, List.setIfInBounds_toArray, List.set_cons_zero, List.set_cons_succ, i64_w, i32_w]
           rfl
          refine take_ (i := 1) (N := some 16) (v := ?_) (a' := ?_) (fl 10 5 []) rfl rfl (take_ofW HT_.out HW_.out (by kernel_rfl)) (fun _ _ _ h => h) (Or.inl ⟨by rfl, ?_⟩) hHeld ?_ ?_
          rotate_left
          ·rintro w' ⟨s0, s1⟩
           go_simp
           with_reducible rfl
          rotate_left
          ·simp only [Act.put, List.setIfInBounds_toArray, List.set_cons_zero, List.set_cons_succ, i64_w, i32_w]
           rfl
          refine one_ (i := 5) (N := some 20) (fl 10 6 []) rfl rfl (one_of HT_.out (by kernel_rfl)) (by decide) (fun K hK => ?_)
          refine Kd.R_make_step (Kd.int .i64) _ 3 (by rfl) (N := 20) rfl 67 _ _ rfl ji8 rfl rfl Try.underlying67 (.int .i64 0) 8 info3 rfl (by decide) (by omega) 0 (ok := fun _ => True) (okp := fun _ => True) rfl (fun _ hk => hk) trivial (q15 (by assumption)) (Nat.le_trans (Nat.mul_le_mul_right _ (q15 (by assumption) : ji8.toNat ≤ 35184372088832)) (by omega)) (Below.refl _ _) (q17 _) ?_
          intro v129 w15 ho16 hb hg_ hnew_
          clear hg_ hnew_
          (first | rw [← Ny128.out] at ho16 | (simp only [Int.reduceToNat] at ho16; rw [← Ny128.out] at ho16))
          have n0_ := q13 (Kd.S_elder' (gS HO_128000) (q44 ho16) hb)
          have n1_ := q13 (Kd.S_below (gS HO_128001) hb)
          have n2_ := q13 (Kd.R_lower ho16 (q7 (by repeat (first | (with_reducible first | exact HB.out | apply q3 | apply q4 | apply q5 | refine q6 ?_ GE126.out | refine q6 ?_ GE127.out) | exact HB.out))))
          have n3_ := q13 (q8 (g := gb126) (o := .cells #[.slice none 0 0, .slice none 0 0] 80 (0, 0)) (gK BK126) hb)
          have n4_ := q13 (q8 (g := gb127) (o := .cells #[u128000, u128001] 80 (0, 0)) (gK BK127) hb)
          have n5_ := q13 (q12 (by repeat (first | (with_reducible first | exact HB.out | apply q3 | apply q4 | apply q5 | refine q6 ?_ GE126.out | refine q6 ?_ GE127.out) | exact HB.out)) hb)
          clear HO_128000
          clear HO_128001
          clear BK126
          clear BK127
          clear HB
          have HO_128000 := n0_
          have HO_128001 := n1_
          have HO130 := n2_
          have BK126 := n3_
          have BK127 := n4_
          have HB := n5_
          clear n0_ n1_ n2_ n3_ n4_ n5_
          clear hb ho16
          obtain ⟨Ao18, co18, eo18⟩ := Kd.R_slice HO130.out
          (first | subst eo18 | (injection eo18 with f1_ f2_ f3_; have f4_ := f1_.symm; have f5_ := f3_.symm; clear f1_ f2_ f3_; subst f4_; subst f5_))
          refine hK.out _ _ ⟨(q9 BK127.out 0).trans rfl, (q9 BK127.out 1).trans rfl⟩ (fun hHeld => ?_)
          clear hK K
          refine norm_ (a' := ?_) ?_ ?_
          rotate_left
          ·show Act.put _ (some 20) _ = _
           simp only [Act.put, List.setIfInBounds_toArray, List.set_cons_zero, List.set_cons_succ, i64_w, i32_w]
           rfl
          refine one_ (i := 6) (N := some 21) (fl 10 7 []) rfl rfl (one_of HT_.out (by kernel_rfl)) (by decide) (fun K hK => ?_)
          refine value_ (w1 := ?_) (v := ?_) (by rfl) rfl ?_ ?_
          rotate_left 2
          ·go_simp
           constructor
           ·rfl
           ·rfl
          refine hK.out _ _ ⟨(q9 (q2 BK127.out _) 0).trans rfl, (q9 (q2 BK127.out _) 1).trans rfl⟩ (fun hHeld => ?_)
          clear hK K
          refine norm_ (a' := ?_) ?_ ?_
          rotate_left
          ·show Act.put _ (some 21) _ = _
           simp only [Act.put, List.setIfInBounds_toArray, List.set_cons_zero, List.set_cons_succ, i64_w, i32_w]
           rfl
          refine one_ (i := 7) (N := some 22) (fl 10 8 []) rfl rfl (one_of HT_.out (by kernel_rfl)) (by decide) (fun K hK => ?_)
          refine Kd.S_append_step (Kd.slice 3 (Kd.int .i64)) (w0 := w) w.heap.size (by rfl) (.tmp 16) (.tmp 21) 77 67 (.slice none 0 0) 24 rfl Try.underlying77 info67 rfl (by decide) (by omega) u128000 x128000_1 y128 [.slice Ao18 y128.length co18] (fun _ => True) (fun k_ => some k_ = (.slice Ao18 y128.length co18 : Value).ownBlock) rfl rfl ?aP (fun k_ hk_ => ((Kd.R_mono (ok' := fun k_ => ((fun _ => True)) k_ ∧ some k_ ≠ (u128000 : Value).ownBlock) (Kd.R_apart' (HO130.out) (Kd.S_typed HO_128000.out) (by decide)) (fun k_ hk => ⟨trivial, hk.2⟩))).1 k_ hk_.symm) ?aF ?aO ?aB ?aS ?aL ?_
          (case aP => exact Kd.M_row (Kd.R_mono (Kd.R_tight rfl (Kd.R_mono (ok' := fun k_ => ((fun _ => True)) k_ ∧ some k_ ≠ (u128000 : Value).ownBlock) (Kd.R_apart' (HO130.out) (Kd.S_typed HO_128000.out) (by decide)) (fun k_ hk => ⟨trivial, hk.2⟩))) (fun _ h_ => h_)))
          (case aB => exact (by repeat (first | (with_reducible first | exact HB.out | apply q3 | apply q4 | apply q5 | refine q6 ?_ GE126.out | refine q6 ?_ GE127.out) | exact HB.out)))
          (case aF => exact (fun _ _ => trivial))
          (case aO => exact (by (with_reducible repeat (first | apply q31 | apply q32 | apply q33)); exact Kd.S_mono HO_128000.out (fun k_ hk => ⟨trivial, fun e_ => hk.2 e_⟩)))
          (case aS => exact (q7 (by repeat (first | (with_reducible first | exact HB.out | apply q3 | apply q4 | apply q5 | refine q6 ?_ GE126.out | refine q6 ?_ GE127.out) | exact HB.out))))
          (case aL => have := LMc11.out; omega)
          intro v132 w17 ho hb hg hat
          rw [← Ny131.out] at ho
          have n0_ := q13 (Kd.S_over' (gS HO_128001) (Kd.S_typed (gS HO_128000)) (by decide) hg)
          have n1_ := q13 (blk_grown (g := gb126) (o := .cells #[.slice none 0 0, .slice none 0 0] 80 (0, 0)) (gK BK126) hg (Kd.S_ne HO_128000.out BK126.out (by decide)))
          have n2_ := q13 (blk_grown (g := gb127) (o := .cells #[u128000, u128001] 80 (0, 0)) (gK BK127) hg (Kd.S_ne HO_128000.out BK127.out (by decide)))
          have n3_ := q13 (hb)
          have n4_ := q13 (ho)
          clear HO_128001
          clear BK126
          clear BK127
          clear HB
          clear HO_128000
          clear HO130
          have HO_128001 := n0_
          have BK126 := n1_
          have BK127 := n2_
          have HB := n3_
          have HO133 := n4_
          clear n0_ n1_ n2_ n3_ n4_
          clear ho hb hg hat
          obtain ⟨Ao19, co19, eo19⟩ := Kd.S_slice HO133.out
          (first | subst eo19 | (injection eo19 with f1_ f2_ f3_; have f4_ := f1_.symm; have f5_ := f3_.symm; clear f1_ f2_ f3_; subst f4_; subst f5_))
          refine hK.out _ _ ⟨(q9 BK127.out 0).trans rfl, (q9 BK127.out 1).trans rfl⟩ (fun hHeld => ?_)
          clear hK K
          refine norm_ (a' := ?_) ?_ ?_
          rotate_left
          ·show Act.put _ (some 22) _ = _
           simp only [Act.put, List.setIfInBounds_toArray, List.set_cons_zero, List.set_cons_succ, i64_w, i32_w]
           rfl
          refine pure_ (i := 8) (N := some 23) (v := ?_) (a' := ?_) (fl 10 9 []) rfl rfl (any_of HT_.out (by kernel_rfl)) (fun _ _ _ h => h) (Or.inl ⟨by rfl, ?_⟩) ?_ ?_
          rotate_left
          ·intro w'
           go_simp
           with_reducible rfl
          rotate_left
          ·simp only [Act.put, List.setIfInBounds_toArray, List.set_cons_zero, List.set_cons_succ, i64_w, i32_w]
           rfl
          refine last_ (i := 9) (N := none) (fl 10 10 []) rfl rfl (one_of HT_.out (by kernel_rfl)) (by decide) (fun K hK => ?_)
          have hs20 : w17.cell? ⟨gb127, 0, none⟩ = some (u128000) := (q9 BK127.out 0).trans rfl
          have hfs20 := q11 BK127.out 0
          have hns20_0 := NB126_127.out
          have hms20_0 := NB127_126.out
          refine skip_ (w1 := ?_) (by rfl) rfl ?_ ?_
          rotate_left
          ·go_simp
           rfl
          refine hK.out _ _ ?_
          clear hK K
          refine done_ (done_of HT_.out (by kernel_rfl)) ?_
          try go_wp2
          have n0_ : Aside0 (Kd.S (Kd.slice 4 Kd.bool) 82 (w17.setCell ⟨gb127, 0, none⟩ (.slice Ao19 y131.length co19)) w.heap.size (fun _ => True) u128001 x128001_1) := ⟨by (with_reducible repeat (first | apply q31 | apply q32 | apply q33)); exact Kd.S_mono (Kd.S_far (p := ⟨gb127, 0, none⟩) (Kd.S_types HO_128001.out BK127.out (by decide)) (fun _ hk => hk.2) (.slice Ao19 y131.length co19)) (fun _ hk => trivial)⟩
          have n1_ : Aside0 (Kd.S (Kd.slice 3 (Kd.int .i64)) 67 (w17.setCell ⟨gb127, 0, none⟩ (.slice Ao19 y131.length co19)) w.heap.size (fun _ => True) (.slice Ao19 y131.length co19) y131) := ⟨by (with_reducible repeat (first | apply q31 | apply q32 | apply q33)); exact Kd.S_mono (Kd.S_far (p := ⟨gb127, 0, none⟩) (Kd.S_types HO133.out BK127.out (by decide)) (fun _ hk => hk.2) (.slice Ao19 y131.length co19)) (fun _ hk => trivial)⟩
          have n2_ : Aside0 ((w17.setCell ⟨gb127, 0, none⟩ (.slice Ao19 y131.length co19)).heap[gb126]? = some (.cells #[.slice none 0 0, .slice none 0 0] 80 (0, 0))) := ⟨by (with_reducible repeat (first | refine q0 ?_ _ | refine q1 ?_ | refine q2 ?_ _)); refine blk_far ?_ NB126_127.out _; (with_reducible repeat (first | refine q0 ?_ _ | refine q1 ?_ | refine q2 ?_ _)); exact BK126.out⟩
          have n3_ : Aside0 ((w17.setCell ⟨gb127, 0, none⟩ (.slice Ao19 y131.length co19)).heap[gb127]? = some (.cells #[.slice Ao19 y131.length co19, u128001] 80 (0, 0))) := ⟨by (with_reducible repeat (first | refine q0 ?_ _ | refine q1 ?_ | refine q2 ?_ _)); refine blk_put (cs := #[u128000, u128001]) ?_ 0 _ rfl; (with_reducible repeat (first | refine q0 ?_ _ | refine q1 ?_ | refine q2 ?_ _)); exact BK127.out⟩
          have n4_ : Aside0 (Below w.heap.size w (w17.setCell ⟨gb127, 0, none⟩ (.slice Ao19 y131.length co19))) := ⟨by repeat (first | (with_reducible first | exact HB.out | apply q3 | apply q4 | apply q5 | refine q6 ?_ GE126.out | refine q6 ?_ GE127.out) | exact HB.out)⟩
          (try clear HO_128001)
          (try clear HO133)
          (try clear BK126)
          (try clear BK127)
          (try clear HB)
          generalize (w17.setCell ⟨gb127, 0, none⟩ (.slice Ao19 y131.length co19)) = w21 at n0_ n1_ n2_ n3_ n4_ ⊢
          have HO_128001 := n0_
          have HO133 := n1_
          have BK126 := n2_
          have BK127 := n3_
          have HB := n4_
          clear n0_ n1_ n2_ n3_ n4_
          have n0_ := q13 (q33 HO_128001.out)
          have n1_ := q13 (q33 HO133.out)
          have n2_ := q13 (q1 BK126.out)
          have n3_ := q13 (q1 BK127.out)
          have n4_ := q13 (q5 HB.out)
          clear HO_128001
          clear HO133
          clear BK126
          clear BK127
          clear HB
          have HO_128001 := n0_
          have HO133 := n1_
          have BK126 := n2_
          have BK127 := n3_
          have HB := n4_
          clear n0_ n1_ n2_ n3_ n4_
          refine start_ (n := 10) (S := fun w' => w'.cell? ⟨gb127, 0, none⟩ = some (.slice Ao19 y131.length co19) ∧ w'.cell? ⟨gb127, 1, none⟩ = some (u128001)) (ds := [9]) (Array.replicate 10 false) (by kernel_rfl) rfl rfl ⟨(q9 BK127.out 0).trans rfl, (q9 BK127.out 1).trans rfl⟩ (fun hHeld => ?_); refine with_tabW compare_tabled.tab5 compare_tabled.bits5 (fun HT_ HW_ => ?_)
          generalize w21.drew = w22 at HO_128001 HO133 BK126 BK127 HB hHeld ⊢
          refine pure_ (i := 0) (N := some 24) (v := ?_) (a' := ?_) (fl 10 1 []) rfl rfl (any_of HT_.out (by kernel_rfl)) (fun _ _ _ h => h) (Or.inl ⟨by rfl, ?_⟩) ?_ ?_
          rotate_left
          ·intro w'
           go_simp
           with_reducible rfl
          rotate_left
          ·simp only [Act.put, List.setIfInBounds_toArray, List.set_cons_zero, List.set_cons_succ, i64_w, i32_w]
           rfl
          refine pure_ (i := 2) (N := some 26) (v := ?_) (a' := ?_) (fl 10 1 [2]) rfl rfl (any_of HT_.out (by kernel_rfl)) (fun _ _ _ h => h) (Or.inl ⟨by rfl, ?_⟩) ?_ ?_
          rotate_left
          ·intro w'
           go_simp
           with_reducible rfl
          rotate_left
          ·simp only [Act.put, List.setIfInBounds_toArray, List.set_cons_zero, List.set_cons_succ, i64_w, i32_w]
           rfl
          refine pure_ (i := 3) (N := some 27) (v := ?_) (a' := ?_) (fl 10 1 [2, 3]) rfl rfl (any_of HT_.out (by kernel_rfl)) (fun _ _ _ h => h) (Or.inl ⟨by rfl, ?_⟩) ?_ ?_
          rotate_left
          ·intro w'
           go_simp
           with_reducible rfl
          rotate_left
          ·simp only [Act.put, List.setIfInBounds_toArray, List.set_cons_zero, List.set_cons_succ, i64_w, i32_w]
           rfl
          refine pure_ (i := 4) (N := some 28) (v := ?_) (a' := ?_) (fl 10 1 [2, 3, 4]) rfl rfl (any_of HT_.out (by kernel_rfl)) (fun _ _ _ h => h) (Or.inl ⟨by rfl, ?_⟩) ?_ ?_
          rotate_left
          ·intro w'
           go_simp
           with_reducible rfl
          rotate_left
          ·simp only [Act.put, List.setIfInBounds_toArray, List.set_cons_zero, List.set_cons_succ, i64_w, i32_w]
           rfl
          refine take_ (i := 1) (N := some 25) (v := ?_) (a' := ?_) (fl 10 5 []) rfl rfl (take_ofW HT_.out HW_.out (by kernel_rfl)) (fun _ _ _ h => h) (Or.inl ⟨by rfl, ?_⟩) hHeld ?_ ?_
          rotate_left
          ·rintro w' ⟨s0, s1⟩
           go_simp
           with_reducible rfl
          rotate_left
          ·simp only [Act.put, List.setIfInBounds_toArray, List.set_cons_zero, List.set_cons_succ, i64_w, i32_w]
           rfl
          refine one_ (i := 5) (N := some 29) (fl 10 6 []) rfl rfl (one_of HT_.out (by kernel_rfl)) (by decide) (fun K hK => ?_)
          refine Kd.R_make_step Kd.bool _ 4 (by rfl) (N := 29) rfl 82 _ _ rfl ji8 rfl rfl Try.underlying82 (.bool false) 1 info4 rfl (by decide) (by omega) false (ok := fun _ => True) (okp := fun _ => True) rfl (fun _ hk => hk) trivial (q15 (by assumption)) (Nat.le_trans (Nat.mul_le_mul_right _ (q15 (by assumption) : ji8.toNat ≤ 281474976710656)) (by omega)) (Below.refl _ _) (q17 _) ?_
          intro v135 w23 ho24 hb hg_ hnew_
          clear hg_ hnew_
          (first | rw [← Ny134.out] at ho24 | (simp only [Int.reduceToNat] at ho24; rw [← Ny134.out] at ho24))
          have n0_ := q13 (Kd.S_elder' (gS HO_128001) (q44 ho24) hb)
          have n1_ := q13 (Kd.S_below (gS HO133) hb)
          have n2_ := q13 (Kd.R_lower ho24 (q7 (by repeat (first | (with_reducible first | exact HB.out | apply q3 | apply q4 | apply q5 | refine q6 ?_ GE126.out | refine q6 ?_ GE127.out) | exact HB.out))))
          have n3_ := q13 (q8 (g := gb126) (o := .cells #[.slice none 0 0, .slice none 0 0] 80 (0, 0)) (gK BK126) hb)
          have n4_ := q13 (q8 (g := gb127) (o := .cells #[.slice Ao19 y131.length co19, u128001] 80 (0, 0)) (gK BK127) hb)
          have n5_ := q13 (q12 (by repeat (first | (with_reducible first | exact HB.out | apply q3 | apply q4 | apply q5 | refine q6 ?_ GE126.out | refine q6 ?_ GE127.out) | exact HB.out)) hb)
          clear HO_128001
          clear HO133
          clear BK126
          clear BK127
          clear HB
          have HO_128001 := n0_
          have HO133 := n1_
          have HO136 := n2_
          have BK126 := n3_
          have BK127 := n4_
          have HB := n5_
          clear n0_ n1_ n2_ n3_ n4_ n5_
          clear hb ho24
          obtain ⟨Ao26, co26, eo26⟩ := Kd.R_slice HO136.out
          (first | subst eo26 | (injection eo26 with f1_ f2_ f3_; have f4_ := f1_.symm; have f5_ := f3_.symm; clear f1_ f2_ f3_; subst f4_; subst f5_))
          refine hK.out _ _ ⟨(q9 BK127.out 0).trans rfl, (q9 BK127.out 1).trans rfl⟩ (fun hHeld => ?_)
          clear hK K
          refine norm_ (a' := ?_) ?_ ?_
          rotate_left
          ·show Act.put _ (some 29) _ = _
           simp only [Act.put, List.setIfInBounds_toArray, List.set_cons_zero, List.set_cons_succ, i64_w, i32_w]
           rfl
          refine one_ (i := 6) (N := some 30) (fl 10 7 []) rfl rfl (one_of HT_.out (by kernel_rfl)) (by decide) (fun K hK => ?_)
          refine value_ (w1 := ?_) (v := ?_) (by rfl) rfl ?_ ?_
          rotate_left 2
          ·go_simp
           constructor
           ·rfl
           ·rfl
          refine hK.out _ _ ⟨(q9 (q2 BK127.out _) 0).trans rfl, (q9 (q2 BK127.out _) 1).trans rfl⟩ (fun hHeld => ?_)
          clear hK K
          refine norm_ (a' := ?_) ?_ ?_
          rotate_left
          ·show Act.put _ (some 30) _ = _
           simp only [Act.put, List.setIfInBounds_toArray, List.set_cons_zero, List.set_cons_succ, i64_w, i32_w]
           rfl
          refine one_ (i := 7) (N := some 31) (fl 10 8 []) rfl rfl (one_of HT_.out (by kernel_rfl)) (by decide) (fun K hK => ?_)
          refine Kd.S_append_step (Kd.slice 4 Kd.bool) (w0 := w) w.heap.size (by rfl) (.tmp 25) (.tmp 30) 78 82 (.slice none 0 0) 24 rfl Try.underlying78 info82 rfl (by decide) (by omega) u128001 x128001_1 y134 [.slice Ao26 y134.length co26] (fun _ => True) (fun k_ => some k_ = (.slice Ao26 y134.length co26 : Value).ownBlock) rfl rfl ?aP (fun k_ hk_ => ((Kd.R_mono (ok' := fun k_ => ((fun _ => True)) k_ ∧ some k_ ≠ (u128001 : Value).ownBlock) (Kd.R_apart' (HO136.out) (Kd.S_typed HO_128001.out) (by decide)) (fun k_ hk => ⟨trivial, hk.2⟩))).1 k_ hk_.symm) ?aF ?aO ?aB ?aS ?aL ?_
          (case aP => exact Kd.M_row (Kd.R_mono (Kd.R_tight rfl (Kd.R_mono (ok' := fun k_ => ((fun _ => True)) k_ ∧ some k_ ≠ (u128001 : Value).ownBlock) (Kd.R_apart' (HO136.out) (Kd.S_typed HO_128001.out) (by decide)) (fun k_ hk => ⟨trivial, hk.2⟩))) (fun _ h_ => h_)))
          (case aB => exact (by repeat (first | (with_reducible first | exact HB.out | apply q3 | apply q4 | apply q5 | refine q6 ?_ GE126.out | refine q6 ?_ GE127.out) | exact HB.out)))
          (case aF => exact (fun _ _ => trivial))
          (case aO => exact (by (with_reducible repeat (first | apply q31 | apply q32 | apply q33)); exact Kd.S_mono HO_128001.out (fun k_ hk => ⟨trivial, fun e_ => hk.2 e_⟩)))
          (case aS => exact (q7 (by repeat (first | (with_reducible first | exact HB.out | apply q3 | apply q4 | apply q5 | refine q6 ?_ GE126.out | refine q6 ?_ GE127.out) | exact HB.out))))
          (case aL => have := LMc13.out; omega)
          intro v138 w25 ho hb hg hat
          rw [← Ny137.out] at ho
          have n0_ := q13 (blk_grown (g := gb126) (o := .cells #[.slice none 0 0, .slice none 0 0] 80 (0, 0)) (gK BK126) hg (Kd.S_ne HO_128001.out BK126.out (by decide)))
          have n1_ := q13 (blk_grown (g := gb127) (o := .cells #[.slice Ao19 y131.length co19, u128001] 80 (0, 0)) (gK BK127) hg (Kd.S_ne HO_128001.out BK127.out (by decide)))
          have n2_ := q13 (Kd.S_over' (gS HO133) (Kd.S_typed (gS HO_128001)) (by decide) hg)
          have n3_ := q13 (hb)
          have n4_ := q13 (ho)
          clear BK126
          clear BK127
          clear HO133
          clear HB
          clear HO_128001
          clear HO136
          have BK126 := n0_
          have BK127 := n1_
          have HO133 := n2_
          have HB := n3_
          have HO139 := n4_
          clear n0_ n1_ n2_ n3_ n4_
          clear ho hb hg hat
          obtain ⟨Ao27, co27, eo27⟩ := Kd.S_slice HO139.out
          (first | subst eo27 | (injection eo27 with f1_ f2_ f3_; have f4_ := f1_.symm; have f5_ := f3_.symm; clear f1_ f2_ f3_; subst f4_; subst f5_))
          refine hK.out _ _ ⟨(q9 BK127.out 0).trans rfl, (q9 BK127.out 1).trans rfl⟩ (fun hHeld => ?_)
          clear hK K
          refine norm_ (a' := ?_) ?_ ?_
          rotate_left
          ·show Act.put _ (some 31) _ = _
           simp only [Act.put, List.setIfInBounds_toArray, List.set_cons_zero, List.set_cons_succ, i64_w, i32_w]
           rfl
          refine pure_ (i := 8) (N := some 32) (v := ?_) (a' := ?_) (fl 10 9 []) rfl rfl (any_of HT_.out (by kernel_rfl)) (fun _ _ _ h => h) (Or.inl ⟨by rfl, ?_⟩) ?_ ?_
          rotate_left
          ·intro w'
           go_simp
           with_reducible rfl
          rotate_left
          ·simp only [Act.put, List.setIfInBounds_toArray, List.set_cons_zero, List.set_cons_succ, i64_w, i32_w]
           rfl
          refine last_ (i := 9) (N := none) (fl 10 10 []) rfl rfl (one_of HT_.out (by kernel_rfl)) (by decide) (fun K hK => ?_)
          have hs28 : w25.cell? ⟨gb127, 1, none⟩ = some (u128001) := (q9 BK127.out 1).trans rfl
          have hfs28 := q11 BK127.out 1
          have hns28_0 := NB126_127.out
          have hms28_0 := NB127_126.out
          refine skip_ (w1 := ?_) (by rfl) rfl ?_ ?_
          rotate_left
          ·go_simp
           rfl
          refine hK.out _ _ ?_
          clear hK K
          refine done_ (done_of HT_.out (by kernel_rfl)) ?_
          try go_wp2
          go_roundg k1
          case measure => have := HK1.out; omega
          case rel => exact ⟨(wrap64 (x13_1 + 1)), (y131), (y137), (.slice Ao19 y131.length co19), (.slice Ao27 y137.length co27), (by first | rfl | (simp; done) | (simp [*]; done)), H', ⟨by have := HK1.out; omega⟩, ⟨by (with_reducible repeat (first | apply q31 | apply q32 | apply q33)); exact Kd.S_mono (Kd.S_far (p := ⟨gb127, 1, none⟩) (Kd.S_types HO133.out BK127.out (by decide)) (fun _ hk => hk.2) (.slice Ao27 y137.length co27)) (fun _ hk => trivial)⟩, ⟨by (with_reducible repeat (first | apply q31 | apply q32 | apply q33)); exact Kd.S_mono (Kd.S_far (p := ⟨gb127, 1, none⟩) (Kd.S_types HO139.out BK127.out (by decide)) (fun _ hk => hk.2) (.slice Ao27 y137.length co27)) (fun _ hk => trivial)⟩, ⟨by (with_reducible repeat (first | refine q0 ?_ _ | refine q1 ?_ | refine q2 ?_ _)); refine blk_far ?_ NB126_127.out _; (with_reducible repeat (first | refine q0 ?_ _ | refine q1 ?_ | refine q2 ?_ _)); exact BK126.out⟩, ⟨by (with_reducible repeat (first | refine q0 ?_ _ | refine q1 ?_ | refine q2 ?_ _)); refine blk_put (cs := #[.slice Ao19 y131.length co19, u128001]) ?_ 1 _ rfl; (with_reducible repeat (first | refine q0 ?_ _ | refine q1 ?_ | refine q2 ?_ _)); exact BK127.out⟩, ⟨by repeat (first | (with_reducible first | exact HB.out | apply q3 | apply q4 | apply q5 | refine q6 ?_ GE126.out | refine q6 ?_ GE127.out) | exact HB.out)⟩⟩
        ·rw [if_neg c13] at H
         exact absurd H (by simp)
       ·rw [if_neg c12] at H
        exact absurd H (by simp)
      ·rw [if_neg c11] at H
       exact absurd H (by simp)
     ·rw [if_neg c10] at H
      exact absurd H (by simp)
    ·rw [if_neg c9] at H
     exact absurd H (by simp)
   ·rw [if_neg c7] at H
    have c7b0 : decide (x13_1 < (wrap64 ((l0.length : Int) + 1))) = false := decide_eq_false c7
    clear c7
    have H' := q13 H
    clear H
    go_wp2
    go_loopg [6] k1 (fun kq v6 w' => ∃ (x6_2 : Int) (x128000_2 : List (List Int)) (x128001_2 : List (List Bool)) (u128000 : Value) (u128001 : Value), v6 = .int .i64 x6_2 ∧ Aside0 (compare_tabled.l1 kq l0 l1 x6_2 x128000_2 x128001_2 = some (r1, r2)) ∧ Aside0 (kq ≤ k1) ∧ Aside0 (Kd.S (Kd.slice 3 (Kd.int .i64)) 67 w' w.heap.size (fun _ => True) u128000 x128000_2) ∧ Aside0 (Kd.S (Kd.slice 4 Kd.bool) 82 w' w.heap.size (fun _ => True) u128001 x128001_2) ∧ Aside0 (w'.heap[gb126]? = some (.cells #[(.slice none 0 0), (.slice none 0 0)] 80 (0, 0))) ∧ Aside0 (w'.heap[gb127]? = some (.cells #[u128000, u128001] 80 (0, 0))) ∧ Aside0 (Below w.heap.size w w'))
    case atStart => exact ⟨((l0.length : Int)), (x128000_1), (x128001_1), (u128000), (u128001), (by first | rfl | (simp; done) | (simp [*]; done)), H', ⟨q17 _⟩, ⟨by (with_reducible repeat (first | apply q31 | apply q32 | apply q33)); exact HO_128000.out⟩, ⟨by (with_reducible repeat (first | apply q31 | apply q32 | apply q33)); exact HO_128001.out⟩, ⟨by (with_reducible repeat (first | refine q0 ?_ _ | refine q1 ?_ | refine q2 ?_ _)); exact BK126.out⟩, ⟨by (with_reducible repeat (first | refine q0 ?_ _ | refine q1 ?_ | refine q2 ?_ _)); exact BK127.out⟩, ⟨by repeat (first | (with_reducible first | exact HB.out | apply q3 | apply q4 | apply q5 | refine q6 ?_ GE126.out | refine q6 ?_ GE127.out) | exact HB.out)⟩⟩
    case round =>
     clear H'
     try clear c1
     try clear p2
     try clear c3
     try clear c5
     try clear p6
     try clear c7
     try clear c7b0
     try clear c9
     try clear c9b0
     try clear c9b1
     try clear c10
     try clear c10b0
     try clear c10b1
     try clear c11
     try clear c12
     try clear c12b0
     try clear c12b1
     try clear c13
     try clear p2
     try clear p6
     obtain ⟨x6_2, x128000_2, x128001_2, u128000, u128001, rfl, HA, HK2, HO_128000, HO_128001, BK126, BK127, HB⟩ := hrel
     cases gk with
     | zero => exact absurd HA.out (by simp [compare_tabled.l1])
     | succ k2 =>
      have H := HA.out
      clear HA
      simp only [compare_tabled.l1] at H
      by_cases c29 : x6_2 ≥ 0
      ·rw [if_pos c29] at H
       have c29b0 : decide (0 ≤ x6_2) = true := decide_eq_true c29
       clear c29
       have H' := q13 H
       clear H
       go_wp2
       go_loopg [7] k2 (fun kq v7 w' => ∃ (x7_3 : Int) (x128000_3 : List (List Int)) (x128001_3 : List (List Bool)) (u128000 : Value) (u128001 : Value), v7 = .int .i64 x7_3 ∧ Aside0 (compare_tabled.l2 kq l0 l1 x6_2 x7_3 x128000_3 x128001_3 = some (r1, r2)) ∧ Aside0 (kq ≤ k2) ∧ Aside0 (Kd.S (Kd.slice 3 (Kd.int .i64)) 67 w' w.heap.size (fun _ => True) u128000 x128000_3) ∧ Aside0 (Kd.S (Kd.slice 4 Kd.bool) 82 w' w.heap.size (fun _ => True) u128001 x128001_3) ∧ Aside0 (w'.heap[gb126]? = some (.cells #[(.slice none 0 0), (.slice none 0 0)] 80 (0, 0))) ∧ Aside0 (w'.heap[gb127]? = some (.cells #[u128000, u128001] 80 (0, 0))) ∧ Aside0 (Below w.heap.size w w'))
       case atStart => exact ⟨((l1.length : Int)), (x128000_2), (x128001_2), (u128000), (u128001), (by first | rfl | (simp; done) | (simp [*]; done)), H', ⟨q17 _⟩, ⟨by (with_reducible repeat (first | apply q31 | apply q32 | apply q33)); exact HO_128000.out⟩, ⟨by (with_reducible repeat (first | apply q31 | apply q32 | apply q33)); exact HO_128001.out⟩, ⟨by (with_reducible repeat (first | refine q0 ?_ _ | refine q1 ?_ | refine q2 ?_ _)); exact BK126.out⟩, ⟨by (with_reducible repeat (first | refine q0 ?_ _ | refine q1 ?_ | refine q2 ?_ _)); exact BK127.out⟩, ⟨by repeat (first | (with_reducible first | exact HB.out | apply q3 | apply q4 | apply q5 | refine q6 ?_ GE126.out | refine q6 ?_ GE127.out) | exact HB.out)⟩⟩
       case round =>
        clear H'
        try clear c1
        try clear c2
        try clear p2
        try clear c3
        try clear c5
        try clear p6
        try clear c7
        try clear c7b0
        try clear c9
        try clear c9b0
        try clear c9b1
        try clear c10
        try clear c10b0
        try clear c10b1
        try clear c11
        try clear c12
        try clear c12b0
        try clear c12b1
        try clear c13
        try clear c29
        try clear c29b0
        try clear p2
        try clear p6
        obtain ⟨x7_3, x128000_3, x128001_3, u128000, u128001, rfl, HA, HK3, HO_128000, HO_128001, BK126, BK127, HB⟩ := hrel
        cases gk with
        | zero => exact absurd HA.out (by simp [compare_tabled.l2])
        | succ k3 =>
         have H := HA.out
         clear HA
         simp only [compare_tabled.l2] at H
         by_cases c30 : x7_3 ≥ 0
         ·rw [if_pos c30] at H
          have c30b0 : decide (0 ≤ x7_3) = true := decide_eq_true c30
          clear c30
          have HC31 := q13 H
          clear H
          go_upto_region 14 with (fail)
          go_cut [61] (fun v61 wc => ∃ (kq : Nat) (x61_30 : Bool), v61 = .bool x61_30 ∧ Aside0 (compare_tabled.j3 kq l0 l1 x6_2 x7_3 (wrap64 ((wrap64 ((l0.length : Int) + (l1.length : Int))) + 1)) x61_30 x128000_3 x128001_3 = some (r1, r2)) ∧ Aside0 (kq ≤ k3) ∧ Aside0 (Kd.S (Kd.slice 3 (Kd.int .i64)) 67 wc w.heap.size (fun _ => True) u128000 x128000_3) ∧ Aside0 (Kd.S (Kd.slice 4 Kd.bool) 82 wc w.heap.size (fun _ => True) u128001 x128001_3) ∧ Aside0 (wc.heap[gb126]? = some (.cells #[(.slice none 0 0), (.slice none 0 0)] 80 (0, 0))) ∧ Aside0 (wc.heap[gb127]? = some (.cells #[u128000, u128001] 80 (0, 0))) ∧ Aside0 (Below w.heap.size w wc))
          case first =>
           have H := HC31.out
           clear HC31
           by_cases c32 : x6_2 = (l0.length : Int)
           ·rw [if_pos c32] at H
            have c32b0 : (x6_2 == (l0.length : Int)) = true := beq_iff_eq.mpr c32
            have c32b1 : (x6_2 != (l0.length : Int)) = false := bne_eq_false_iff_eq.mpr c32
            clear c32
            (first | rw [c32b0] | (simp only [i64_w, i32_w]; rw [c32b0]) | skip)
            as_aux_lemma =>
             have H' := q13 H
             clear H
             go_wp2
             go_meet
             case rel => exact ⟨_, ((x7_3 == (l1.length : Int))), (by first | rfl | (simp; done) | (simp [*]; done)), H', ⟨by have := HK1.out; have := HK2.out; have := HK3.out; first | omega | exact q17 _⟩, ⟨by (with_reducible repeat (first | apply q31 | apply q32 | apply q33)); exact HO_128000.out⟩, ⟨by (with_reducible repeat (first | apply q31 | apply q32 | apply q33)); exact HO_128001.out⟩, ⟨by (with_reducible repeat (first | refine q0 ?_ _ | refine q1 ?_ | refine q2 ?_ _)); exact BK126.out⟩, ⟨by (with_reducible repeat (first | refine q0 ?_ _ | refine q1 ?_ | refine q2 ?_ _)); exact BK127.out⟩, ⟨by repeat (first | (with_reducible first | exact HB.out | apply q3 | apply q4 | apply q5 | refine q6 ?_ GE126.out | refine q6 ?_ GE127.out) | exact HB.out)⟩⟩
           ·rw [if_neg c32] at H
            have c32b0 : (x6_2 == (l0.length : Int)) = false := beq_eq_false_iff_ne.mpr c32
            have c32b1 : (x6_2 != (l0.length : Int)) = true := bne_iff_ne.mpr c32
            (first | rw [c32b0] | (simp only [i64_w, i32_w]; rw [c32b0]) | skip)
            as_aux_lemma =>
             have H' := q13 H
             clear H
             go_wp2
             go_meet
             case rel => exact ⟨_, (false), (by first | rfl | (simp; done) | (simp [*]; done)), H', ⟨by have := HK1.out; have := HK2.out; have := HK3.out; first | omega | exact q17 _⟩, ⟨by (with_reducible repeat (first | apply q31 | apply q32 | apply q33)); exact HO_128000.out⟩, ⟨by (with_reducible repeat (first | apply q31 | apply q32 | apply q33)); exact HO_128001.out⟩, ⟨by (with_reducible repeat (first | refine q0 ?_ _ | refine q1 ?_ | refine q2 ?_ _)); exact BK126.out⟩, ⟨by (with_reducible repeat (first | refine q0 ?_ _ | refine q1 ?_ | refine q2 ?_ _)); exact BK127.out⟩, ⟨by repeat (first | (with_reducible first | exact HB.out | apply q3 | apply q4 | apply q5 | refine q6 ?_ GE126.out | refine q6 ?_ GE127.out) | exact HB.out)⟩⟩
          case rest =>
           clear HC31
           try clear c1
           try clear c2
           try clear p2
           try clear c3
           try clear c5
           try clear p6
           try clear c7
           try clear c7b0
           try clear c9
           try clear c9b0
           try clear c9b1
           try clear c10
           try clear c10b0
           try clear c10b1
           try clear c11
           try clear c12
           try clear c12b0
           try clear c12b1
           try clear c13
           try clear c29
           try clear c29b0
           try clear c30
           try clear c30b0
           try clear c32
           try clear c32b0
           try clear c32b1
           try clear p2
           try clear p6
           obtain ⟨kq, x61_30, rfl, HA, HJ30, HO_128000, HO_128001, BK126, BK127, HB⟩ := hcut
           cases kq with
           | zero => exact absurd HA.out (by simp [compare_tabled.j3])
           | succ kj30 =>
            have H := HA.out
            clear HA
            simp only [compare_tabled.j3] at H
            have HC33 := q13 H
            clear H
            go_upto_if 61 with (fail)
            go_cut [8] (fun v8 wc => ∃ (kq : Nat) (x8_32 : Int), v8 = .int .i64 x8_32 ∧ Aside0 (compare_tabled.j4 kq l0 l1 x6_2 x7_3 x8_32 x128000_3 x128001_3 = some (r1, r2)) ∧ Aside0 (kq ≤ kj30) ∧ Aside0 (Kd.S (Kd.slice 3 (Kd.int .i64)) 67 wc w.heap.size (fun _ => True) u128000 x128000_3) ∧ Aside0 (Kd.S (Kd.slice 4 Kd.bool) 82 wc w.heap.size (fun _ => True) u128001 x128001_3) ∧ Aside0 (wc.heap[gb126]? = some (.cells #[(.slice none 0 0), (.slice none 0 0)] 80 (0, 0))) ∧ Aside0 (wc.heap[gb127]? = some (.cells #[u128000, u128001] 80 (0, 0))) ∧ Aside0 (Below w.heap.size w wc))
            case first =>
             have H := HC33.out
             clear HC33
             by_cases c34 : x61_30 = true
             ·subst c34
              have H1 : (compare_tabled.j4 kj30 l0 l1 x6_2 x7_3 0 x128000_3 x128001_3) = some (r1, r2) := by rw [if_pos rfl] at H; exact H
              clear H
              have H := H1
              clear H1
              as_aux_lemma =>
               have H' := q13 H
               clear H
               go_wp2
               go_meet
               case rel => exact ⟨_, (0), (by first | rfl | (simp; done) | (simp [*]; done)), H', ⟨by have := HK1.out; have := HK2.out; have := HK3.out; have := HJ30.out; first | omega | exact q17 _⟩, ⟨by (with_reducible repeat (first | apply q31 | apply q32 | apply q33)); exact HO_128000.out⟩, ⟨by (with_reducible repeat (first | apply q31 | apply q32 | apply q33)); exact HO_128001.out⟩, ⟨by (with_reducible repeat (first | refine q0 ?_ _ | refine q1 ?_ | refine q2 ?_ _)); exact BK126.out⟩, ⟨by (with_reducible repeat (first | refine q0 ?_ _ | refine q1 ?_ | refine q2 ?_ _)); exact BK127.out⟩, ⟨by repeat (first | (with_reducible first | exact HB.out | apply q3 | apply q4 | apply q5 | refine q6 ?_ GE126.out | refine q6 ?_ GE127.out) | exact HB.out)⟩⟩
             ·replace c34 := Bool.eq_false_iff.mpr c34
              subst c34
              have H1 : (compare_tabled.j4 kj30 l0 l1 x6_2 x7_3 (wrap64 ((wrap64 ((l0.length : Int) + (l1.length : Int))) + 1)) x128000_3 x128001_3) = some (r1, r2) := by rw [if_neg (show ¬ (false = true) by decide)] at H; exact H
              clear H
              have H := H1
              clear H1
              as_aux_lemma =>
               have H' := q13 H
               clear H
               go_wp2
               go_meet
               case rel => exact ⟨_, ((wrap64 ((wrap64 ((l0.length : Int) + (l1.length : Int))) + 1))), (by first | rfl | (simp; done) | (simp [*]; done)), H', ⟨by have := HK1.out; have := HK2.out; have := HK3.out; have := HJ30.out; first | omega | exact q17 _⟩, ⟨by (with_reducible repeat (first | apply q31 | apply q32 | apply q33)); exact HO_128000.out⟩, ⟨by (with_reducible repeat (first | apply q31 | apply q32 | apply q33)); exact HO_128001.out⟩, ⟨by (with_reducible repeat (first | refine q0 ?_ _ | refine q1 ?_ | refine q2 ?_ _)); exact BK126.out⟩, ⟨by (with_reducible repeat (first | refine q0 ?_ _ | refine q1 ?_ | refine q2 ?_ _)); exact BK127.out⟩, ⟨by repeat (first | (with_reducible first | exact HB.out | apply q3 | apply q4 | apply q5 | refine q6 ?_ GE126.out | refine q6 ?_ GE127.out) | exact HB.out)⟩⟩
            case rest =>
             clear HC33
             try clear c1
             try clear c2
             try clear p2
             try clear c3
             try clear c5
             try clear p6
             try clear c7
             try clear c7b0
             try clear c9
             try clear c9b0
             try clear c9b1
             try clear c10
             try clear c10b0
             try clear c10b1
             try clear c11
             try clear c12
             try clear c12b0
             try clear c12b1
             try clear c13
             try clear c29
             try clear c29b0
             try clear c30
             try clear c30b0
             try clear c32
             try clear c32b0
             try clear c32b1
             try clear c34
             try clear p2
             try clear p6
             obtain ⟨kq, x8_32, rfl, HA, HJ32, HO_128000, HO_128001, BK126, BK127, HB⟩ := hcut
             cases kq with
             | zero => exact absurd HA.out (by simp [compare_tabled.j4])
             | succ kj32 =>
              have H := HA.out
              clear HA
              simp only [compare_tabled.j4] at H
              have HC35 := q13 H
              clear H
              go_upto_if 65 with (fail)
              go_cut [8] (fun v8 wc => ∃ (kq : Nat) (x8_34 : Int), v8 = .int .i64 x8_34 ∧ Aside0 (compare_tabled.j5 kq l0 l1 x6_2 x7_3 x8_34 x128000_3 x128001_3 = some (r1, r2)) ∧ Aside0 (kq ≤ kj32) ∧ Aside0 (Kd.S (Kd.slice 3 (Kd.int .i64)) 67 wc w.heap.size (fun _ => True) u128000 x128000_3) ∧ Aside0 (Kd.S (Kd.slice 4 Kd.bool) 82 wc w.heap.size (fun _ => True) u128001 x128001_3) ∧ Aside0 (wc.heap[gb126]? = some (.cells #[(.slice none 0 0), (.slice none 0 0)] 80 (0, 0))) ∧ Aside0 (wc.heap[gb127]? = some (.cells #[u128000, u128001] 80 (0, 0))) ∧ Aside0 (Below w.heap.size w wc))
              case first =>
               have H := HC35.out
               clear HC35
               by_cases c36 : x6_2 < (l0.length : Int)
               ·rw [if_pos c36] at H
                have c36b0 : decide (x6_2 < (l0.length : Int)) = true := decide_eq_true c36
                clear c36
                (first | rw [c36b0] | (simp only [i64_w, i32_w]; rw [c36b0]) | skip)
                obtain ⟨ji37, hji37⟩ : ∃ j_ : Int, (wrap64 (x6_2 + 1)) = j_ := ⟨_, rfl⟩
                replace H : (if 0 ≤ (ji37) then (if (ji37) < (x128000_3.length : Int) then (if 0 ≤ x7_3 then (if x7_3 < ((rd_L2 x128000_3 (ji37)).length : Int) then (compare_tabled.j5 kj32 l0 l1 x6_2 x7_3 (mn x8_32 (wrap64 (1 + (rd (rd_L2 x128000_3 (ji37)) x7_3)))) x128000_3 x128001_3) else (none)) else (none)) else (none)) else (none)) = some (r1, r2) := by first | (rw [hji37] at H; exact H) | (simp only [hji37] at H ⊢; exact H)
                have hji37w : (IntKind.i64.wrap (x6_2 + 1)) = ji37 := (i64_w _).trans hji37
                by_cases c38 : 0 ≤ (ji37)
                ·rw [if_pos c38] at H
                 have c38b0 : decide (0 ≤ (ji37)) = true := decide_eq_true c38
                 clear c38
                 by_cases c39 : (ji37) < (x128000_3.length : Int)
                 ·rw [if_pos c39] at H
                  have c39b0 : decide ((ji37) < (x128000_3.length : Int)) = true := decide_eq_true c39
                  clear c39
                  by_cases c40 : 0 ≤ x7_3
                  ·rw [if_pos c40] at H
                   have c40b0 : decide (0 ≤ x7_3) = true := decide_eq_true c40
                   clear c40
                   by_cases c41 : x7_3 < ((rd_L2 x128000_3 (ji37)).length : Int)
                   ·rw [if_pos c41] at H
                    have c41b0 : decide (x7_3 < ((rd_L2 x128000_3 (ji37)).length : Int)) = true := decide_eq_true c41
                    clear c41
                    obtain ⟨ji42, hji42⟩ : ∃ j_ : Int, (mn x8_32 (wrap64 (1 + (rd (rd_L2 x128000_3 (ji37)) x7_3)))) = j_ := ⟨_, rfl⟩
                    replace H : (compare_tabled.j5 kj32 l0 l1 x6_2 x7_3 ji42 x128000_3 x128001_3) = some (r1, r2) := by first | (rw [hji42] at H; exact H) | (simp only [hji42] at H ⊢; exact H)
                    have hji42_ : (if (wrap64 (1 + (rd (rd_L2 x128000_3 (ji37)) x7_3))) < x8_32 then (wrap64 (1 + (rd (rd_L2 x128000_3 (ji37)) x7_3))) else x8_32) = ji42 := hji42
                    as_aux_lemma =>
                     have H' := q13 H
                     clear H
                     have hnb43 := NB127_126.out
                     have hnc43 := NB126_127.out
                     have hcz44_0 : wc.cell? ⟨gb127, 0, none⟩ = some (u128000) := (q9 BK127.out 0).trans rfl
                     have hcz44_1 : wc.cell? ⟨gb127, 1, none⟩ = some (u128001) := (q9 BK127.out 1).trans rfl
                     have hfz44_0 := q11 BK127.out 0
                     have hfz44_1 := q11 BK127.out 1
                     obtain ⟨Ao45, co45, eo45⟩ := Kd.S_slice HO_128000.out
                     subst eo45
                     have p140 : 0 ≤ ((ji37) : Int) := q15 (by assumption)
                     have q140 : (ji37) < (x128000_3.length : Int) := q15 (by assumption)
                     obtain ⟨ad140, A140_0, c140_0, e140, hx140_0, hl140_0, hi140_0⟩ := at_L2 (Kd.S_reads' HO_128000.out).2.2 (ji37) p140 q140
                     cases e140
                     obtain ⟨ce140, hce140, hMe140, hcc140⟩ := Kd.S_get HO_128000.out [] (ji37) p140 (by first | exact q140 | exact q15 (by assumption) | (have e_ := (Kd.S_reads' HO_128000.out).1; omega))
                     obtain ⟨ve140_0, rfl, ge140_0⟩ := hMe140
                     have hv140_0 := hcc140 0 _ rfl
                     rw [Nat.add_zero, show ((Kd.slice 3 (Kd.int .i64))).sz = 1 from rfl, Nat.mul_one] at hv140_0
                     replace hv140_0 := Option.some.inj (hv140_0.symm.trans hx140_0)
                     rw [hv140_0] at ge140_0
                     have HL140_0 := q13 (show Kd.R (Kd.int .i64) 3 _ _ _ _ (rd_L2 x128000_3 (ji37)) from ge140_0)
                     clear hv140_0 ge140_0
                     have HX140_0 := q13 hx140_0
                     clear hcc140 hce140
                     have HR140_0 := q13 hi140_0
                     have HC140_0 := q13 hl140_0
                     clear hi140_0 hl140_0
                     replace p140 := eq_true p140
                     replace q140 := eq_true q140
                     have p141 : 0 ≤ (x7_3 : Int) := q15 (by assumption)
                     have q141 : x7_3 < ((rd_L2 x128000_3 (ji37)).length : Int) := q15 (by assumption)
                     obtain ⟨ad141, e141, hx141_0⟩ := Kd.at_int (by repeat (first | (with_reducible exact HR140_0.out) | (with_reducible refine q18 ?_ _) | (with_reducible refine q19 ?_ _) | (with_reducible refine q20 ?_) | exact HR140_0.out)) x7_3 p141 q141
                     cases e141
                     replace p141 := eq_true p141
                     replace q141 := eq_true q141
                     go_wp2
                     go_meet
                     case rel => exact ⟨_, (ji42), (by first | rfl | (simp; done) | (simp only [← hji42] <;> (first | rfl | (simp; done) | (simp [mn, mx]; done))) | (simp [*]; done)), H', ⟨by have := HK1.out; have := HK2.out; have := HK3.out; have := HJ30.out; have := HJ32.out; first | omega | exact q17 _⟩, ⟨by (with_reducible repeat (first | apply q31 | apply q32 | apply q33)); exact HO_128000.out⟩, ⟨by (with_reducible repeat (first | apply q31 | apply q32 | apply q33)); exact HO_128001.out⟩, ⟨by (with_reducible repeat (first | refine q0 ?_ _ | refine q1 ?_ | refine q2 ?_ _)); exact BK126.out⟩, ⟨by (with_reducible repeat (first | refine q0 ?_ _ | refine q1 ?_ | refine q2 ?_ _)); exact BK127.out⟩, ⟨by repeat (first | (with_reducible first | exact HB.out | apply q3 | apply q4 | apply q5 | refine q6 ?_ GE126.out | refine q6 ?_ GE127.out) | exact HB.out)⟩⟩
                   ·rw [if_neg c41] at H
                    exact absurd H (by simp)
                  ·rw [if_neg c40] at H
                   exact absurd H (by simp)
                 ·rw [if_neg c39] at H
                  exact absurd H (by simp)
                ·rw [if_neg c38] at H
                 exact absurd H (by simp)
               ·rw [if_neg c36] at H
                have c36b0 : decide (x6_2 < (l0.length : Int)) = false := decide_eq_false c36
                clear c36
                (first | rw [c36b0] | (simp only [i64_w, i32_w]; rw [c36b0]) | skip)
                as_aux_lemma =>
                 have H' := q13 H
                 clear H
                 go_wp2
                 go_meet
                 case rel => exact ⟨_, (x8_32), (by first | rfl | (simp; done) | (simp [*]; done)), H', ⟨by have := HK1.out; have := HK2.out; have := HK3.out; have := HJ30.out; have := HJ32.out; first | omega | exact q17 _⟩, ⟨by (with_reducible repeat (first | apply q31 | apply q32 | apply q33)); exact HO_128000.out⟩, ⟨by (with_reducible repeat (first | apply q31 | apply q32 | apply q33)); exact HO_128001.out⟩, ⟨by (with_reducible repeat (first | refine q0 ?_ _ | refine q1 ?_ | refine q2 ?_ _)); exact BK126.out⟩, ⟨by (with_reducible repeat (first | refine q0 ?_ _ | refine q1 ?_ | refine q2 ?_ _)); exact BK127.out⟩, ⟨by repeat (first | (with_reducible first | exact HB.out | apply q3 | apply q4 | apply q5 | refine q6 ?_ GE126.out | refine q6 ?_ GE127.out) | exact HB.out)⟩⟩
              case rest =>
               clear HC35
               try clear c1
               try clear p1
               try clear q1
               try clear hx1
               try clear c2
               try clear p2
               try clear c3
               try clear c4
               try clear c5
               try clear p6
               try clear c7
               try clear c7b0
               try clear c9
               try clear c9b0
               try clear c9b1
               try clear c10
               try clear c10b0
               try clear c10b1
               try clear c11
               try clear c12
               try clear c12b0
               try clear c12b1
               try clear c13
               try clear c14
               try clear p14
               try clear q14
               try clear hx14
               try clear c29
               try clear c29b0
               try clear c30
               try clear c30b0
               try clear c32
               try clear c32b0
               try clear c32b1
               try clear c34
               try clear c36
               try clear c36b0
               try clear c38
               try clear c38b0
               try clear c39
               try clear c39b0
               try clear c40
               try clear c40b0
               try clear c41
               try clear c41b0
               try clear c43
               try clear hx140_0
               try clear hx141_0
               try clear p140
               try clear p141
               try clear p2
               try clear p6
               try clear q140
               try clear q141
               obtain ⟨kq, x8_34, rfl, HA, HJ34, HO_128000, HO_128001, BK126, BK127, HB⟩ := hcut
               cases kq with
               | zero => exact absurd HA.out (by simp [compare_tabled.j5])
               | succ kj34 =>
                have H := HA.out
                clear HA
                simp only [compare_tabled.j5] at H
                have HC46 := q13 H
                clear H
                go_upto_if 81 with (fail)
                go_cut [8] (fun v8 wc => ∃ (kq : Nat) (x8_45 : Int), v8 = .int .i64 x8_45 ∧ Aside0 (compare_tabled.j6 kq l0 l1 x6_2 x7_3 x8_45 x128000_3 x128001_3 = some (r1, r2)) ∧ Aside0 (kq ≤ kj34) ∧ Aside0 (Kd.S (Kd.slice 3 (Kd.int .i64)) 67 wc w.heap.size (fun _ => True) u128000 x128000_3) ∧ Aside0 (Kd.S (Kd.slice 4 Kd.bool) 82 wc w.heap.size (fun _ => True) u128001 x128001_3) ∧ Aside0 (wc.heap[gb126]? = some (.cells #[(.slice none 0 0), (.slice none 0 0)] 80 (0, 0))) ∧ Aside0 (wc.heap[gb127]? = some (.cells #[u128000, u128001] 80 (0, 0))) ∧ Aside0 (Below w.heap.size w wc))
                case first =>
                 have H := HC46.out
                 clear HC46
                 by_cases c47 : x7_3 < (l1.length : Int)
                 ·rw [if_pos c47] at H
                  have c47b0 : decide (x7_3 < (l1.length : Int)) = true := decide_eq_true c47
                  clear c47
                  (first | rw [c47b0] | (simp only [i64_w, i32_w]; rw [c47b0]) | skip)
                  by_cases c48 : 0 ≤ x6_2
                  ·rw [if_pos c48] at H
                   have c48b0 : decide (0 ≤ x6_2) = true := decide_eq_true c48
                   clear c48
                   by_cases c49 : x6_2 < (x128000_3.length : Int)
                   ·rw [if_pos c49] at H
                    have c49b0 : decide (x6_2 < (x128000_3.length : Int)) = true := decide_eq_true c49
                    clear c49
                    obtain ⟨ji50, hji50⟩ : ∃ j_ : Int, (wrap64 (x7_3 + 1)) = j_ := ⟨_, rfl⟩
                    replace H : (if 0 ≤ (ji50) then (if (ji50) < ((rd_L2 x128000_3 x6_2).length : Int) then (compare_tabled.j6 kj34 l0 l1 x6_2 x7_3 (mn x8_34 (wrap64 (1 + (rd (rd_L2 x128000_3 x6_2) (ji50))))) x128000_3 x128001_3) else (none)) else (none)) = some (r1, r2) := by first | (rw [hji50] at H; exact H) | (simp only [hji50] at H ⊢; exact H)
                    have hji50w : (IntKind.i64.wrap (x7_3 + 1)) = ji50 := (i64_w _).trans hji50
                    by_cases c51 : 0 ≤ (ji50)
                    ·rw [if_pos c51] at H
                     have c51b0 : decide (0 ≤ (ji50)) = true := decide_eq_true c51
                     clear c51
                     by_cases c52 : (ji50) < ((rd_L2 x128000_3 x6_2).length : Int)
                     ·rw [if_pos c52] at H
                      have c52b0 : decide ((ji50) < ((rd_L2 x128000_3 x6_2).length : Int)) = true := decide_eq_true c52
                      clear c52
                      obtain ⟨ji53, hji53⟩ : ∃ j_ : Int, (mn x8_34 (wrap64 (1 + (rd (rd_L2 x128000_3 x6_2) (ji50))))) = j_ := ⟨_, rfl⟩
                      replace H : (compare_tabled.j6 kj34 l0 l1 x6_2 x7_3 ji53 x128000_3 x128001_3) = some (r1, r2) := by first | (rw [hji53] at H; exact H) | (simp only [hji53] at H ⊢; exact H)
                      have hji53_ : (if (wrap64 (1 + (rd (rd_L2 x128000_3 x6_2) (ji50)))) < x8_34 then (wrap64 (1 + (rd (rd_L2 x128000_3 x6_2) (ji50)))) else x8_34) = ji53 := hji53
                      as_aux_lemma =>
                       have H' := q13 H
                       clear H
                       have hnb54 := NB127_126.out
                       have hnc54 := NB126_127.out
                       have hcz55_0 : wc.cell? ⟨gb127, 0, none⟩ = some (u128000) := (q9 BK127.out 0).trans rfl
                       have hcz55_1 : wc.cell? ⟨gb127, 1, none⟩ = some (u128001) := (q9 BK127.out 1).trans rfl
                       have hfz55_0 := q11 BK127.out 0
                       have hfz55_1 := q11 BK127.out 1
                       obtain ⟨Ao56, co56, eo56⟩ := Kd.S_slice HO_128000.out
                       subst eo56
                       have p142 : 0 ≤ (x6_2 : Int) := q15 (by assumption)
                       have q142 : x6_2 < (x128000_3.length : Int) := q15 (by assumption)
                       obtain ⟨ad142, A142_0, c142_0, e142, hx142_0, hl142_0, hi142_0⟩ := at_L2 (Kd.S_reads' HO_128000.out).2.2 x6_2 p142 q142
                       cases e142
                       obtain ⟨ce142, hce142, hMe142, hcc142⟩ := Kd.S_get HO_128000.out [] x6_2 p142 (by first | exact q142 | exact q15 (by assumption) | (have e_ := (Kd.S_reads' HO_128000.out).1; omega))
                       obtain ⟨ve142_0, rfl, ge142_0⟩ := hMe142
                       have hv142_0 := hcc142 0 _ rfl
                       rw [Nat.add_zero, show ((Kd.slice 3 (Kd.int .i64))).sz = 1 from rfl, Nat.mul_one] at hv142_0
                       replace hv142_0 := Option.some.inj (hv142_0.symm.trans hx142_0)
                       rw [hv142_0] at ge142_0
                       have HL142_0 := q13 (show Kd.R (Kd.int .i64) 3 _ _ _ _ (rd_L2 x128000_3 x6_2) from ge142_0)
                       clear hv142_0 ge142_0
                       have HX142_0 := q13 hx142_0
                       clear hcc142 hce142
                       have HR142_0 := q13 hi142_0
                       have HC142_0 := q13 hl142_0
                       clear hi142_0 hl142_0
                       replace p142 := eq_true p142
                       replace q142 := eq_true q142
                       have p143 : 0 ≤ ((ji50) : Int) := q15 (by assumption)
                       have q143 : (ji50) < ((rd_L2 x128000_3 x6_2).length : Int) := q15 (by assumption)
                       obtain ⟨ad143, e143, hx143_0⟩ := Kd.at_int (by repeat (first | (with_reducible exact HR142_0.out) | (with_reducible refine q18 ?_ _) | (with_reducible refine q19 ?_ _) | (with_reducible refine q20 ?_) | exact HR142_0.out)) (ji50) p143 q143
                       cases e143
                       replace p143 := eq_true p143
                       replace q143 := eq_true q143
                       go_wp2
                       go_meet
                       case rel => exact ⟨_, (ji53), (by first | rfl | (simp; done) | (simp only [← hji53] <;> (first | rfl | (simp; done) | (simp [mn, mx]; done))) | (simp [*]; done)), H', ⟨by have := HK1.out; have := HK2.out; have := HK3.out; have := HJ30.out; have := HJ32.out; have := HJ34.out; first | omega | exact q17 _⟩, ⟨by (with_reducible repeat (first | apply q31 | apply q32 | apply q33)); exact HO_128000.out⟩, ⟨by (with_reducible repeat (first | apply q31 | apply q32 | apply q33)); exact HO_128001.out⟩, ⟨by (with_reducible repeat (first | refine q0 ?_ _ | refine q1 ?_ | refine q2 ?_ _)); exact BK126.out⟩, ⟨by (with_reducible repeat (first | refine q0 ?_ _ | refine q1 ?_ | refine q2 ?_ _)); exact BK127.out⟩, ⟨by repeat (first | (with_reducible first | exact HB.out | apply q3 | apply q4 | apply q5 | refine q6 ?_ GE126.out | refine q6 ?_ GE127.out) | exact HB.out)⟩⟩
                     ·rw [if_neg c52] at H
                      exact absurd H (by simp)
                    ·rw [if_neg c51] at H
                     exact absurd H (by simp)
                   ·rw [if_neg c49] at H
                    exact absurd H (by simp)
                  ·rw [if_neg c48] at H
                   exact absurd H (by simp)
                 ·rw [if_neg c47] at H
                  have c47b0 : decide (x7_3 < (l1.length : Int)) = false := decide_eq_false c47
                  clear c47
                  (first | rw [c47b0] | (simp only [i64_w, i32_w]; rw [c47b0]) | skip)
                  as_aux_lemma =>
                   have H' := q13 H
                   clear H
                   go_wp2
                   go_meet
                   case rel => exact ⟨_, (x8_34), (by first | rfl | (simp; done) | (simp [*]; done)), H', ⟨by have := HK1.out; have := HK2.out; have := HK3.out; have := HJ30.out; have := HJ32.out; have := HJ34.out; first | omega | exact q17 _⟩, ⟨by (with_reducible repeat (first | apply q31 | apply q32 | apply q33)); exact HO_128000.out⟩, ⟨by (with_reducible repeat (first | apply q31 | apply q32 | apply q33)); exact HO_128001.out⟩, ⟨by (with_reducible repeat (first | refine q0 ?_ _ | refine q1 ?_ | refine q2 ?_ _)); exact BK126.out⟩, ⟨by (with_reducible repeat (first | refine q0 ?_ _ | refine q1 ?_ | refine q2 ?_ _)); exact BK127.out⟩, ⟨by repeat (first | (with_reducible first | exact HB.out | apply q3 | apply q4 | apply q5 | refine q6 ?_ GE126.out | refine q6 ?_ GE127.out) | exact HB.out)⟩⟩
                case rest =>
                 clear HC46
                 try clear c1
                 try clear p1
                 try clear q1
                 try clear hx1
                 try clear c2
                 try clear p2
                 try clear c3
                 try clear c4
                 try clear c5
                 try clear p6
                 try clear c7
                 try clear c7b0
                 try clear c9
                 try clear c9b0
                 try clear c9b1
                 try clear c10
                 try clear c10b0
                 try clear c10b1
                 try clear c11
                 try clear c12
                 try clear c12b0
                 try clear c12b1
                 try clear c13
                 try clear c14
                 try clear p14
                 try clear q14
                 try clear hx14
                 try clear c29
                 try clear c29b0
                 try clear c30
                 try clear c30b0
                 try clear c32
                 try clear c32b0
                 try clear c32b1
                 try clear c34
                 try clear c36
                 try clear c36b0
                 try clear c38
                 try clear c38b0
                 try clear c39
                 try clear c39b0
                 try clear c40
                 try clear c40b0
                 try clear c41
                 try clear c41b0
                 try clear c43
                 try clear c47
                 try clear c47b0
                 try clear c48
                 try clear c48b0
                 try clear c49
                 try clear c49b0
                 try clear c51
                 try clear c51b0
                 try clear c52
                 try clear c52b0
                 try clear c54
                 try clear hx140_0
                 try clear hx141_0
                 try clear hx142_0
                 try clear hx143_0
                 try clear p1
                 try clear p14
                 try clear p140
                 try clear p141
                 try clear p142
                 try clear p143
                 try clear p2
                 try clear p6
                 try clear q1
                 try clear q14
                 try clear q140
                 try clear q141
                 try clear q142
                 try clear q143
                 obtain ⟨kq, x8_45, rfl, HA, HJ45, HO_128000, HO_128001, BK126, BK127, HB⟩ := hcut
                 cases kq with
                 | zero => exact absurd HA.out (by simp [compare_tabled.j6])
                 | succ kj45 =>
                  have H := HA.out
                  clear HA
                  simp only [compare_tabled.j6] at H
                  have HC57 := q13 H
                  clear H
                  go_upto_region 20 with (fail)
                  go_cut [116] (fun v116 wc => ∃ (kq : Nat) (x116_56 : Bool), v116 = .bool x116_56 ∧ Aside0 (compare_tabled.j7 kq l0 l1 x6_2 x7_3 x8_45 x116_56 x128000_3 x128001_3 = some (r1, r2)) ∧ Aside0 (kq ≤ kj45) ∧ Aside0 (Kd.S (Kd.slice 3 (Kd.int .i64)) 67 wc w.heap.size (fun _ => True) u128000 x128000_3) ∧ Aside0 (Kd.S (Kd.slice 4 Kd.bool) 82 wc w.heap.size (fun _ => True) u128001 x128001_3) ∧ Aside0 (wc.heap[gb126]? = some (.cells #[(.slice none 0 0), (.slice none 0 0)] 80 (0, 0))) ∧ Aside0 (wc.heap[gb127]? = some (.cells #[u128000, u128001] 80 (0, 0))) ∧ Aside0 (Below w.heap.size w wc))
                  case first =>
                   have H := HC57.out
                   clear HC57
                   by_cases c58 : x6_2 < (l0.length : Int)
                   ·rw [if_pos c58] at H
                    have c58b0 : decide (x6_2 < (l0.length : Int)) = true := decide_eq_true c58
                    clear c58
                    (first | rw [c58b0] | (simp only [i64_w, i32_w]; rw [c58b0]) | skip)
                    by_cases c59 : x7_3 < (l1.length : Int)
                    ·rw [if_pos c59] at H
                     have c59b0 : decide (x7_3 < (l1.length : Int)) = true := decide_eq_true c59
                     clear c59
                     by_cases c60 : 0 ≤ x6_2
                     ·rw [if_pos c60] at H
                      have c60b0 : decide (0 ≤ x6_2) = true := decide_eq_true c60
                      clear c60
                      by_cases c61 : 0 ≤ x7_3
                      ·rw [if_pos c61] at H
                       have c61b0 : decide (0 ≤ x7_3) = true := decide_eq_true c61
                       clear c61
                       as_aux_lemma =>
                        have H' := q13 H
                        clear H
                        try go_wp2
                        have n0_ := q13 (q33 HO_128000.out)
                        have n1_ := q13 (q33 HO_128001.out)
                        have n2_ := q13 (q1 BK126.out)
                        have n3_ := q13 (q1 BK127.out)
                        have n4_ := q13 (q5 HB.out)
                        clear HO_128000
                        clear HO_128001
                        clear BK126
                        clear BK127
                        clear HB
                        have HO_128000 := n0_
                        have HO_128001 := n1_
                        have BK126 := n2_
                        have BK127 := n3_
                        have HB := n4_
                        clear n0_ n1_ n2_ n3_ n4_
                        have p144 : 0 ≤ (x6_2 : Int) := q15 (by assumption)
                        have q144 : x6_2 < (l0.length : Int) := q15 (by assumption)
                        obtain ⟨ad144, A144_1, c144_1, e144, hx144_0, hx144_1, hl144_1, hi144_1⟩ := at_T24 HR0.out x6_2 p144 q144
                        have hw144_1 := hx144_1
                        have hw144_0 := hx144_0
                        cases e144
                        replace hx144_0 := cl HB.out hx144_0
                        replace hx144_1 := cl HB.out hx144_1
                        have HR144_1 := q13 hi144_1
                        have HC144_1 := q13 hl144_1
                        clear hi144_1 hl144_1
                        replace p144 := eq_true p144
                        replace q144 := eq_true q144
                        have p145 : 0 ≤ (x7_3 : Int) := q15 (by assumption)
                        have q145 : x7_3 < (l1.length : Int) := q15 (by assumption)
                        obtain ⟨ad145, A145_1, c145_1, e145, hx145_0, hx145_1, hl145_1, hi145_1⟩ := at_T24 HR1.out x7_3 p145 q145
                        have hw145_1 := hx145_1
                        have hw145_0 := hx145_0
                        cases e145
                        replace hx145_0 := cl HB.out hx145_0
                        replace hx145_1 := cl HB.out hx145_1
                        have HR145_1 := q13 hi145_1
                        have HC145_1 := q13 hl145_1
                        clear hi145_1 hl145_1
                        replace p145 := eq_true p145
                        replace q145 := eq_true q145
                        refine start_ (n := 23) (S := fun w' => w'.cell? (ad144.add ((x6_2).toNat * 2)) = some (.int .i64 ((rd_T24 l0 x6_2).f0)) ∧ w'.cell? ⟨(ad144.add ((x6_2).toNat * 2)).block, (ad144.add ((x6_2).toNat * 2)).off + 1, none⟩ = some (.slice A144_1 ((rd_T24 l0 x6_2).f1).length c144_1) ∧ w'.cell? (ad145.add ((x7_3).toNat * 2)) = some (.int .i64 ((rd_T24 l1 x7_3).f0)) ∧ w'.cell? ⟨(ad145.add ((x7_3).toNat * 2)).block, (ad145.add ((x7_3).toNat * 2)).off + 1, none⟩ = some (.slice A145_1 ((rd_T24 l1 x7_3).f1).length c145_1)) (ds := []) (Array.replicate 23 false) (by kernel_rfl) rfl rfl ⟨(cl HB.out hw144_0), (cl HB.out hw144_1), (cl HB.out hw145_0), (cl HB.out hw145_1)⟩ (fun hHeld => ?_); refine with_tabW compare_tabled.tab20 compare_tabled.bits20 (fun HT_ HW_ => ?_)
                        generalize wc.drew = w62 at HO_128000 HO_128001 BK126 BK127 HB HR144_1 HR145_1 hx144_0 hx144_1 hx145_0 hx145_1 hHeld ⊢
                        refine pure_ (i := 0) (N := some 94) (v := ?_) (a' := ?_) (fl 23 1 []) rfl rfl (any_of HT_.out (by kernel_rfl)) (fun _ _ _ h => h) (Or.inl ⟨by rfl, ?_⟩) ?_ ?_
                        rotate_left
                        ·intro w'
                         go_simp
                         with_reducible rfl
                        rotate_left
                        ·simp only [Act.put, List.setIfInBounds_toArray, List.set_cons_zero, List.set_cons_succ, i64_w, i32_w]
                         rfl
                        refine pure_ (i := 1) (N := some 95) (v := ?_) (a' := ?_) (fl 23 2 []) rfl rfl (any_of HT_.out (by kernel_rfl)) (fun _ _ _ h => h) (Or.inl ⟨by rfl, ?_⟩) ?_ ?_
                        rotate_left
                        ·intro w'
                         go_simp
                         with_reducible rfl
                        rotate_left
                        ·simp only [Act.put, List.setIfInBounds_toArray, List.set_cons_zero, List.set_cons_succ, i64_w, i32_w]
                         rfl
                        refine pure_ (i := 2) (N := some 96) (v := ?_) (a' := ?_) (fl 23 3 []) rfl rfl (any_of HT_.out (by kernel_rfl)) (fun _ _ _ h => h) (Or.inl ⟨by rfl, ?_⟩) ?_ ?_
                        rotate_left
                        ·intro w'
                         go_simp
                         with_reducible rfl
                        rotate_left
                        ·simp only [Act.put, List.setIfInBounds_toArray, List.set_cons_zero, List.set_cons_succ, i64_w, i32_w]
                         rfl
                        refine pure_ (i := 3) (N := some 97) (v := ?_) (a' := ?_) (fl 23 4 []) rfl rfl (any_of HT_.out (by kernel_rfl)) (fun _ _ _ h => h) (Or.inl ⟨by rfl, ?_⟩) ?_ ?_
                        rotate_left
                        ·intro w'
                         go_simp
                         with_reducible rfl
                        rotate_left
                        ·simp only [Act.put, List.setIfInBounds_toArray, List.set_cons_zero, List.set_cons_succ, i64_w, i32_w]
                         rfl
                        refine pure_ (i := 4) (N := some 98) (v := ?_) (a' := ?_) (fl 23 5 []) rfl rfl (any_of HT_.out (by kernel_rfl)) (fun _ _ _ h => h) (Or.inl ⟨by rfl, ?_⟩) ?_ ?_
                        rotate_left
                        ·intro w'
                         go_simp
                         with_reducible rfl
                        rotate_left
                        ·simp only [Act.put, List.setIfInBounds_toArray, List.set_cons_zero, List.set_cons_succ, i64_w, i32_w]
                         rfl
                        refine pure_ (i := 5) (N := some 99) (v := ?_) (a' := ?_) (fl 23 6 []) rfl rfl (any_of HT_.out (by kernel_rfl)) (fun _ _ _ h => h) (Or.inl ⟨by rfl, ?_⟩) ?_ ?_
                        rotate_left
                        ·intro w'
                         go_simp
                         with_reducible rfl
                        rotate_left
                        ·simp only [Act.put, List.setIfInBounds_toArray, List.set_cons_zero, List.set_cons_succ, i64_w, i32_w]
                         rfl
                        refine pure_ (i := 6) (N := some 100) (v := ?_) (a' := ?_) (fl 23 7 []) rfl rfl (any_of HT_.out (by kernel_rfl)) (fun _ _ _ h => h) (Or.inl ⟨by rfl, ?_⟩) ?_ ?_
                        rotate_left
                        ·intro w'
                         go_simp
                         with_reducible rfl
                        rotate_left
                        ·simp only [Act.put, List.setIfInBounds_toArray, List.set_cons_zero, List.set_cons_succ, i64_w, i32_w]
                         rfl
                        refine pure_ (i := 7) (N := some 101) (v := ?_) (a' := ?_) (fl 23 8 []) rfl rfl (any_of HT_.out (by kernel_rfl)) (fun _ _ _ h => h) (Or.inl ⟨by rfl, ?_⟩) ?_ ?_
                        rotate_left
                        ·intro w'
                         go_simp
                         with_reducible rfl
                        rotate_left
                        ·simp only [Act.put, List.setIfInBounds_toArray, List.set_cons_zero, List.set_cons_succ, i64_w, i32_w]
                         rfl
                        refine pure_ (i := 8) (N := some 102) (v := ?_) (a' := ?_) (fl 23 9 []) rfl rfl (any_of HT_.out (by kernel_rfl)) (fun _ _ _ h => h) (Or.inl ⟨by rfl, ?_⟩) ?_ ?_
                        rotate_left
                        ·intro w'
                         go_simp
                         with_reducible rfl
                        rotate_left
                        ·simp only [Act.put, List.setIfInBounds_toArray, List.set_cons_zero, List.set_cons_succ, i64_w, i32_w]
                         rfl
                        refine pure_ (i := 9) (N := some 103) (v := ?_) (a' := ?_) (fl 23 10 []) rfl rfl (any_of HT_.out (by kernel_rfl)) (fun _ _ _ h => h) (Or.inl ⟨by rfl, ?_⟩) ?_ ?_
                        rotate_left
                        ·intro w'
                         go_simp
                         with_reducible rfl
                        rotate_left
                        ·simp only [Act.put, List.setIfInBounds_toArray, List.set_cons_zero, List.set_cons_succ, i64_w, i32_w]
                         rfl
                        refine pure_ (i := 10) (N := some 104) (v := ?_) (a' := ?_) (fl 23 11 []) rfl rfl (any_of HT_.out (by kernel_rfl)) (fun _ _ _ h => h) (Or.inl ⟨by rfl, ?_⟩) ?_ ?_
                        rotate_left
                        ·intro w'
                         go_simp
                         with_reducible rfl
                        rotate_left
                        ·simp only [Act.put, List.setIfInBounds_toArray, List.set_cons_zero, List.set_cons_succ, i64_w, i32_w]
                         rfl
                        refine pure_ (i := 11) (N := some 105) (v := ?_) (a' := ?_) (fl 23 12 []) rfl rfl (any_of HT_.out (by kernel_rfl)) (fun _ _ _ h => h) (Or.inl ⟨by rfl, ?_⟩) ?_ ?_
                        rotate_left
                        ·intro w'
                         go_simp
                         with_reducible rfl
                        rotate_left
                        ·simp only [Act.put, List.setIfInBounds_toArray, List.set_cons_zero, List.set_cons_succ, i64_w, i32_w]
                         rfl
                        refine pure_ (i := 12) (N := some 106) (v := ?_) (a' := ?_) (fl 23 13 []) rfl rfl (any_of HT_.out (by kernel_rfl)) (fun _ _ _ h => h) (Or.inl ⟨by rfl, ?_⟩) ?_ ?_
                        rotate_left
                        ·intro w'
                         go_simp
                         with_reducible rfl
                        rotate_left
                        ·simp only [Act.put, List.setIfInBounds_toArray, List.set_cons_zero, List.set_cons_succ, i64_w, i32_w]
                         rfl
                        refine pure_ (i := 13) (N := some 107) (v := ?_) (a' := ?_) (fl 23 14 []) rfl rfl (any_of HT_.out (by kernel_rfl)) (fun _ _ _ h => h) (Or.inl ⟨by rfl, ?_⟩) ?_ ?_
                        rotate_left
                        ·intro w'
                         go_simp
                         with_reducible rfl
                        rotate_left
                        ·simp only [Act.put, List.setIfInBounds_toArray, List.set_cons_zero, List.set_cons_succ, i64_w, i32_w]
                         rfl
                        refine pure_ (i := 14) (N := some 108) (v := ?_) (a' := ?_) (fl 23 15 []) rfl rfl (any_of HT_.out (by kernel_rfl)) (fun _ _ _ h => h) (Or.inl ⟨by rfl, ?_⟩) ?_ ?_
                        rotate_left
                        ·intro w'
                         go_simp
                         with_reducible rfl
                        rotate_left
                        ·simp only [Act.put, List.setIfInBounds_toArray, List.set_cons_zero, List.set_cons_succ, i64_w, i32_w]
                         rfl
                        refine pure_ (i := 16) (N := some 110) (v := ?_) (a' := ?_) (fl 23 15 [16]) rfl rfl (any_of HT_.out (by kernel_rfl)) (fun _ _ _ h => h) (Or.inl ⟨by rfl, ?_⟩) ?_ ?_
                        rotate_left
                        ·intro w'
                         go_simp
                         with_reducible rfl
                        rotate_left
                        ·simp only [Act.put, List.setIfInBounds_toArray, List.set_cons_zero, List.set_cons_succ, i64_w, i32_w]
                         rfl
                        refine pure_ (i := 17) (N := some 111) (v := ?_) (a' := ?_) (fl 23 15 [16, 17]) rfl rfl (any_of HT_.out (by kernel_rfl)) (fun _ _ _ h => h) (Or.inl ⟨by rfl, ?_⟩) ?_ ?_
                        rotate_left
                        ·intro w'
                         go_simp
                         with_reducible rfl
                        rotate_left
                        ·simp only [Act.put, List.setIfInBounds_toArray, List.set_cons_zero, List.set_cons_succ, i64_w, i32_w]
                         rfl
                        refine pure_ (i := 18) (N := some 112) (v := ?_) (a' := ?_) (fl 23 15 [16, 17, 18]) rfl rfl (any_of HT_.out (by kernel_rfl)) (fun _ _ _ h => h) (Or.inl ⟨by rfl, ?_⟩) ?_ ?_
                        rotate_left
                        ·intro w'
                         go_simp
                         with_reducible rfl
                        rotate_left
                        ·simp only [Act.put, List.setIfInBounds_toArray, List.set_cons_zero, List.set_cons_succ, i64_w, i32_w]
                         rfl
                        refine pure_ (i := 19) (N := some 113) (v := ?_) (a' := ?_) (fl 23 15 [16, 17, 18, 19]) rfl rfl (any_of HT_.out (by kernel_rfl)) (fun _ _ _ h => h) (Or.inl ⟨by rfl, ?_⟩) ?_ ?_
                        rotate_left
                        ·intro w'
                         go_simp
                         with_reducible rfl
                        rotate_left
                        ·simp only [Act.put, List.setIfInBounds_toArray, List.set_cons_zero, List.set_cons_succ, i64_w, i32_w]
                         rfl
                        refine take_ (i := 15) (N := some 109) (v := ?_) (a' := ?_) (fl 23 20 []) rfl rfl (take_ofW HT_.out HW_.out (by kernel_rfl)) (fun _ _ _ h => h) (Or.inl ⟨by rfl, ?_⟩) hHeld ?_ ?_
                        rotate_left
                        ·rintro w' ⟨s0, s1, s2, s3⟩
                         go_simp
                         with_reducible rfl
                        rotate_left
                        ·simp only [Act.put, List.setIfInBounds_toArray, List.set_cons_zero, List.set_cons_succ, i64_w, i32_w]
                         rfl
                        refine take_ (i := 20) (N := some 114) (v := ?_) (a' := ?_) (fl 23 21 []) rfl rfl (take_ofW HT_.out HW_.out (by kernel_rfl)) (fun _ _ _ h => h) (Or.inl ⟨by rfl, ?_⟩) hHeld ?_ ?_
                        rotate_left
                        ·rintro w' ⟨s0, s1, s2, s3⟩
                         go_simp
                         with_reducible rfl
                        rotate_left
                        ·simp only [Act.put, List.setIfInBounds_toArray, List.set_cons_zero, List.set_cons_succ, i64_w, i32_w]
                         rfl
                        refine pure_ (i := 21) (N := some 115) (v := ?_) (a' := ?_) (fl 23 22 []) rfl rfl (any_of HT_.out (by kernel_rfl)) (fun _ _ _ h => h) (Or.inl ⟨by rfl, ?_⟩) ?_ ?_
                        rotate_left
                        ·intro w'
                         go_simp
                         with_reducible rfl
                        rotate_left
                        ·simp only [Act.put, List.setIfInBounds_toArray, List.set_cons_zero, List.set_cons_succ, i64_w, i32_w]
                         rfl
                        refine pure_ (i := 22) (N := some 116) (v := ?_) (a' := ?_) (fl 23 23 []) rfl rfl (any_of HT_.out (by kernel_rfl)) (fun _ _ _ h => h) (Or.inl ⟨by rfl, ?_⟩) ?_ ?_
                        rotate_left
                        ·intro w'
                         go_simp
                         with_reducible rfl
                        rotate_left
                        ·simp only [Act.put, List.setIfInBounds_toArray, List.set_cons_zero, List.set_cons_succ, i64_w, i32_w]
                         rfl
                        refine done_ (done_of HT_.out (by kernel_rfl)) ?_
                        try go_wp2
                        go_meet
                        case rel => exact ⟨_, ((((rd_T24 l0 x6_2).f0) == ((rd_T24 l1 x7_3).f0))), (by first | rfl | (simp; done) | (simp [*]; done)), H', ⟨by have := HK1.out; have := HK2.out; have := HK3.out; have := HJ30.out; have := HJ32.out; have := HJ34.out; have := HJ45.out; first | omega | exact q17 _⟩, ⟨by (with_reducible repeat (first | apply q31 | apply q32 | apply q33)); exact HO_128000.out⟩, ⟨by (with_reducible repeat (first | apply q31 | apply q32 | apply q33)); exact HO_128001.out⟩, ⟨by (with_reducible repeat (first | refine q0 ?_ _ | refine q1 ?_ | refine q2 ?_ _)); exact BK126.out⟩, ⟨by (with_reducible repeat (first | refine q0 ?_ _ | refine q1 ?_ | refine q2 ?_ _)); exact BK127.out⟩, ⟨by repeat (first | (with_reducible first | exact HB.out | apply q3 | apply q4 | apply q5 | refine q6 ?_ GE126.out | refine q6 ?_ GE127.out) | exact HB.out)⟩⟩
                      ·rw [if_neg c61] at H
                       exact absurd H (by simp)
                     ·rw [if_neg c60] at H
                      exact absurd H (by simp)
                    ·rw [if_neg c59] at H
                     have c59b0 : decide (x7_3 < (l1.length : Int)) = false := decide_eq_false c59
                     clear c59
                     as_aux_lemma =>
                      have H' := q13 H
                      clear H
                      try go_wp2
                      have n0_ := q13 (q33 HO_128000.out)
                      have n1_ := q13 (q33 HO_128001.out)
                      have n2_ := q13 (q1 BK126.out)
                      have n3_ := q13 (q1 BK127.out)
                      have n4_ := q13 (q5 HB.out)
                      clear HO_128000
                      clear HO_128001
                      clear BK126
                      clear BK127
                      clear HB
                      have HO_128000 := n0_
                      have HO_128001 := n1_
                      have BK126 := n2_
                      have BK127 := n3_
                      have HB := n4_
                      clear n0_ n1_ n2_ n3_ n4_
                      refine start_ (n := 23) (S := fun w' => True) (ds := []) (Array.replicate 23 false) (by kernel_rfl) rfl rfl trivial (fun hHeld => ?_); refine with_tabW compare_tabled.tab20 compare_tabled.bits20 (fun HT_ HW_ => ?_)
                      generalize wc.drew = w63 at HO_128000 HO_128001 BK126 BK127 HB hHeld ⊢
                      refine pure_ (i := 0) (N := some 94) (v := ?_) (a' := ?_) (fl 23 1 []) rfl rfl (any_of HT_.out (by kernel_rfl)) (fun _ _ _ h => h) (Or.inl ⟨by rfl, ?_⟩) ?_ ?_
                      rotate_left
                      ·intro w'
                       go_simp
                       with_reducible rfl
                      rotate_left
                      ·simp only [Act.put, List.setIfInBounds_toArray, List.set_cons_zero, List.set_cons_succ, i64_w, i32_w]
                       rfl
                      refine pure_ (i := 1) (N := some 95) (v := ?_) (a' := ?_) (fl 23 2 []) rfl rfl (any_of HT_.out (by kernel_rfl)) (fun _ _ _ h => h) (Or.inl ⟨by rfl, ?_⟩) ?_ ?_
                      rotate_left
                      ·intro w'
                       go_simp
                       with_reducible rfl
                      rotate_left
                      ·simp only [Act.put, List.setIfInBounds_toArray, List.set_cons_zero, List.set_cons_succ, i64_w, i32_w]
                       rfl
                      refine pure_ (i := 2) (N := some 96) (v := ?_) (a' := ?_) (fl 23 3 []) rfl rfl (any_of HT_.out (by kernel_rfl)) (fun _ _ _ h => h) (Or.inl ⟨by rfl, ?_⟩) ?_ ?_
                      rotate_left
                      ·intro w'
                       go_simp
                       with_reducible rfl
                      rotate_left
                      ·simp only [Act.put, List.setIfInBounds_toArray, List.set_cons_zero, List.set_cons_succ, i64_w, i32_w]
                       rfl
                      refine pure_ (i := 3) (N := some 97) (v := ?_) (a' := ?_) (fl 23 4 []) rfl rfl (any_of HT_.out (by kernel_rfl)) (fun _ _ _ h => h) (Or.inl ⟨by rfl, ?_⟩) ?_ ?_
                      rotate_left
                      ·intro w'
                       go_simp
                       with_reducible rfl
                      rotate_left
                      ·simp only [Act.put, List.setIfInBounds_toArray, List.set_cons_zero, List.set_cons_succ, i64_w, i32_w]
                       rfl
                      refine pure_ (i := 4) (N := some 98) (v := ?_) (a' := ?_) (fl 23 5 []) rfl rfl (any_of HT_.out (by kernel_rfl)) (fun _ _ _ h => h) (Or.inl ⟨by rfl, ?_⟩) ?_ ?_
                      rotate_left
                      ·intro w'
                       go_simp
                       with_reducible rfl
                      rotate_left
                      ·simp only [Act.put, List.setIfInBounds_toArray, List.set_cons_zero, List.set_cons_succ, i64_w, i32_w]
                       rfl
                      refine pure_ (i := 5) (N := some 99) (v := ?_) (a' := ?_) (fl 23 6 []) rfl rfl (any_of HT_.out (by kernel_rfl)) (fun _ _ _ h => h) (Or.inl ⟨by rfl, ?_⟩) ?_ ?_
                      rotate_left
                      ·intro w'
                       go_simp
                       with_reducible rfl
                      rotate_left
                      ·simp only [Act.put, List.setIfInBounds_toArray, List.set_cons_zero, List.set_cons_succ, i64_w, i32_w]
                       rfl
                      refine pure_ (i := 6) (N := some 100) (v := ?_) (a' := ?_) (fl 23 7 []) rfl rfl (any_of HT_.out (by kernel_rfl)) (fun _ _ _ h => h) (Or.inl ⟨by rfl, ?_⟩) ?_ ?_
                      rotate_left
                      ·intro w'
                       go_simp
                       with_reducible rfl
                      rotate_left
                      ·simp only [Act.put, List.setIfInBounds_toArray, List.set_cons_zero, List.set_cons_succ, i64_w, i32_w]
                       rfl
                      refine pure_ (i := 7) (N := some 101) (v := ?_) (a' := ?_) (fl 23 8 []) rfl rfl (any_of HT_.out (by kernel_rfl)) (fun _ _ _ h => h) (Or.inl ⟨by rfl, ?_⟩) ?_ ?_
                      rotate_left
                      ·intro w'
                       go_simp
                       with_reducible rfl
                      rotate_left
                      ·simp only [Act.put, List.setIfInBounds_toArray, List.set_cons_zero, List.set_cons_succ, i64_w, i32_w]
                       rfl
                      refine pure_ (i := 8) (N := some 102) (v := ?_) (a' := ?_) (fl 23 9 []) rfl rfl (any_of HT_.out (by kernel_rfl)) (fun _ _ _ h => h) (Or.inl ⟨by rfl, ?_⟩) ?_ ?_
                      rotate_left
                      ·intro w'
                       go_simp
                       with_reducible rfl
                      rotate_left
                      ·simp only [Act.put, List.setIfInBounds_toArray, List.set_cons_zero, List.set_cons_succ, i64_w, i32_w]
                       rfl
                      refine pure_ (i := 9) (N := some 103) (v := ?_) (a' := ?_) (fl 23 10 []) rfl rfl (any_of HT_.out (by kernel_rfl)) (fun _ _ _ h => h) (Or.inl ⟨by rfl, ?_⟩) ?_ ?_
                      rotate_left
                      ·intro w'
                       go_simp
                       with_reducible rfl
                      rotate_left
                      ·simp only [Act.put, List.setIfInBounds_toArray, List.set_cons_zero, List.set_cons_succ, i64_w, i32_w]
                       rfl
                      refine pure_ (i := 10) (N := some 104) (v := ?_) (a' := ?_) (fl 23 11 []) rfl rfl (any_of HT_.out (by kernel_rfl)) (fun _ _ _ h => h) (Or.inl ⟨by rfl, ?_⟩) ?_ ?_
                      rotate_left
                      ·intro w'
                       go_simp
                       with_reducible rfl
                      rotate_left
                      ·simp only [Act.put, List.setIfInBounds_toArray, List.set_cons_zero, List.set_cons_succ, i64_w, i32_w]
                       rfl
                      refine pure_ (i := 11) (N := some 105) (v := undef) (a' := ?_) (fl 23 12 []) rfl rfl (any_of HT_.out (by kernel_rfl)) (fun _ _ _ h => h) (Or.inr ⟨by rfl, rfl⟩) ?_ ?_
                      rotate_left
                      ·simp only [Act.put, List.setIfInBounds_toArray, List.set_cons_zero, List.set_cons_succ, i64_w, i32_w]
                       rfl
                      refine pure_ (i := 12) (N := some 106) (v := undef) (a' := ?_) (fl 23 13 []) rfl rfl (any_of HT_.out (by kernel_rfl)) (fun _ _ _ h => h) (Or.inr ⟨by rfl, rfl⟩) ?_ ?_
                      rotate_left
                      ·simp only [Act.put, List.setIfInBounds_toArray, List.set_cons_zero, List.set_cons_succ, i64_w, i32_w]
                       rfl
                      refine pure_ (i := 13) (N := some 107) (v := undef) (a' := ?_) (fl 23 14 []) rfl rfl (any_of HT_.out (by kernel_rfl)) (fun _ _ _ h => h) (Or.inr ⟨by rfl, rfl⟩) ?_ ?_
                      rotate_left
                      ·simp only [Act.put, List.setIfInBounds_toArray, List.set_cons_zero, List.set_cons_succ, i64_w, i32_w]
                       rfl
                      refine pure_ (i := 14) (N := some 108) (v := undef) (a' := ?_) (fl 23 15 []) rfl rfl (any_of HT_.out (by kernel_rfl)) (fun _ _ _ h => h) (Or.inr ⟨by rfl, rfl⟩) ?_ ?_
                      rotate_left
                      ·simp only [Act.put, List.setIfInBounds_toArray, List.set_cons_zero, List.set_cons_succ, i64_w, i32_w]
                       rfl
                      refine pure_ (i := 15) (N := some 109) (v := undef) (a' := ?_) (fl 23 16 []) rfl rfl (any_of HT_.out (by kernel_rfl)) (fun _ _ _ h => h) (Or.inr ⟨by rfl, rfl⟩) ?_ ?_
                      rotate_left
                      ·simp only [Act.put, List.setIfInBounds_toArray, List.set_cons_zero, List.set_cons_succ, i64_w, i32_w]
                       rfl
                      refine pure_ (i := 16) (N := some 110) (v := undef) (a' := ?_) (fl 23 17 []) rfl rfl (any_of HT_.out (by kernel_rfl)) (fun _ _ _ h => h) (Or.inr ⟨by rfl, rfl⟩) ?_ ?_
                      rotate_left
                      ·simp only [Act.put, List.setIfInBounds_toArray, List.set_cons_zero, List.set_cons_succ, i64_w, i32_w]
                       rfl
                      refine pure_ (i := 17) (N := some 111) (v := undef) (a' := ?_) (fl 23 18 []) rfl rfl (any_of HT_.out (by kernel_rfl)) (fun _ _ _ h => h) (Or.inr ⟨by rfl, rfl⟩) ?_ ?_
                      rotate_left
                      ·simp only [Act.put, List.setIfInBounds_toArray, List.set_cons_zero, List.set_cons_succ, i64_w, i32_w]
                       rfl
                      refine pure_ (i := 18) (N := some 112) (v := undef) (a' := ?_) (fl 23 19 []) rfl rfl (any_of HT_.out (by kernel_rfl)) (fun _ _ _ h => h) (Or.inr ⟨by rfl, rfl⟩) ?_ ?_
                      rotate_left
                      ·simp only [Act.put, List.setIfInBounds_toArray, List.set_cons_zero, List.set_cons_succ, i64_w, i32_w]
                       rfl
                      refine pure_ (i := 19) (N := some 113) (v := undef) (a' := ?_) (fl 23 20 []) rfl rfl (any_of HT_.out (by kernel_rfl)) (fun _ _ _ h => h) (Or.inr ⟨by rfl, rfl⟩) ?_ ?_
                      rotate_left
                      ·simp only [Act.put, List.setIfInBounds_toArray, List.set_cons_zero, List.set_cons_succ, i64_w, i32_w]
                       rfl
                      refine pure_ (i := 20) (N := some 114) (v := undef) (a' := ?_) (fl 23 21 []) rfl rfl (any_of HT_.out (by kernel_rfl)) (fun _ _ _ h => h) (Or.inr ⟨by rfl, rfl⟩) ?_ ?_
                      rotate_left
                      ·simp only [Act.put, List.setIfInBounds_toArray, List.set_cons_zero, List.set_cons_succ, i64_w, i32_w]
                       rfl
                      refine pure_ (i := 21) (N := some 115) (v := undef) (a' := ?_) (fl 23 22 []) rfl rfl (any_of HT_.out (by kernel_rfl)) (fun _ _ _ h => h) (Or.inr ⟨by rfl, rfl⟩) ?_ ?_
                      rotate_left
                      ·simp only [Act.put, List.setIfInBounds_toArray, List.set_cons_zero, List.set_cons_succ, i64_w, i32_w]
                       rfl
                      refine pure_ (i := 22) (N := some 116) (v := ?_) (a' := ?_) (fl 23 23 []) rfl rfl (any_of HT_.out (by kernel_rfl)) (fun _ _ _ h => h) (Or.inl ⟨by rfl, ?_⟩) ?_ ?_
                      rotate_left
                      ·intro w'
                       go_simp
                       with_reducible rfl
                      rotate_left
                      ·simp only [Act.put, List.setIfInBounds_toArray, List.set_cons_zero, List.set_cons_succ, i64_w, i32_w]
                       rfl
                      refine done_ (done_of HT_.out (by kernel_rfl)) ?_
                      try go_wp2
                      go_meet
                      case rel => exact ⟨_, (false), (by first | rfl | (simp; done) | (simp [*]; done)), H', ⟨by have := HK1.out; have := HK2.out; have := HK3.out; have := HJ30.out; have := HJ32.out; have := HJ34.out; have := HJ45.out; first | omega | exact q17 _⟩, ⟨by (with_reducible repeat (first | apply q31 | apply q32 | apply q33)); exact HO_128000.out⟩, ⟨by (with_reducible repeat (first | apply q31 | apply q32 | apply q33)); exact HO_128001.out⟩, ⟨by (with_reducible repeat (first | refine q0 ?_ _ | refine q1 ?_ | refine q2 ?_ _)); exact BK126.out⟩, ⟨by (with_reducible repeat (first | refine q0 ?_ _ | refine q1 ?_ | refine q2 ?_ _)); exact BK127.out⟩, ⟨by repeat (first | (with_reducible first | exact HB.out | apply q3 | apply q4 | apply q5 | refine q6 ?_ GE126.out | refine q6 ?_ GE127.out) | exact HB.out)⟩⟩
                   ·rw [if_neg c58] at H
                    have c58b0 : decide (x6_2 < (l0.length : Int)) = false := decide_eq_false c58
                    clear c58
                    (first | rw [c58b0] | (simp only [i64_w, i32_w]; rw [c58b0]) | skip)
                    as_aux_lemma =>
                     have H' := q13 H
                     clear H
                     try go_wp2
                     have n0_ := q13 (q33 HO_128000.out)
                     have n1_ := q13 (q33 HO_128001.out)
                     have n2_ := q13 (q1 BK126.out)
                     have n3_ := q13 (q1 BK127.out)
                     have n4_ := q13 (q5 HB.out)
                     clear HO_128000
                     clear HO_128001
                     clear BK126
                     clear BK127
                     clear HB
                     have HO_128000 := n0_
                     have HO_128001 := n1_
                     have BK126 := n2_
                     have BK127 := n3_
                     have HB := n4_
                     clear n0_ n1_ n2_ n3_ n4_
                     refine start_ (n := 23) (S := fun w' => True) (ds := []) (Array.replicate 23 false) (by kernel_rfl) rfl rfl trivial (fun hHeld => ?_); refine with_tabW compare_tabled.tab20 compare_tabled.bits20 (fun HT_ HW_ => ?_)
                     generalize wc.drew = w64 at HO_128000 HO_128001 BK126 BK127 HB hHeld ⊢
                     refine pure_ (i := 0) (N := some 94) (v := ?_) (a' := ?_) (fl 23 1 []) rfl rfl (any_of HT_.out (by kernel_rfl)) (fun _ _ _ h => h) (Or.inl ⟨by rfl, ?_⟩) ?_ ?_
                     rotate_left
                     ·intro w'
                      go_simp
                      with_reducible rfl
                     rotate_left
                     ·simp only [Act.put, List.setIfInBounds_toArray, List.set_cons_zero, List.set_cons_succ, i64_w, i32_w]
                      rfl
                     refine pure_ (i := 1) (N := some 95) (v := ?_) (a' := ?_) (fl 23 2 []) rfl rfl (any_of HT_.out (by kernel_rfl)) (fun _ _ _ h => h) (Or.inl ⟨by rfl, ?_⟩) ?_ ?_
                     rotate_left
                     ·intro w'
                      go_simp
                      with_reducible rfl
                     rotate_left
                     ·simp only [Act.put, List.setIfInBounds_toArray, List.set_cons_zero, List.set_cons_succ, i64_w, i32_w]
                      rfl
                     refine pure_ (i := 2) (N := some 96) (v := ?_) (a' := ?_) (fl 23 3 []) rfl rfl (any_of HT_.out (by kernel_rfl)) (fun _ _ _ h => h) (Or.inl ⟨by rfl, ?_⟩) ?_ ?_
                     rotate_left
                     ·intro w'
                      go_simp
                      with_reducible rfl
                     rotate_left
                     ·simp only [Act.put, List.setIfInBounds_toArray, List.set_cons_zero, List.set_cons_succ, i64_w, i32_w]
                      rfl
                     refine pure_ (i := 3) (N := some 97) (v := ?_) (a' := ?_) (fl 23 4 []) rfl rfl (any_of HT_.out (by kernel_rfl)) (fun _ _ _ h => h) (Or.inl ⟨by rfl, ?_⟩) ?_ ?_
                     rotate_left
                     ·intro w'
                      go_simp
                      with_reducible rfl
                     rotate_left
                     ·simp only [Act.put, List.setIfInBounds_toArray, List.set_cons_zero, List.set_cons_succ, i64_w, i32_w]
                      rfl
                     refine pure_ (i := 4) (N := some 98) (v := ?_) (a' := ?_) (fl 23 5 []) rfl rfl (any_of HT_.out (by kernel_rfl)) (fun _ _ _ h => h) (Or.inl ⟨by rfl, ?_⟩) ?_ ?_
                     rotate_left
                     ·intro w'
                      go_simp
                      with_reducible rfl
                     rotate_left
                     ·simp only [Act.put, List.setIfInBounds_toArray, List.set_cons_zero, List.set_cons_succ, i64_w, i32_w]
                      rfl
                     refine pure_ (i := 5) (N := some 99) (v := undef) (a' := ?_) (fl 23 6 []) rfl rfl (any_of HT_.out (by kernel_rfl)) (fun _ _ _ h => h) (Or.inr ⟨by rfl, rfl⟩) ?_ ?_
                     rotate_left
                     ·simp only [Act.put, List.setIfInBounds_toArray, List.set_cons_zero, List.set_cons_succ, i64_w, i32_w]
                      rfl
                     refine pure_ (i := 6) (N := some 100) (v := undef) (a' := ?_) (fl 23 7 []) rfl rfl (any_of HT_.out (by kernel_rfl)) (fun _ _ _ h => h) (Or.inr ⟨by rfl, rfl⟩) ?_ ?_
                     rotate_left
                     ·simp only [Act.put, List.setIfInBounds_toArray, List.set_cons_zero, List.set_cons_succ, i64_w, i32_w]
                      rfl
                     refine pure_ (i := 7) (N := some 101) (v := undef) (a' := ?_) (fl 23 8 []) rfl rfl (any_of HT_.out (by kernel_rfl)) (fun _ _ _ h => h) (Or.inr ⟨by rfl, rfl⟩) ?_ ?_
                     rotate_left
                     ·simp only [Act.put, List.setIfInBounds_toArray, List.set_cons_zero, List.set_cons_succ, i64_w, i32_w]
                      rfl
                     refine pure_ (i := 8) (N := some 102) (v := undef) (a' := ?_) (fl 23 9 []) rfl rfl (any_of HT_.out (by kernel_rfl)) (fun _ _ _ h => h) (Or.inr ⟨by rfl, rfl⟩) ?_ ?_
                     rotate_left
                     ·simp only [Act.put, List.setIfInBounds_toArray, List.set_cons_zero, List.set_cons_succ, i64_w, i32_w]
                      rfl
                     refine pure_ (i := 9) (N := some 103) (v := ?_) (a' := ?_) (fl 23 10 []) rfl rfl (any_of HT_.out (by kernel_rfl)) (fun _ _ _ h => h) (Or.inl ⟨by rfl, ?_⟩) ?_ ?_
                     rotate_left
                     ·intro w'
                      go_simp
                      with_reducible rfl
                     rotate_left
                     ·simp only [Act.put, List.setIfInBounds_toArray, List.set_cons_zero, List.set_cons_succ, i64_w, i32_w]
                      rfl
                     refine pure_ (i := 10) (N := some 104) (v := ?_) (a' := ?_) (fl 23 11 []) rfl rfl (any_of HT_.out (by kernel_rfl)) (fun _ _ _ h => h) (Or.inl ⟨by rfl, ?_⟩) ?_ ?_
                     rotate_left
                     ·intro w'
                      go_simp
                      with_reducible rfl
                     rotate_left
                     ·simp only [Act.put, List.setIfInBounds_toArray, List.set_cons_zero, List.set_cons_succ, i64_w, i32_w]
                      rfl
                     refine pure_ (i := 11) (N := some 105) (v := undef) (a' := ?_) (fl 23 12 []) rfl rfl (any_of HT_.out (by kernel_rfl)) (fun _ _ _ h => h) (Or.inr ⟨by rfl, rfl⟩) ?_ ?_
                     rotate_left
                     ·simp only [Act.put, List.setIfInBounds_toArray, List.set_cons_zero, List.set_cons_succ, i64_w, i32_w]
                      rfl
                     refine pure_ (i := 12) (N := some 106) (v := undef) (a' := ?_) (fl 23 13 []) rfl rfl (any_of HT_.out (by kernel_rfl)) (fun _ _ _ h => h) (Or.inr ⟨by rfl, rfl⟩) ?_ ?_
                     rotate_left
                     ·simp only [Act.put, List.setIfInBounds_toArray, List.set_cons_zero, List.set_cons_succ, i64_w, i32_w]
                      rfl
                     refine pure_ (i := 13) (N := some 107) (v := undef) (a' := ?_) (fl 23 14 []) rfl rfl (any_of HT_.out (by kernel_rfl)) (fun _ _ _ h => h) (Or.inr ⟨by rfl, rfl⟩) ?_ ?_
                     rotate_left
                     ·simp only [Act.put, List.setIfInBounds_toArray, List.set_cons_zero, List.set_cons_succ, i64_w, i32_w]
                      rfl
                     refine pure_ (i := 14) (N := some 108) (v := undef) (a' := ?_) (fl 23 15 []) rfl rfl (any_of HT_.out (by kernel_rfl)) (fun _ _ _ h => h) (Or.inr ⟨by rfl, rfl⟩) ?_ ?_
                     rotate_left
                     ·simp only [Act.put, List.setIfInBounds_toArray, List.set_cons_zero, List.set_cons_succ, i64_w, i32_w]
                      rfl
                     refine pure_ (i := 15) (N := some 109) (v := undef) (a' := ?_) (fl 23 16 []) rfl rfl (any_of HT_.out (by kernel_rfl)) (fun _ _ _ h => h) (Or.inr ⟨by rfl, rfl⟩) ?_ ?_
                     rotate_left
                     ·simp only [Act.put, List.setIfInBounds_toArray, List.set_cons_zero, List.set_cons_succ, i64_w, i32_w]
                      rfl
                     refine pure_ (i := 16) (N := some 110) (v := undef) (a' := ?_) (fl 23 17 []) rfl rfl (any_of HT_.out (by kernel_rfl)) (fun _ _ _ h => h) (Or.inr ⟨by rfl, rfl⟩) ?_ ?_
                     rotate_left
                     ·simp only [Act.put, List.setIfInBounds_toArray, List.set_cons_zero, List.set_cons_succ, i64_w, i32_w]
                      rfl
                     refine pure_ (i := 17) (N := some 111) (v := undef) (a' := ?_) (fl 23 18 []) rfl rfl (any_of HT_.out (by kernel_rfl)) (fun _ _ _ h => h) (Or.inr ⟨by rfl, rfl⟩) ?_ ?_
                     rotate_left
                     ·simp only [Act.put, List.setIfInBounds_toArray, List.set_cons_zero, List.set_cons_succ, i64_w, i32_w]
                      rfl
                     refine pure_ (i := 18) (N := some 112) (v := undef) (a' := ?_) (fl 23 19 []) rfl rfl (any_of HT_.out (by kernel_rfl)) (fun _ _ _ h => h) (Or.inr ⟨by rfl, rfl⟩) ?_ ?_
                     rotate_left
                     ·simp only [Act.put, List.setIfInBounds_toArray, List.set_cons_zero, List.set_cons_succ, i64_w, i32_w]
                      rfl
                     refine pure_ (i := 19) (N := some 113) (v := undef) (a' := ?_) (fl 23 20 []) rfl rfl (any_of HT_.out (by kernel_rfl)) (fun _ _ _ h => h) (Or.inr ⟨by rfl, rfl⟩) ?_ ?_
                     rotate_left
                     ·simp only [Act.put, List.setIfInBounds_toArray, List.set_cons_zero, List.set_cons_succ, i64_w, i32_w]
                      rfl
                     refine pure_ (i := 20) (N := some 114) (v := undef) (a' := ?_) (fl 23 21 []) rfl rfl (any_of HT_.out (by kernel_rfl)) (fun _ _ _ h => h) (Or.inr ⟨by rfl, rfl⟩) ?_ ?_
                     rotate_left
                     ·simp only [Act.put, List.setIfInBounds_toArray, List.set_cons_zero, List.set_cons_succ, i64_w, i32_w]
                      rfl
                     refine pure_ (i := 21) (N := some 115) (v := undef) (a' := ?_) (fl 23 22 []) rfl rfl (any_of HT_.out (by kernel_rfl)) (fun _ _ _ h => h) (Or.inr ⟨by rfl, rfl⟩) ?_ ?_
                     rotate_left
                     ·simp only [Act.put, List.setIfInBounds_toArray, List.set_cons_zero, List.set_cons_succ, i64_w, i32_w]
                      rfl
                     refine pure_ (i := 22) (N := some 116) (v := ?_) (a' := ?_) (fl 23 23 []) rfl rfl (any_of HT_.out (by kernel_rfl)) (fun _ _ _ h => h) (Or.inl ⟨by rfl, ?_⟩) ?_ ?_
                     rotate_left
                     ·intro w'
                      go_simp
                      with_reducible rfl
                     rotate_left
                     ·simp only [Act.put, List.setIfInBounds_toArray, List.set_cons_zero, List.set_cons_succ, i64_w, i32_w]
                      rfl
                     refine done_ (done_of HT_.out (by kernel_rfl)) ?_
                     try go_wp2
                     go_meet
                     case rel => exact ⟨_, (false), (by first | rfl | (simp; done) | (simp [*]; done)), H', ⟨by have := HK1.out; have := HK2.out; have := HK3.out; have := HJ30.out; have := HJ32.out; have := HJ34.out; have := HJ45.out; first | omega | exact q17 _⟩, ⟨by (with_reducible repeat (first | apply q31 | apply q32 | apply q33)); exact HO_128000.out⟩, ⟨by (with_reducible repeat (first | apply q31 | apply q32 | apply q33)); exact HO_128001.out⟩, ⟨by (with_reducible repeat (first | refine q0 ?_ _ | refine q1 ?_ | refine q2 ?_ _)); exact BK126.out⟩, ⟨by (with_reducible repeat (first | refine q0 ?_ _ | refine q1 ?_ | refine q2 ?_ _)); exact BK127.out⟩, ⟨by repeat (first | (with_reducible first | exact HB.out | apply q3 | apply q4 | apply q5 | refine q6 ?_ GE126.out | refine q6 ?_ GE127.out) | exact HB.out)⟩⟩
                  case rest =>
                   clear HC57
                   try clear c1
                   try clear p1
                   try clear q1
                   try clear hx1
                   try clear p2
                   try clear c5
                   try clear c6
                   try clear c14
                   try clear p14
                   try clear q14
                   try clear hx14
                   try clear c58
                   try clear c58b0
                   try clear c59
                   try clear c59b0
                   try clear c60
                   try clear c60b0
                   try clear c61
                   try clear c61b0
                   try clear hx144_0
                   try clear hx144_1
                   try clear hx145_0
                   try clear hx145_1
                   try clear p144
                   try clear p145
                   try clear q140
                   try clear q141
                   try clear q142
                   try clear q143
                   try clear q144
                   try clear q145
                   obtain ⟨kq, x116_56, rfl, HA, HJ56, HO_128000, HO_128001, BK126, BK127, HB⟩ := hcut
                   cases kq with
                   | zero => exact absurd HA.out (by simp [compare_tabled.j7])
                   | succ kj56 =>
                    have H := HA.out
                    clear HA
                    simp only [compare_tabled.j7] at H
                    by_cases c65 : x116_56 = true
                    ·subst c65
                     have H1 : (if 0 ≤ x6_2 then (if x6_2 < (x128001_3.length : Int) then (if x6_2 < (l0.length : Int) then (if 0 ≤ x7_3 then (if x7_3 < (l1.length : Int) then ((compare_Same.f kj56 ((rd_T24 l0 x6_2).f0) ((rd_T24 l0 x6_2).f1) ((rd_T24 l1 x7_3).f0) ((rd_T24 l1 x7_3).f1)).bind fun t149 => (if x7_3 < ((rd_L7 x128001_3 x6_2).length : Int) then ((some (x128001_3.set (x6_2 : Int).toNat ((rd_L7 x128001_3 x6_2).set (x7_3 : Int).toNat t149) : List (List Bool))).bind fun y152 => (if x7_3 < ((rd_L7 y152 x6_2).length : Int) then (if rdOf false (rd_L7 y152 x6_2) x7_3 = true then (if 0 ≤ (wrap64 (x6_2 + 1)) then (if (wrap64 (x6_2 + 1)) < (x128000_3.length : Int) then (if 0 ≤ (wrap64 (x7_3 + 1)) then (if (wrap64 (x7_3 + 1)) < ((rd_L2 x128000_3 (wrap64 (x6_2 + 1))).length : Int) then (if x6_2 < (x128000_3.length : Int) then (if x7_3 < ((rd_L2 x128000_3 x6_2).length : Int) then (compare_tabled.l2 kj56 l0 l1 x6_2 (wrap64 (x7_3 - 1)) (x128000_3.set (x6_2 : Int).toNat ((rd_L2 x128000_3 x6_2).set (x7_3 : Int).toNat (mn (mn x8_45 (rd (rd_L2 x128000_3 (wrap64 (x6_2 + 1))) (wrap64 (x7_3 + 1)))) (wrap64 (1 + (rd (rd_L2 x128000_3 (wrap64 (x6_2 + 1))) (wrap64 (x7_3 + 1)))))))) y152) else (none)) else (none)) else (none)) else (none)) else (none)) else (none)) else (if 0 ≤ (wrap64 (x6_2 + 1)) then (if (wrap64 (x6_2 + 1)) < (x128000_3.length : Int) then (if 0 ≤ (wrap64 (x7_3 + 1)) then (if (wrap64 (x7_3 + 1)) < ((rd_L2 x128000_3 (wrap64 (x6_2 + 1))).length : Int) then (if x6_2 < (x128000_3.length : Int) then (if x7_3 < ((rd_L2 x128000_3 x6_2).length : Int) then (compare_tabled.l2 kj56 l0 l1 x6_2 (wrap64 (x7_3 - 1)) (x128000_3.set (x6_2 : Int).toNat ((rd_L2 x128000_3 x6_2).set (x7_3 : Int).toNat (mn x8_45 (wrap64 (1 + (rd (rd_L2 x128000_3 (wrap64 (x6_2 + 1))) (wrap64 (x7_3 + 1)))))))) y152) else (none)) else (none)) else (none)) else (none)) else (none)) else (none))) else (none))) else (none))) else (none)) else (none)) else (none)) else (none)) else (none)) = some (r1, r2) := by rw [if_pos rfl] at H; exact H
                     clear H
                     have H := H1
                     clear H1
                     by_cases c66 : 0 ≤ x6_2
                     ·rw [if_pos c66] at H
                      have c66b0 : decide (0 ≤ x6_2) = true := decide_eq_true c66
                      clear c66
                      by_cases c67 : x6_2 < (x128001_3.length : Int)
                      ·rw [if_pos c67] at H
                       have c67b0 : decide (x6_2 < (x128001_3.length : Int)) = true := decide_eq_true c67
                       clear c67
                       by_cases c68 : x6_2 < (l0.length : Int)
                       ·rw [if_pos c68] at H
                        have c68b0 : decide (x6_2 < (l0.length : Int)) = true := decide_eq_true c68
                        clear c68
                        by_cases c69 : 0 ≤ x7_3
                        ·rw [if_pos c69] at H
                         have c69b0 : decide (0 ≤ x7_3) = true := decide_eq_true c69
                         clear c69
                         by_cases c70 : x7_3 < (l1.length : Int)
                         ·rw [if_pos c70] at H
                          have c70b0 : decide (x7_3 < (l1.length : Int)) = true := decide_eq_true c70
                          clear c70
                          replace H := Option.bind_eq_some_iff.mp H
                          obtain ⟨t149, A710, H⟩ := H
                          replace H : (if x7_3 < ((rd_L7 x128001_3 x6_2).length : Int) then ((some (x128001_3.set (x6_2 : Int).toNat ((rd_L7 x128001_3 x6_2).set (x7_3 : Int).toNat t149) : List (List Bool))).bind fun y152 => (if x7_3 < ((rd_L7 y152 x6_2).length : Int) then (if rdOf false (rd_L7 y152 x6_2) x7_3 = true then (if 0 ≤ (wrap64 (x6_2 + 1)) then (if (wrap64 (x6_2 + 1)) < (x128000_3.length : Int) then (if 0 ≤ (wrap64 (x7_3 + 1)) then (if (wrap64 (x7_3 + 1)) < ((rd_L2 x128000_3 (wrap64 (x6_2 + 1))).length : Int) then (if x6_2 < (x128000_3.length : Int) then (if x7_3 < ((rd_L2 x128000_3 x6_2).length : Int) then (compare_tabled.l2 kj56 l0 l1 x6_2 (wrap64 (x7_3 - 1)) (x128000_3.set (x6_2 : Int).toNat ((rd_L2 x128000_3 x6_2).set (x7_3 : Int).toNat (mn (mn x8_45 (rd (rd_L2 x128000_3 (wrap64 (x6_2 + 1))) (wrap64 (x7_3 + 1)))) (wrap64 (1 + (rd (rd_L2 x128000_3 (wrap64 (x6_2 + 1))) (wrap64 (x7_3 + 1)))))))) y152) else (none)) else (none)) else (none)) else (none)) else (none)) else (none)) else (if 0 ≤ (wrap64 (x6_2 + 1)) then (if (wrap64 (x6_2 + 1)) < (x128000_3.length : Int) then (if 0 ≤ (wrap64 (x7_3 + 1)) then (if (wrap64 (x7_3 + 1)) < ((rd_L2 x128000_3 (wrap64 (x6_2 + 1))).length : Int) then (if x6_2 < (x128000_3.length : Int) then (if x7_3 < ((rd_L2 x128000_3 x6_2).length : Int) then (compare_tabled.l2 kj56 l0 l1 x6_2 (wrap64 (x7_3 - 1)) (x128000_3.set (x6_2 : Int).toNat ((rd_L2 x128000_3 x6_2).set (x7_3 : Int).toNat (mn x8_45 (wrap64 (1 + (rd (rd_L2 x128000_3 (wrap64 (x6_2 + 1))) (wrap64 (x7_3 + 1)))))))) y152) else (none)) else (none)) else (none)) else (none)) else (none)) else (none))) else (none))) else (none)) = some (r1, r2) := H
                          have A71 := q13 A710
                          clear A710
                          by_cases c72 : x7_3 < ((rd_L7 x128001_3 x6_2).length : Int)
                          ·rw [if_pos c72] at H
                           have c72b0 : decide (x7_3 < ((rd_L7 x128001_3 x6_2).length : Int)) = true := decide_eq_true c72
                           clear c72
                           obtain ⟨y150, hy150⟩ : ∃ y_ : List Bool, y_ = ((rd_L7 x128001_3 x6_2).set (x7_3 : Int).toNat t149) := ⟨_, rfl⟩
                           replace H : ((some (x128001_3.set (x6_2 : Int).toNat y150 : List (List Bool))).bind fun y152 => (if x7_3 < ((rd_L7 y152 x6_2).length : Int) then (if rdOf false (rd_L7 y152 x6_2) x7_3 = true then (if 0 ≤ (wrap64 (x6_2 + 1)) then (if (wrap64 (x6_2 + 1)) < (x128000_3.length : Int) then (if 0 ≤ (wrap64 (x7_3 + 1)) then (if (wrap64 (x7_3 + 1)) < ((rd_L2 x128000_3 (wrap64 (x6_2 + 1))).length : Int) then (if x6_2 < (x128000_3.length : Int) then (if x7_3 < ((rd_L2 x128000_3 x6_2).length : Int) then (compare_tabled.l2 kj56 l0 l1 x6_2 (wrap64 (x7_3 - 1)) (x128000_3.set (x6_2 : Int).toNat ((rd_L2 x128000_3 x6_2).set (x7_3 : Int).toNat (mn (mn x8_45 (rd (rd_L2 x128000_3 (wrap64 (x6_2 + 1))) (wrap64 (x7_3 + 1)))) (wrap64 (1 + (rd (rd_L2 x128000_3 (wrap64 (x6_2 + 1))) (wrap64 (x7_3 + 1)))))))) y152) else (none)) else (none)) else (none)) else (none)) else (none)) else (none)) else (if 0 ≤ (wrap64 (x6_2 + 1)) then (if (wrap64 (x6_2 + 1)) < (x128000_3.length : Int) then (if 0 ≤ (wrap64 (x7_3 + 1)) then (if (wrap64 (x7_3 + 1)) < ((rd_L2 x128000_3 (wrap64 (x6_2 + 1))).length : Int) then (if x6_2 < (x128000_3.length : Int) then (if x7_3 < ((rd_L2 x128000_3 x6_2).length : Int) then (compare_tabled.l2 kj56 l0 l1 x6_2 (wrap64 (x7_3 - 1)) (x128000_3.set (x6_2 : Int).toNat ((rd_L2 x128000_3 x6_2).set (x7_3 : Int).toNat (mn x8_45 (wrap64 (1 + (rd (rd_L2 x128000_3 (wrap64 (x6_2 + 1))) (wrap64 (x7_3 + 1)))))))) y152) else (none)) else (none)) else (none)) else (none)) else (none)) else (none))) else (none))) = some (r1, r2) := by first | (rw [hy150]; with_reducible exact H) | (have H2_ := (Option.bind_some _ _).symm.trans H; rw [hy150]; with_reducible exact H2_) | (have H2_ := (Option.bind_some _ _).symm.trans H; with_reducible exact H2_) | with_reducible exact H | (rw [hy150]; exact H) | exact H
                           have Ny150 := q13 hy150
                           clear hy150
                           obtain ⟨y152, hy152⟩ : ∃ y_ : List (List Bool), y_ = (x128001_3.set (x6_2 : Int).toNat y150) := ⟨_, rfl⟩
                           replace H : (if x7_3 < ((rd_L7 y152 x6_2).length : Int) then (if rdOf false (rd_L7 y152 x6_2) x7_3 = true then (if 0 ≤ (wrap64 (x6_2 + 1)) then (if (wrap64 (x6_2 + 1)) < (x128000_3.length : Int) then (if 0 ≤ (wrap64 (x7_3 + 1)) then (if (wrap64 (x7_3 + 1)) < ((rd_L2 x128000_3 (wrap64 (x6_2 + 1))).length : Int) then (if x6_2 < (x128000_3.length : Int) then (if x7_3 < ((rd_L2 x128000_3 x6_2).length : Int) then (compare_tabled.l2 kj56 l0 l1 x6_2 (wrap64 (x7_3 - 1)) (x128000_3.set (x6_2 : Int).toNat ((rd_L2 x128000_3 x6_2).set (x7_3 : Int).toNat (mn (mn x8_45 (rd (rd_L2 x128000_3 (wrap64 (x6_2 + 1))) (wrap64 (x7_3 + 1)))) (wrap64 (1 + (rd (rd_L2 x128000_3 (wrap64 (x6_2 + 1))) (wrap64 (x7_3 + 1)))))))) y152) else (none)) else (none)) else (none)) else (none)) else (none)) else (none)) else (if 0 ≤ (wrap64 (x6_2 + 1)) then (if (wrap64 (x6_2 + 1)) < (x128000_3.length : Int) then (if 0 ≤ (wrap64 (x7_3 + 1)) then (if (wrap64 (x7_3 + 1)) < ((rd_L2 x128000_3 (wrap64 (x6_2 + 1))).length : Int) then (if x6_2 < (x128000_3.length : Int) then (if x7_3 < ((rd_L2 x128000_3 x6_2).length : Int) then (compare_tabled.l2 kj56 l0 l1 x6_2 (wrap64 (x7_3 - 1)) (x128000_3.set (x6_2 : Int).toNat ((rd_L2 x128000_3 x6_2).set (x7_3 : Int).toNat (mn x8_45 (wrap64 (1 + (rd (rd_L2 x128000_3 (wrap64 (x6_2 + 1))) (wrap64 (x7_3 + 1)))))))) y152) else (none)) else (none)) else (none)) else (none)) else (none)) else (none))) else (none)) = some (r1, r2) := by first | (rw [hy152]; with_reducible exact H) | (have H2_ := (Option.bind_some _ _).symm.trans H; rw [hy152]; with_reducible exact H2_) | (have H2_ := (Option.bind_some _ _).symm.trans H; with_reducible exact H2_) | with_reducible exact H | (rw [hy152]; exact H) | exact H
                           have Ny152 := q13 hy152
                           clear hy152
                           by_cases c74 : x7_3 < ((rd_L7 y152 x6_2).length : Int)
                           ·rw [if_pos c74] at H
                            have c74b0 : decide (x7_3 < ((rd_L7 y152 x6_2).length : Int)) = true := decide_eq_true c74
                            clear c74
                            obtain ⟨bq75, hbq75⟩ : ∃ b_ : Bool, b_ = (rdOf false (rd_L7 y152 x6_2) x7_3) := ⟨_, rfl⟩
                            replace H : (if bq75 = true then (if 0 ≤ (wrap64 (x6_2 + 1)) then (if (wrap64 (x6_2 + 1)) < (x128000_3.length : Int) then (if 0 ≤ (wrap64 (x7_3 + 1)) then (if (wrap64 (x7_3 + 1)) < ((rd_L2 x128000_3 (wrap64 (x6_2 + 1))).length : Int) then (if x6_2 < (x128000_3.length : Int) then (if x7_3 < ((rd_L2 x128000_3 x6_2).length : Int) then (compare_tabled.l2 kj56 l0 l1 x6_2 (wrap64 (x7_3 - 1)) (x128000_3.set (x6_2 : Int).toNat ((rd_L2 x128000_3 x6_2).set (x7_3 : Int).toNat (mn (mn x8_45 (rd (rd_L2 x128000_3 (wrap64 (x6_2 + 1))) (wrap64 (x7_3 + 1)))) (wrap64 (1 + (rd (rd_L2 x128000_3 (wrap64 (x6_2 + 1))) (wrap64 (x7_3 + 1)))))))) y152) else (none)) else (none)) else (none)) else (none)) else (none)) else (none)) else (if 0 ≤ (wrap64 (x6_2 + 1)) then (if (wrap64 (x6_2 + 1)) < (x128000_3.length : Int) then (if 0 ≤ (wrap64 (x7_3 + 1)) then (if (wrap64 (x7_3 + 1)) < ((rd_L2 x128000_3 (wrap64 (x6_2 + 1))).length : Int) then (if x6_2 < (x128000_3.length : Int) then (if x7_3 < ((rd_L2 x128000_3 x6_2).length : Int) then (compare_tabled.l2 kj56 l0 l1 x6_2 (wrap64 (x7_3 - 1)) (x128000_3.set (x6_2 : Int).toNat ((rd_L2 x128000_3 x6_2).set (x7_3 : Int).toNat (mn x8_45 (wrap64 (1 + (rd (rd_L2 x128000_3 (wrap64 (x6_2 + 1))) (wrap64 (x7_3 + 1)))))))) y152) else (none)) else (none)) else (none)) else (none)) else (none)) else (none))) = some (r1, r2) := by rw [← hbq75] at H; exact H
                            have Nbq75 := q13 hbq75
                            clear hbq75
                            by_cases c76 : bq75 = true
                            ·subst c76
                             have H1 : (if 0 ≤ (wrap64 (x6_2 + 1)) then (if (wrap64 (x6_2 + 1)) < (x128000_3.length : Int) then (if 0 ≤ (wrap64 (x7_3 + 1)) then (if (wrap64 (x7_3 + 1)) < ((rd_L2 x128000_3 (wrap64 (x6_2 + 1))).length : Int) then (if x6_2 < (x128000_3.length : Int) then (if x7_3 < ((rd_L2 x128000_3 x6_2).length : Int) then (compare_tabled.l2 kj56 l0 l1 x6_2 (wrap64 (x7_3 - 1)) (x128000_3.set (x6_2 : Int).toNat ((rd_L2 x128000_3 x6_2).set (x7_3 : Int).toNat (mn (mn x8_45 (rd (rd_L2 x128000_3 (wrap64 (x6_2 + 1))) (wrap64 (x7_3 + 1)))) (wrap64 (1 + (rd (rd_L2 x128000_3 (wrap64 (x6_2 + 1))) (wrap64 (x7_3 + 1)))))))) y152) else (none)) else (none)) else (none)) else (none)) else (none)) else (none)) = some (r1, r2) := by rw [if_pos rfl] at H; exact H
                             clear H
                             have H := H1
                             clear H1
                             obtain ⟨ji77, hji77⟩ : ∃ j_ : Int, (wrap64 (x6_2 + 1)) = j_ := ⟨_, rfl⟩
                             replace H : (if 0 ≤ (ji77) then (if (ji77) < (x128000_3.length : Int) then (if 0 ≤ (wrap64 (x7_3 + 1)) then (if (wrap64 (x7_3 + 1)) < ((rd_L2 x128000_3 (ji77)).length : Int) then (if x6_2 < (x128000_3.length : Int) then (if x7_3 < ((rd_L2 x128000_3 x6_2).length : Int) then (compare_tabled.l2 kj56 l0 l1 x6_2 (wrap64 (x7_3 - 1)) (x128000_3.set (x6_2 : Int).toNat ((rd_L2 x128000_3 x6_2).set (x7_3 : Int).toNat (mn (mn x8_45 (rd (rd_L2 x128000_3 (ji77)) (wrap64 (x7_3 + 1)))) (wrap64 (1 + (rd (rd_L2 x128000_3 (ji77)) (wrap64 (x7_3 + 1)))))))) y152) else (none)) else (none)) else (none)) else (none)) else (none)) else (none)) = some (r1, r2) := by first | (rw [hji77] at H; exact H) | (simp only [hji77] at H ⊢; exact H)
                             (try rw [hji77] at A71)
                             have hji77w : (IntKind.i64.wrap (x6_2 + 1)) = ji77 := (i64_w _).trans hji77
                             by_cases c78 : 0 ≤ (ji77)
                             ·rw [if_pos c78] at H
                              have c78b0 : decide (0 ≤ (ji77)) = true := decide_eq_true c78
                              clear c78
                              by_cases c79 : (ji77) < (x128000_3.length : Int)
                              ·rw [if_pos c79] at H
                               have c79b0 : decide ((ji77) < (x128000_3.length : Int)) = true := decide_eq_true c79
                               clear c79
                               obtain ⟨ji80, hji80⟩ : ∃ j_ : Int, (wrap64 (x7_3 + 1)) = j_ := ⟨_, rfl⟩
                               replace H : (if 0 ≤ (ji80) then (if (ji80) < ((rd_L2 x128000_3 (ji77)).length : Int) then (if x6_2 < (x128000_3.length : Int) then (if x7_3 < ((rd_L2 x128000_3 x6_2).length : Int) then (compare_tabled.l2 kj56 l0 l1 x6_2 (wrap64 (x7_3 - 1)) (x128000_3.set (x6_2 : Int).toNat ((rd_L2 x128000_3 x6_2).set (x7_3 : Int).toNat (mn (mn x8_45 (rd (rd_L2 x128000_3 (ji77)) (ji80))) (wrap64 (1 + (rd (rd_L2 x128000_3 (ji77)) (ji80))))))) y152) else (none)) else (none)) else (none)) else (none)) = some (r1, r2) := by first | (rw [hji80] at H; exact H) | (simp only [hji80] at H ⊢; exact H)
                               (try rw [hji80] at A71)
                               have hji80w : (IntKind.i64.wrap (x7_3 + 1)) = ji80 := (i64_w _).trans hji80
                               by_cases c81 : 0 ≤ (ji80)
                               ·rw [if_pos c81] at H
                                have c81b0 : decide (0 ≤ (ji80)) = true := decide_eq_true c81
                                clear c81
                                by_cases c82 : (ji80) < ((rd_L2 x128000_3 (ji77)).length : Int)
                                ·rw [if_pos c82] at H
                                 have c82b0 : decide ((ji80) < ((rd_L2 x128000_3 (ji77)).length : Int)) = true := decide_eq_true c82
                                 clear c82
                                 obtain ⟨ji83, hji83⟩ : ∃ j_ : Int, (mn x8_45 (rd (rd_L2 x128000_3 (ji77)) (ji80))) = j_ := ⟨_, rfl⟩
                                 replace H : (if x6_2 < (x128000_3.length : Int) then (if x7_3 < ((rd_L2 x128000_3 x6_2).length : Int) then (compare_tabled.l2 kj56 l0 l1 x6_2 (wrap64 (x7_3 - 1)) (x128000_3.set (x6_2 : Int).toNat ((rd_L2 x128000_3 x6_2).set (x7_3 : Int).toNat (mn (ji83) (wrap64 (1 + (rd (rd_L2 x128000_3 (ji77)) (ji80))))))) y152) else (none)) else (none)) = some (r1, r2) := by first | (rw [hji83] at H; exact H) | (simp only [hji83] at H ⊢; exact H)
                                 (try rw [hji83] at A71)
                                 have hji83_ : (if (rd (rd_L2 x128000_3 (ji77)) (ji80)) < x8_45 then (rd (rd_L2 x128000_3 (ji77)) (ji80)) else x8_45) = ji83 := hji83
                                 obtain ⟨ji84, hji84⟩ : ∃ j_ : Int, (mn (ji83) (wrap64 (1 + (rd (rd_L2 x128000_3 (ji77)) (ji80))))) = j_ := ⟨_, rfl⟩
                                 replace H : (if x6_2 < (x128000_3.length : Int) then (if x7_3 < ((rd_L2 x128000_3 x6_2).length : Int) then (compare_tabled.l2 kj56 l0 l1 x6_2 (wrap64 (x7_3 - 1)) (x128000_3.set (x6_2 : Int).toNat ((rd_L2 x128000_3 x6_2).set (x7_3 : Int).toNat (ji84))) y152) else (none)) else (none)) = some (r1, r2) := by first | (rw [hji84] at H; exact H) | (simp only [hji84] at H ⊢; exact H)
                                 (try rw [hji84] at A71)
                                 have hji84_ : (if (wrap64 (1 + (rd (rd_L2 x128000_3 (ji77)) (ji80)))) < (ji83) then (wrap64 (1 + (rd (rd_L2 x128000_3 (ji77)) (ji80)))) else (ji83)) = ji84 := hji84
                                 by_cases c85 : x6_2 < (x128000_3.length : Int)
                                 ·rw [if_pos c85] at H
                                  have c85b0 : decide (x6_2 < (x128000_3.length : Int)) = true := decide_eq_true c85
                                  clear c85
                                  by_cases c86 : x7_3 < ((rd_L2 x128000_3 x6_2).length : Int)
                                  ·rw [if_pos c86] at H
                                   have c86b0 : decide (x7_3 < ((rd_L2 x128000_3 x6_2).length : Int)) = true := decide_eq_true c86
                                   clear c86
                                   obtain ⟨y160, hy160⟩ : ∃ y_ : List Int, y_ = ((rd_L2 x128000_3 x6_2).set (x7_3 : Int).toNat (ji84)) := ⟨_, rfl⟩
                                   replace H : (compare_tabled.l2 kj56 l0 l1 x6_2 (wrap64 (x7_3 - 1)) (x128000_3.set (x6_2 : Int).toNat y160) y152) = some (r1, r2) := by first | (rw [hy160]; with_reducible exact H) | (have H2_ := (Option.bind_some _ _).symm.trans H; rw [hy160]; with_reducible exact H2_) | (have H2_ := (Option.bind_some _ _).symm.trans H; with_reducible exact H2_) | with_reducible exact H | (rw [hy160]; exact H) | exact H
                                   have Ny160 := q13 hy160
                                   clear hy160
                                   obtain ⟨y162, hy162⟩ : ∃ y_ : List (List Int), y_ = (x128000_3.set (x6_2 : Int).toNat y160) := ⟨_, rfl⟩
                                   replace H : (compare_tabled.l2 kj56 l0 l1 x6_2 (wrap64 (x7_3 - 1)) y162 y152) = some (r1, r2) := by first | (rw [hy162]; with_reducible exact H) | (have H2_ := (Option.bind_some _ _).symm.trans H; rw [hy162]; with_reducible exact H2_) | (have H2_ := (Option.bind_some _ _).symm.trans H; with_reducible exact H2_) | with_reducible exact H | (rw [hy162]; exact H) | exact H
                                   have Ny162 := q13 hy162
                                   clear hy162
                                   as_aux_lemma =>
                                    have H' := q13 H
                                    clear H
                                    try go_wp2
                                    have n0_ := q13 (q33 HO_128000.out)
                                    have n1_ := q13 (q33 HO_128001.out)
                                    have n2_ := q13 (q1 BK126.out)
                                    have n3_ := q13 (q1 BK127.out)
                                    have n4_ := q13 (q5 HB.out)
                                    clear HO_128000
                                    clear HO_128001
                                    clear BK126
                                    clear BK127
                                    clear HB
                                    have HO_128000 := n0_
                                    have HO_128001 := n1_
                                    have BK126 := n2_
                                    have BK127 := n3_
                                    have HB := n4_
                                    clear n0_ n1_ n2_ n3_ n4_
                                    obtain ⟨Ao89, co89, eo89⟩ := Kd.S_slice HO_128001.out
                                    (first | subst eo89 | (injection eo89 with f1_ f2_ f3_; have f4_ := f1_.symm; have f5_ := f3_.symm; clear f1_ f2_ f3_; subst f4_; subst f5_))
                                    have p146 : 0 ≤ (x6_2 : Int) := q15 (by assumption)
                                    have q146 : x6_2 < (x128001_3.length : Int) := q15 (by assumption)
                                    obtain ⟨ad146, A146_0, c146_0, e146, hx146_0, hl146_0, hi146_0⟩ := at_L7 (Kd.S_reads' HO_128001.out).2.2 x6_2 p146 q146
                                    cases e146
                                    obtain ⟨ce146, hce146, hMe146, hcc146⟩ := Kd.S_get HO_128001.out [] x6_2 p146 (by first | exact q146 | exact q15 (by assumption) | (have e_ := (Kd.S_reads' HO_128001.out).1; omega))
                                    obtain ⟨ve146_0, rfl, ge146_0⟩ := hMe146
                                    have hv146_0 := hcc146 0 _ rfl
                                    rw [Nat.add_zero, show ((Kd.slice 4 Kd.bool)).sz = 1 from rfl, Nat.mul_one] at hv146_0
                                    replace hv146_0 := Option.some.inj (hv146_0.symm.trans hx146_0)
                                    rw [hv146_0] at ge146_0
                                    have HL146_0 := q13 (show Kd.R Kd.bool 4 _ _ _ _ (rd_L7 x128001_3 x6_2) from ge146_0)
                                    clear hv146_0 ge146_0
                                    have HX146_0 := q13 hx146_0
                                    clear hcc146 hce146
                                    have HR146_0 := q13 hi146_0
                                    have HC146_0 := q13 hl146_0
                                    clear hi146_0 hl146_0
                                    replace p146 := eq_true p146
                                    replace q146 := eq_true q146
                                    have p147 : 0 ≤ (x6_2 : Int) := q15 (by assumption)
                                    have q147 : x6_2 < (l0.length : Int) := q15 (by assumption)
                                    obtain ⟨ad147, A147_1, c147_1, e147, hx147_0, hx147_1, hl147_1, hi147_1⟩ := at_T24 HR0.out x6_2 p147 q147
                                    have hw147_1 := hx147_1
                                    have hw147_0 := hx147_0
                                    cases e147
                                    replace hx147_0 := cl HB.out hx147_0
                                    replace hx147_1 := cl HB.out hx147_1
                                    have HR147_1 := q13 hi147_1
                                    have HC147_1 := q13 hl147_1
                                    clear hi147_1 hl147_1
                                    replace p147 := eq_true p147
                                    replace q147 := eq_true q147
                                    have p148 : 0 ≤ (x7_3 : Int) := q15 (by assumption)
                                    have q148 : x7_3 < (l1.length : Int) := q15 (by assumption)
                                    obtain ⟨ad148, A148_1, c148_1, e148, hx148_0, hx148_1, hl148_1, hi148_1⟩ := at_T24 HR1.out x7_3 p148 q148
                                    have hw148_1 := hx148_1
                                    have hw148_0 := hx148_0
                                    cases e148
                                    replace hx148_0 := cl HB.out hx148_0
                                    replace hx148_1 := cl HB.out hx148_1
                                    have HR148_1 := q13 hi148_1
                                    have HC148_1 := q13 hl148_1
                                    clear hi148_1 hl148_1
                                    replace p148 := eq_true p148
                                    replace q148 := eq_true q148
                                    refine start_ (n := 17) (S := fun w' => w'.cell? ⟨gb127, 0, none⟩ = some (u128000) ∧ w'.cell? ⟨gb127, 1, none⟩ = some (.slice (some ad146) x128001_3.length co89) ∧ w'.cell? (ad146.add (x6_2).toNat) = some (.slice A146_0 (rd_L7 x128001_3 x6_2).length c146_0) ∧ w'.cell? (ad147.add ((x6_2).toNat * 2)) = some (.int .i64 ((rd_T24 l0 x6_2).f0)) ∧ w'.cell? ⟨(ad147.add ((x6_2).toNat * 2)).block, (ad147.add ((x6_2).toNat * 2)).off + 1, none⟩ = some (.slice A147_1 ((rd_T24 l0 x6_2).f1).length c147_1) ∧ w'.cell? (ad148.add ((x7_3).toNat * 2)) = some (.int .i64 ((rd_T24 l1 x7_3).f0)) ∧ w'.cell? ⟨(ad148.add ((x7_3).toNat * 2)).block, (ad148.add ((x7_3).toNat * 2)).off + 1, none⟩ = some (.slice A148_1 ((rd_T24 l1 x7_3).f1).length c148_1)) (ds := [16]) (Array.replicate 17 false) (by kernel_rfl) rfl rfl ⟨(q9 BK127.out 0).trans rfl, (q9 BK127.out 1).trans rfl, hx146_0, (cl HB.out hw147_0), (cl HB.out hw147_1), (cl HB.out hw148_0), (cl HB.out hw148_1)⟩ (fun hHeld => ?_); refine with_tabW compare_tabled.tab21 compare_tabled.bits21 (fun HT_ HW_ => ?_)
                                    generalize wc.drew = w88 at HO_128000 HO_128001 BK126 BK127 HB HL146_0 HR146_0 HR147_1 HR148_1 HX146_0 hx146_0 hx147_0 hx147_1 hx148_0 hx148_1 hHeld ⊢
                                    refine pure_ (i := 0) (N := some 117) (v := ?_) (a' := ?_) (fl 17 1 []) rfl rfl (any_of HT_.out (by kernel_rfl)) (fun _ _ _ h => h) (Or.inl ⟨by rfl, ?_⟩) ?_ ?_
                                    rotate_left
                                    ·intro w'
                                     go_simp
                                     with_reducible rfl
                                    rotate_left
                                    ·simp only [Act.put, List.setIfInBounds_toArray, List.set_cons_zero, List.set_cons_succ, i64_w, i32_w]
                                     rfl
                                    refine pure_ (i := 2) (N := some 119) (v := ?_) (a' := ?_) (fl 17 1 [2]) rfl rfl (any_of HT_.out (by kernel_rfl)) (fun _ _ _ h => h) (Or.inl ⟨by rfl, ?_⟩) ?_ ?_
                                    rotate_left
                                    ·intro w'
                                     go_simp
                                     with_reducible rfl
                                    rotate_left
                                    ·simp only [Act.put, List.setIfInBounds_toArray, List.set_cons_zero, List.set_cons_succ, i64_w, i32_w]
                                     rfl
                                    refine pure_ (i := 5) (N := some 122) (v := ?_) (a' := ?_) (fl 17 1 [2, 5]) rfl rfl (any_of HT_.out (by kernel_rfl)) (fun _ _ _ h => h) (Or.inl ⟨by rfl, ?_⟩) ?_ ?_
                                    rotate_left
                                    ·intro w'
                                     go_simp
                                     with_reducible rfl
                                    rotate_left
                                    ·simp only [Act.put, List.setIfInBounds_toArray, List.set_cons_zero, List.set_cons_succ, i64_w, i32_w]
                                     rfl
                                    refine pure_ (i := 6) (N := some 123) (v := ?_) (a' := ?_) (fl 17 1 [2, 5, 6]) rfl rfl (any_of HT_.out (by kernel_rfl)) (fun _ _ _ h => h) (Or.inl ⟨by rfl, ?_⟩) ?_ ?_
                                    rotate_left
                                    ·intro w'
                                     go_simp
                                     with_reducible rfl
                                    rotate_left
                                    ·simp only [Act.put, List.setIfInBounds_toArray, List.set_cons_zero, List.set_cons_succ, i64_w, i32_w]
                                     rfl
                                    refine pure_ (i := 7) (N := some 124) (v := ?_) (a' := ?_) (fl 17 1 [2, 5, 6, 7]) rfl rfl (any_of HT_.out (by kernel_rfl)) (fun _ _ _ h => h) (Or.inl ⟨by rfl, ?_⟩) ?_ ?_
                                    rotate_left
                                    ·intro w'
                                     go_simp
                                     with_reducible rfl
                                    rotate_left
                                    ·simp only [Act.put, List.setIfInBounds_toArray, List.set_cons_zero, List.set_cons_succ, i64_w, i32_w]
                                     rfl
                                    refine pure_ (i := 8) (N := some 125) (v := ?_) (a' := ?_) (fl 17 1 [2, 5, 6, 7, 8]) rfl rfl (any_of HT_.out (by kernel_rfl)) (fun _ _ _ h => h) (Or.inl ⟨by rfl, ?_⟩) ?_ ?_
                                    rotate_left
                                    ·intro w'
                                     go_simp
                                     with_reducible rfl
                                    rotate_left
                                    ·simp only [Act.put, List.setIfInBounds_toArray, List.set_cons_zero, List.set_cons_succ, i64_w, i32_w]
                                     rfl
                                    refine pure_ (i := 10) (N := some 127) (v := ?_) (a' := ?_) (fl 17 1 [2, 5, 6, 7, 8, 10]) rfl rfl (any_of HT_.out (by kernel_rfl)) (fun _ _ _ h => h) (Or.inl ⟨by rfl, ?_⟩) ?_ ?_
                                    rotate_left
                                    ·intro w'
                                     go_simp
                                     with_reducible rfl
                                    rotate_left
                                    ·simp only [Act.put, List.setIfInBounds_toArray, List.set_cons_zero, List.set_cons_succ, i64_w, i32_w]
                                     rfl
                                    refine pure_ (i := 11) (N := some 128) (v := ?_) (a' := ?_) (fl 17 1 [2, 5, 6, 7, 8, 10, 11]) rfl rfl (any_of HT_.out (by kernel_rfl)) (fun _ _ _ h => h) (Or.inl ⟨by rfl, ?_⟩) ?_ ?_
                                    rotate_left
                                    ·intro w'
                                     go_simp
                                     with_reducible rfl
                                    rotate_left
                                    ·simp only [Act.put, List.setIfInBounds_toArray, List.set_cons_zero, List.set_cons_succ, i64_w, i32_w]
                                     rfl
                                    refine pure_ (i := 12) (N := some 129) (v := ?_) (a' := ?_) (fl 17 1 [2, 5, 6, 7, 8, 10, 11, 12]) rfl rfl (any_of HT_.out (by kernel_rfl)) (fun _ _ _ h => h) (Or.inl ⟨by rfl, ?_⟩) ?_ ?_
                                    rotate_left
                                    ·intro w'
                                     go_simp
                                     with_reducible rfl
                                    rotate_left
                                    ·simp only [Act.put, List.setIfInBounds_toArray, List.set_cons_zero, List.set_cons_succ, i64_w, i32_w]
                                     rfl
                                    refine take_ (i := 1) (N := some 118) (v := ?_) (a' := ?_) (fl 17 3 [5, 6, 7, 8, 10, 11, 12]) rfl rfl (take_ofW HT_.out HW_.out (by kernel_rfl)) (fun _ _ _ h => h) (Or.inl ⟨by rfl, ?_⟩) hHeld ?_ ?_
                                    rotate_left
                                    ·rintro w' ⟨s0, s1, s2, s3, s4, s5, s6⟩
                                     go_simp
                                     with_reducible rfl
                                    rotate_left
                                    ·simp only [Act.put, List.setIfInBounds_toArray, List.set_cons_zero, List.set_cons_succ, i64_w, i32_w]
                                     rfl
                                    refine pure_ (i := 3) (N := some 120) (v := ?_) (a' := ?_) (fl 17 4 [5, 6, 7, 8, 10, 11, 12]) rfl rfl (any_of HT_.out (by kernel_rfl)) (fun _ _ _ h => h) (Or.inl ⟨by rfl, ?_⟩) ?_ ?_
                                    rotate_left
                                    ·intro w'
                                     go_simp
                                     with_reducible rfl
                                    rotate_left
                                    ·simp only [Act.put, List.setIfInBounds_toArray, List.set_cons_zero, List.set_cons_succ, i64_w, i32_w]
                                     rfl
                                    refine take_ (i := 4) (N := some 121) (v := ?_) (a' := ?_) (fl 17 9 [10, 11, 12]) rfl rfl (take_ofW HT_.out HW_.out (by kernel_rfl)) (fun _ _ _ h => h) (Or.inl ⟨by rfl, ?_⟩) hHeld ?_ ?_
                                    rotate_left
                                    ·rintro w' ⟨s0, s1, s2, s3, s4, s5, s6⟩
                                     go_simp
                                     with_reducible rfl
                                    rotate_left
                                    ·simp only [Act.put, List.setIfInBounds_toArray, List.set_cons_zero, List.set_cons_succ, i64_w, i32_w]
                                     rfl
                                    refine take_ (i := 9) (N := some 126) (v := ?_) (a' := ?_) (fl 17 13 []) rfl rfl (take_ofW HT_.out HW_.out (by kernel_rfl)) (fun _ _ _ h => h) (Or.inl ⟨by rfl, ?_⟩) hHeld ?_ ?_
                                    rotate_left
                                    ·rintro w' ⟨s0, s1, s2, s3, s4, s5, s6⟩
                                     go_simp
                                     with_reducible rfl
                                    rotate_left
                                    ·simp only [Act.put, List.setIfInBounds_toArray, List.set_cons_zero, List.set_cons_succ, i64_w, i32_w]
                                     rfl
                                    refine take_ (i := 13) (N := some 130) (v := ?_) (a' := ?_) (fl 17 14 []) rfl rfl (take_ofW HT_.out HW_.out (by kernel_rfl)) (fun _ _ _ h => h) (Or.inl ⟨by rfl, ?_⟩) hHeld ?_ ?_
                                    rotate_left
                                    ·rintro w' ⟨s0, s1, s2, s3, s4, s5, s6⟩
                                     go_simp
                                     with_reducible rfl
                                    rotate_left
                                    ·simp only [Act.put, List.setIfInBounds_toArray, List.set_cons_zero, List.set_cons_succ, i64_w, i32_w]
                                     rfl
                                    refine one_ (i := 14) (N := some 131) (fl 17 15 []) rfl rfl (one_of HT_.out (by kernel_rfl)) (by decide) (fun K hK => ?_)
                                    refine goes_ Try.func13 (by kernel_rfl) rfl #[.agg #[.int .i64 ((rd_T24 l0 x6_2).f0), .slice A147_1 ((rd_T24 l0 x6_2).f1).length c147_1], .agg #[.int .i64 ((rd_T24 l1 x7_3).f0), .slice A148_1 ((rd_T24 l1 x7_3).f1).length c148_1]] (by rfl) rfl rfl (by (try simp only [List.map_toArray, List.map_cons, List.map_nil]); first | done | rfl | (simp only [List.length_drop, List.length_take]; rfl)) ?_
                                    with_reducible refine (compare_Same.calls kj56 ((rd_T24 l0 x6_2).f0) _ _ ((rd_T24 l0 x6_2).f1) ((rd_T24 l1 x7_3).f0) _ _ ((rd_T24 l1 x7_3).f1) t149 _ ?side1 ?side2 ?side3 ?side4 A71.out).mono ?_
                                    (case side1 => repeat (first | exact (Kd.C_below HR147_1.out HB.out) | (with_reducible refine q18 ?_ _) | (with_reducible refine q19 ?_ _) | (with_reducible refine q20 ?_)))
                                    (case side2 => exact HC147_1.out)
                                    (case side3 => repeat (first | exact (Kd.C_below HR148_1.out HB.out) | (with_reducible refine q18 ?_ _) | (with_reducible refine q19 ?_ _) | (with_reducible refine q20 ?_)))
                                    (case side4 => exact HC148_1.out)
                                    rintro e w90 ⟨rfl, hb⟩
                                    have HS2_ := (hb.cell (q14 _ _ (hHeld.2.2.1))).trans (hHeld.2.2.1)
                                    refine ⟨_, rfl, ?_⟩
                                    have n0_ := q13 (Kd.S_below (gS HO_128000) hb)
                                    have n1_ := q13 (Kd.S_below (gS HO_128001) hb)
                                    have n2_ := q13 (Kd.R_below (gR HL146_0) hb)
                                    have n3_ := q13 (q8 (g := gb126) (o := .cells #[.slice none 0 0, .slice none 0 0] 80 (0, 0)) (gK BK126) hb)
                                    have n4_ := q13 (q8 (g := gb127) (o := .cells #[u128000, .slice (some ad146) x128001_3.length co89] 80 (0, 0)) (gK BK127) hb)
                                    have n5_ := q13 (Kd.C_below (by repeat (first | (with_reducible exact HR146_0.out) | (with_reducible refine q18 ?_ _) | (with_reducible refine q19 ?_ _) | (with_reducible refine q20 ?_) | exact HR146_0.out)) hb)
                                    have n6_ := q13 (pw_cell_below hb HX146_0.out)
                                    have n7_ := q13 (q12 (by repeat (first | (with_reducible first | exact HB.out | apply q3 | apply q4 | apply q5 | refine q6 ?_ GE126.out | refine q6 ?_ GE127.out) | exact HB.out)) hb)
                                    clear HO_128000
                                    clear HO_128001
                                    clear HL146_0
                                    clear BK126
                                    clear BK127
                                    clear HR146_0
                                    clear HX146_0
                                    clear HB
                                    have HO_128000 := n0_
                                    have HO_128001 := n1_
                                    have HL146_0 := n2_
                                    have BK126 := n3_
                                    have BK127 := n4_
                                    have HR146_0 := n5_
                                    have HX146_0 := n6_
                                    have HB := n7_
                                    clear n0_ n1_ n2_ n3_ n4_ n5_ n6_ n7_
                                    (try clear hb)
                                    (try clear hb2)
                                    (try clear hk)
                                    (try clear hi)
                                    have p73 : 0 ≤ (x7_3 : Int) := q15 (by assumption)
                                    have q73 : (x7_3 : Int) < (((rd_L7 x128001_3 x6_2).length : Int) : Int) := q15 (by assumption)
                                    obtain ⟨go73, co73, eo73, gb73, gl73, cl73, HG73⟩ := Kd.R_form HL146_0.out (by omega)
                                    (first | cases eo73 | (injection eo73 with ea_ en_ ec_; (first | subst ea_ | (injection ea_ with ea_; subst ea_)); subst ec_; clear en_))
                                    have GB73 := q13 gb73
                                    have GG73 := q13 HG73
                                    clear gb73 gl73 HG73
                                    obtain ⟨hx73_0, hf73_0⟩ := Kd.R_celln false HL146_0.out (x7_3 : Int) p73 q73
                                    replace p73 := eq_true p73
                                    replace q73 := eq_true q73
                                    have hq91 : (x6_2 : Int) < (x128001_3.length : Int) := (by have h_ : (x6_2 : Int) < ((x128001_3.length : Int) : Int) := q15 (by assumption); first | exact h_ | (have e_ := (Kd.S_reads' HO_128001.out).1; omega) | simpa only [List.length_set, List.length_set] using h_)
                                    obtain ⟨oki91, ce91, hcl91, hM91, hcc91, hok91, hbk91⟩ := Kd.S_borrow HO_128001.out [] (x6_2 : Int) (q15 (by assumption)) hq91
                                    obtain ⟨ve91_0, rfl, ge91_0⟩ := hM91
                                    have hv91 := hcc91 0 _ rfl
                                    rw [Nat.add_zero, show ((Kd.slice 4 Kd.bool)).sz = 1 from rfl, Nat.mul_one] at hv91
                                    replace hv91 := Option.some.inj (hv91.symm.trans HX146_0.out)
                                    subst hv91
                                    clear hcc91 hcl91
                                    replace ge91_0 := (show Kd.R Kd.bool 4 _ _ _ _ (rd_L7 x128001_3 x6_2) from ge91_0)
                                    have HP91 := Kd.R_putg ge91_0 (x7_3 : Int) t149
                                    rw [← Ny150.out] at HP91
                                    have HS91 := hbk91 HP91.2 (fun k_ e_ => by injection e_ with e_; subst e_; exact ge91_0.1 _ rfl) (x' := y150) (Kd.M_row HP91.1)
                                    rw [← Ny152.out] at HS91
                                    have HQ91 := q13 HS91
                                    clear HP91 HS91 hbk91 hok91
                                    refine hK.out _ _ ⟨(q9 BK127.out 0).trans rfl, (q9 BK127.out 1).trans rfl, HS2_, (cl HB.out hw147_0), (cl HB.out hw147_1), (cl HB.out hw148_0), (cl HB.out hw148_1)⟩ (fun hHeld => ?_)
                                    clear hK K
                                    refine norm_ (a' := ?_) ?_ ?_
                                    rotate_left
                                    ·show Act.put _ (some 131) _ = _
                                     simp only [Act.put, List.setIfInBounds_toArray, List.set_cons_zero, List.set_cons_succ, i64_w, i32_w]
                                     rfl
                                    refine pure_ (i := 15) (N := some 132) (v := ?_) (a' := ?_) (fl 17 16 []) rfl rfl (any_of HT_.out (by kernel_rfl)) (fun _ _ _ h => h) (Or.inl ⟨by rfl, ?_⟩) ?_ ?_
                                    rotate_left
                                    ·intro w'
                                     go_simp
                                     with_reducible rfl
                                    rotate_left
                                    ·simp only [Act.put, List.setIfInBounds_toArray, List.set_cons_zero, List.set_cons_succ, i64_w, i32_w]
                                     rfl
                                    refine last_ (i := 16) (N := none) (fl 17 17 []) rfl rfl (one_of HT_.out (by kernel_rfl)) (by decide) (fun K hK => ?_)
                                    refine skip_ (w1 := ?_) (by rfl) rfl ?_ ?_
                                    rotate_left
                                    ·go_simp
                                     rfl
                                    refine hK.out _ _ ?_
                                    clear hK K
                                    refine done_ (done_of HT_.out (by kernel_rfl)) ?_
                                    have n0_ : Aside0 (Kd.S (Kd.slice 3 (Kd.int .i64)) 67 (w90.setCell ⟨go73, (x7_3 : Int).toNat, none⟩ (.bool t149)) w.heap.size (fun _ => True) u128000 x128000_3) := ⟨by (with_reducible repeat (first | apply q31 | apply q32 | apply q33)); exact Kd.S_mono (Kd.S_far (p := ⟨go73, (x7_3 : Int).toNat, none⟩) (Kd.S_types HO_128000.out GG73.out (by decide)) (fun _ hk => hk.2) (.bool t149)) (fun _ hk => trivial)⟩
                                    have n1_ : Aside0 (Kd.S (Kd.slice 4 Kd.bool) 82 (w90.setCell ⟨go73, (x7_3 : Int).toNat, none⟩ (.bool t149)) w.heap.size (fun _ => True) (.slice (some ad146) x128001_3.length co89) y152) := ⟨by (with_reducible repeat (first | apply q31 | apply q32 | apply q33)); exact HQ91.out⟩
                                    have n2_ : Aside0 ((w90.setCell ⟨go73, (x7_3 : Int).toNat, none⟩ (.bool t149)).heap[gb126]? = some (.cells #[.slice none 0 0, .slice none 0 0] 80 (0, 0))) := ⟨by (with_reducible repeat (first | refine q0 ?_ _ | refine q1 ?_ | refine q2 ?_ _)); refine blk_far ?_ (by have h_ := Kd.R_ne HL146_0.out BK126.out (by decide); intro e_; exact h_ (by rw [e_]; rfl)) _; (with_reducible repeat (first | refine q0 ?_ _ | refine q1 ?_ | refine q2 ?_ _)); exact BK126.out⟩
                                    have n3_ : Aside0 ((w90.setCell ⟨go73, (x7_3 : Int).toNat, none⟩ (.bool t149)).heap[gb127]? = some (.cells #[u128000, .slice (some ad146) x128001_3.length co89] 80 (0, 0))) := ⟨by (with_reducible repeat (first | refine q0 ?_ _ | refine q1 ?_ | refine q2 ?_ _)); refine blk_far ?_ (by have h_ := Kd.R_ne HL146_0.out BK127.out (by decide); intro e_; exact h_ (by rw [e_]; rfl)) _; (with_reducible repeat (first | refine q0 ?_ _ | refine q1 ?_ | refine q2 ?_ _)); exact BK127.out⟩
                                    have n4_ : Aside0 (Below w.heap.size w (w90.setCell ⟨go73, (x7_3 : Int).toNat, none⟩ (.bool t149))) := ⟨by repeat (first | (with_reducible first | exact HB.out | apply q3 | apply q4 | apply q5 | refine q6 ?_ GB73.out | refine q6 ?_ GE126.out | refine q6 ?_ GE127.out) | exact HB.out)⟩
                                    (try clear HO_128000)
                                    (try clear HO_128001)
                                    (try clear BK126)
                                    (try clear BK127)
                                    (try clear HB)
                                    generalize (w90.setCell ⟨go73, (x7_3 : Int).toNat, none⟩ (.bool t149)) = w93 at n0_ n1_ n2_ n3_ n4_ ⊢
                                    have HO_128000 := n0_
                                    have HO_128001 := n1_
                                    have BK126 := n2_
                                    have BK127 := n3_
                                    have HB := n4_
                                    clear n0_ n1_ n2_ n3_ n4_
                                    have hnb94 := NB127_126.out
                                    have hnc94 := NB126_127.out
                                    have hcz95_0 : w93.cell? ⟨gb127, 0, none⟩ = some (u128000) := (q9 BK127.out 0).trans rfl
                                    have hcz95_1 : w93.cell? ⟨gb127, 1, none⟩ = some (.slice (some ad146) x128001_3.length co89) := (q9 BK127.out 1).trans rfl
                                    have hfz95_0 := q11 BK127.out 0
                                    have hfz95_1 := q11 BK127.out 1
                                    have p153 : 0 ≤ (x6_2 : Int) := q15 (by assumption)
                                    have q153 : x6_2 < (y152.length : Int) := (by have h_ : (x6_2 : Int) < ((x128001_3.length : Int) : Int) := q15 (by assumption); first | (have e_ := (Kd.S_reads' HO_128001.out).1; omega) | simpa only [Ny152.out, List.length_set] using h_)
                                    have ql153 : ((x6_2 : Int) < ((x128001_3.length : Int) : Int)) = True := eq_true (q15 (by assumption))
                                    obtain ⟨ad153, A153_0, c153_0, e153, hx153_0, hl153_0, hi153_0⟩ := at_L7 (Kd.S_reads' HO_128001.out).2.2 x6_2 p153 q153
                                    obtain rfl : ad146 = ad153 := (by injection e153)
                                    obtain ⟨ce153, hce153, hMe153, hcc153⟩ := Kd.S_get HO_128001.out [] x6_2 p153 (by first | exact q153 | exact q15 (by assumption) | (have e_ := (Kd.S_reads' HO_128001.out).1; omega))
                                    obtain ⟨ve153_0, rfl, ge153_0⟩ := hMe153
                                    have hv153_0 := hcc153 0 _ rfl
                                    rw [Nat.add_zero, show ((Kd.slice 4 Kd.bool)).sz = 1 from rfl, Nat.mul_one] at hv153_0
                                    replace hv153_0 := Option.some.inj (hv153_0.symm.trans hx153_0)
                                    rw [hv153_0] at ge153_0
                                    have HL153_0 := q13 (show Kd.R Kd.bool 4 _ _ _ _ (rd_L7 y152 x6_2) from ge153_0)
                                    clear hv153_0 ge153_0
                                    have HX153_0 := q13 hx153_0
                                    clear hcc153 hce153
                                    have HR153_0 := q13 hi153_0
                                    have HC153_0 := q13 hl153_0
                                    clear hi153_0 hl153_0
                                    replace p153 := eq_true p153
                                    replace q153 := eq_true q153
                                    have p154 : 0 ≤ (x7_3 : Int) := q15 (by assumption)
                                    have q154 : x7_3 < ((rd_L7 y152 x6_2).length : Int) := q15 (by assumption)
                                    obtain ⟨ad154, e154, hx154_0⟩ := Kd.at_bool (by repeat (first | (with_reducible exact HR153_0.out) | (with_reducible refine q18 ?_ _) | (with_reducible refine q19 ?_ _) | (with_reducible refine q20 ?_) | exact HR153_0.out)) x7_3 p154 q154
                                    (try rw [← Nbq75.out] at hx154_0)
                                    cases e154
                                    replace p154 := eq_true p154
                                    replace q154 := eq_true q154
                                    obtain ⟨Ao96, co96, eo96⟩ := Kd.S_slice HO_128000.out
                                    subst eo96
                                    have p155 : 0 ≤ ((ji77) : Int) := q15 (by assumption)
                                    have q155 : (ji77) < (x128000_3.length : Int) := q15 (by assumption)
                                    obtain ⟨ad155, A155_0, c155_0, e155, hx155_0, hl155_0, hi155_0⟩ := at_L2 (Kd.S_reads' HO_128000.out).2.2 (ji77) p155 q155
                                    cases e155
                                    obtain ⟨ce155, hce155, hMe155, hcc155⟩ := Kd.S_get HO_128000.out [] (ji77) p155 (by first | exact q155 | exact q15 (by assumption) | (have e_ := (Kd.S_reads' HO_128000.out).1; omega))
                                    obtain ⟨ve155_0, rfl, ge155_0⟩ := hMe155
                                    have hv155_0 := hcc155 0 _ rfl
                                    rw [Nat.add_zero, show ((Kd.slice 3 (Kd.int .i64))).sz = 1 from rfl, Nat.mul_one] at hv155_0
                                    replace hv155_0 := Option.some.inj (hv155_0.symm.trans hx155_0)
                                    rw [hv155_0] at ge155_0
                                    have HL155_0 := q13 (show Kd.R (Kd.int .i64) 3 _ _ _ _ (rd_L2 x128000_3 (ji77)) from ge155_0)
                                    clear hv155_0 ge155_0
                                    have HX155_0 := q13 hx155_0
                                    clear hcc155 hce155
                                    have HR155_0 := q13 hi155_0
                                    have HC155_0 := q13 hl155_0
                                    clear hi155_0 hl155_0
                                    replace p155 := eq_true p155
                                    replace q155 := eq_true q155
                                    have p156 : 0 ≤ ((ji80) : Int) := q15 (by assumption)
                                    have q156 : (ji80) < ((rd_L2 x128000_3 (ji77)).length : Int) := q15 (by assumption)
                                    obtain ⟨ad156, e156, hx156_0⟩ := Kd.at_int (by repeat (first | (with_reducible exact HR155_0.out) | (with_reducible refine q18 ?_ _) | (with_reducible refine q19 ?_ _) | (with_reducible refine q20 ?_) | exact HR155_0.out)) (ji80) p156 q156
                                    cases e156
                                    replace p156 := eq_true p156
                                    replace q156 := eq_true q156
                                    have p157 : 0 ≤ ((ji77) : Int) := q15 (by assumption)
                                    have q157 : (ji77) < (x128000_3.length : Int) := q15 (by assumption)
                                    obtain ⟨ad157, A157_0, c157_0, e157, hx157_0, hl157_0, hi157_0⟩ := at_L2 (Kd.S_reads' HO_128000.out).2.2 (ji77) p157 q157
                                    obtain rfl : ad155 = ad157 := (by injection e157)
                                    obtain ⟨ce157, hce157, hMe157, hcc157⟩ := Kd.S_get HO_128000.out [] (ji77) p157 (by first | exact q157 | exact q15 (by assumption) | (have e_ := (Kd.S_reads' HO_128000.out).1; omega))
                                    obtain ⟨ve157_0, rfl, ge157_0⟩ := hMe157
                                    have hv157_0 := hcc157 0 _ rfl
                                    rw [Nat.add_zero, show ((Kd.slice 3 (Kd.int .i64))).sz = 1 from rfl, Nat.mul_one] at hv157_0
                                    replace hv157_0 := Option.some.inj (hv157_0.symm.trans hx157_0)
                                    rw [hv157_0] at ge157_0
                                    have HL157_0 := q13 (show Kd.R (Kd.int .i64) 3 _ _ _ _ (rd_L2 x128000_3 (ji77)) from ge157_0)
                                    clear hv157_0 ge157_0
                                    have HX157_0 := q13 hx157_0
                                    clear hcc157 hce157
                                    have HR157_0 := q13 hi157_0
                                    have HC157_0 := q13 hl157_0
                                    clear hi157_0 hl157_0
                                    replace p157 := eq_true p157
                                    replace q157 := eq_true q157
                                    have ea_ := Option.some.inj (hx155_0.symm.trans hx157_0)
                                    injection ea_ with ea_ en_ ec_
                                    subst ea_
                                    subst ec_
                                    clear en_
                                    have p158 : 0 ≤ ((ji80) : Int) := q15 (by assumption)
                                    have q158 : (ji80) < ((rd_L2 x128000_3 (ji77)).length : Int) := q15 (by assumption)
                                    obtain ⟨ad158, e158, hx158_0⟩ := Kd.at_int (by repeat (first | (with_reducible exact HR157_0.out) | (with_reducible refine q18 ?_ _) | (with_reducible refine q19 ?_ _) | (with_reducible refine q20 ?_) | exact HR157_0.out)) (ji80) p158 q158
                                    cases e158
                                    replace p158 := eq_true p158
                                    replace q158 := eq_true q158
                                    have p159 : 0 ≤ (x6_2 : Int) := q15 (by assumption)
                                    have q159 : x6_2 < (x128000_3.length : Int) := q15 (by assumption)
                                    obtain ⟨ad159, A159_0, c159_0, e159, hx159_0, hl159_0, hi159_0⟩ := at_L2 (Kd.S_reads' HO_128000.out).2.2 x6_2 p159 q159
                                    obtain rfl : ad155 = ad159 := (by injection e159)
                                    obtain ⟨ce159, hce159, hMe159, hcc159⟩ := Kd.S_get HO_128000.out [] x6_2 p159 (by first | exact q159 | exact q15 (by assumption) | (have e_ := (Kd.S_reads' HO_128000.out).1; omega))
                                    obtain ⟨ve159_0, rfl, ge159_0⟩ := hMe159
                                    have hv159_0 := hcc159 0 _ rfl
                                    rw [Nat.add_zero, show ((Kd.slice 3 (Kd.int .i64))).sz = 1 from rfl, Nat.mul_one] at hv159_0
                                    replace hv159_0 := Option.some.inj (hv159_0.symm.trans hx159_0)
                                    rw [hv159_0] at ge159_0
                                    have HL159_0 := q13 (show Kd.R (Kd.int .i64) 3 _ _ _ _ (rd_L2 x128000_3 x6_2) from ge159_0)
                                    clear hv159_0 ge159_0
                                    have HX159_0 := q13 hx159_0
                                    clear hcc159 hce159
                                    have HR159_0 := q13 hi159_0
                                    have HC159_0 := q13 hl159_0
                                    clear hi159_0 hl159_0
                                    replace p159 := eq_true p159
                                    replace q159 := eq_true q159
                                    have p87 : 0 ≤ (x7_3 : Int) := q15 (by assumption)
                                    have q87 : (x7_3 : Int) < (((rd_L2 x128000_3 x6_2).length : Int) : Int) := q15 (by assumption)
                                    obtain ⟨go87, co87, eo87, gb87, gl87, cl87, HG87⟩ := Kd.R_form HL159_0.out (by omega)
                                    (first | cases eo87 | (injection eo87 with ea_ en_ ec_; (first | subst ea_ | (injection ea_ with ea_; subst ea_)); subst ec_; clear en_))
                                    have GB87 := q13 gb87
                                    have GG87 := q13 HG87
                                    clear gb87 gl87 HG87
                                    obtain ⟨hx87_0, hf87_0⟩ := Kd.R_celln 0 HL159_0.out (x7_3 : Int) p87 q87
                                    replace p87 := eq_true p87
                                    replace q87 := eq_true q87
                                    have hq97 : (x6_2 : Int) < (x128000_3.length : Int) := (by have h_ : (x6_2 : Int) < ((x128000_3.length : Int) : Int) := q15 (by assumption); first | exact h_ | (have e_ := (Kd.S_reads' HO_128000.out).1; omega) | simpa only [List.length_set, List.length_set] using h_)
                                    obtain ⟨oki97, ce97, hcl97, hM97, hcc97, hok97, hbk97⟩ := Kd.S_borrow HO_128000.out [] (x6_2 : Int) (q15 (by assumption)) hq97
                                    obtain ⟨ve97_0, rfl, ge97_0⟩ := hM97
                                    have hv97 := hcc97 0 _ rfl
                                    rw [Nat.add_zero, show ((Kd.slice 3 (Kd.int .i64))).sz = 1 from rfl, Nat.mul_one] at hv97
                                    replace hv97 := Option.some.inj (hv97.symm.trans HX159_0.out)
                                    subst hv97
                                    clear hcc97 hcl97
                                    replace ge97_0 := (show Kd.R (Kd.int .i64) 3 _ _ _ _ (rd_L2 x128000_3 x6_2) from ge97_0)
                                    have HP97 := Kd.R_putg ge97_0 (x7_3 : Int) ji84
                                    try go_wp2_with (first | ((with_reducible refine gate_store (t := 3) (p := 173) rfl ?_); refine store_event (t := 3) (p := 173) (v := ?vo_w98) (w1 := (w93.setCell ⟨go87, (x7_3 : Int).toNat, none⟩ (.int .i64 ji84))) ?hg ?ho ?hn ?hr ?_; (case ho => rfl); (case hg => rfl); (case hn => rfl); (case hr => first | (go_simp; done) | (go_simp; rfl)); intro w98 hw; have hg : w93.grownBy w98 (some go87) := (by rw [hw]; exact HP97.2); have hz_ : Kd.R (Kd.int .i64) 3 w98 w.heap.size oki97 (.slice (some ⟨go87, 0, none⟩) (rd_L2 x128000_3 x6_2).length c159_0) y160 := (by rw [hw, Ny160.out]; exact HP97.1); have hp_ : Kd.S (Kd.slice 3 (Kd.int .i64)) 67 w98 w.heap.size (fun _ => True) (.slice (some ad155) x128000_3.length co96) y162 := (by rw [Ny162.out]; exact hbk97 hg (fun k_ e_ => by injection e_ with e_; subst e_; exact ge97_0.1 _ rfl) (Kd.M_row hz_)); have hm_ := Kd.R_mono hz_ hok97; clear HP97 hbk97; have n0_ := q13 (hp_); have n1_ := q13 (Kd.S_over' (v := (.slice (some ⟨go87, 0, none⟩) (rd_L2 x128000_3 x6_2).length c159_0)) (gS HO_128001) (Kd.R_typed HL159_0.out) (by decide) hg); have n2_ := q13 (blk_grown (g := gb126) (o := .cells #[.slice none 0 0, .slice none 0 0] 80 (0, 0)) (gK BK126) hg (Kd.R_ne HL159_0.out BK126.out (by decide))); have n3_ := q13 (blk_grown (g := gb127) (o := .cells #[.slice (some ad155) x128000_3.length co96, .slice (some ad146) x128001_3.length co89] 80 (0, 0)) (gK BK127) hg (Kd.R_ne HL159_0.out BK127.out (by decide))); have n4_ := q13 ((by rw [hw]; exact q6 (HB.out) GB87.out : Below w.heap.size w w98)); have n5_ := q13 (hm_); have n6_ := q13 ((Kd.R_reads' hm_).2.1); clear HO_128000; clear HO_128001; clear BK126; clear BK127; clear HB; clear HL153_0; clear HL155_0; clear HL157_0; clear HL159_0; have HO_128000 := n0_; have HO_128001 := n1_; have BK126 := n2_; have BK127 := n3_; have HB := n4_; have HL173 := n5_; have HC161 := n6_; clear n0_ n1_ n2_ n3_ n4_ n5_ n6_; clear hg hw hp_ hz_ hm_ hok97))
                                    go_roundg kj56
                                    case measure => have := HK1.out; have := HK2.out; have := HK3.out; have := HJ30.out; have := HJ32.out; have := HJ34.out; have := HJ45.out; have := HJ56.out; omega
                                    case rel => exact ⟨(wrap64 (x7_3 - 1)), (y162), (y152), (.slice (some ad155) x128000_3.length co96), (.slice (some ad146) x128001_3.length co89), (by first | rfl | (simp; done) | (simp [*]; done)), H', ⟨by have := HK1.out; have := HK2.out; have := HK3.out; have := HJ30.out; have := HJ32.out; have := HJ34.out; have := HJ45.out; have := HJ56.out; omega⟩, ⟨by (with_reducible repeat (first | apply q31 | apply q32 | apply q33)); exact HO_128000.out⟩, ⟨by (with_reducible repeat (first | apply q31 | apply q32 | apply q33)); exact HO_128001.out⟩, ⟨by (with_reducible repeat (first | refine q0 ?_ _ | refine q1 ?_ | refine q2 ?_ _)); exact BK126.out⟩, ⟨by (with_reducible repeat (first | refine q0 ?_ _ | refine q1 ?_ | refine q2 ?_ _)); exact BK127.out⟩, ⟨by repeat (first | (with_reducible first | exact HB.out | apply q3 | apply q4 | apply q5 | refine q6 ?_ GE126.out | refine q6 ?_ GE127.out) | exact HB.out)⟩⟩
                                  ·rw [if_neg c86] at H
                                   exact absurd H (by simp)
                                 ·rw [if_neg c85] at H
                                  exact absurd H (by simp)
                                ·rw [if_neg c82] at H
                                 exact absurd H (by simp)
                               ·rw [if_neg c81] at H
                                exact absurd H (by simp)
                              ·rw [if_neg c79] at H
                               exact absurd H (by simp)
                             ·rw [if_neg c78] at H
                              exact absurd H (by simp)
                            ·replace c76 := Bool.eq_false_iff.mpr c76
                             subst c76
                             have H1 : (if 0 ≤ (wrap64 (x6_2 + 1)) then (if (wrap64 (x6_2 + 1)) < (x128000_3.length : Int) then (if 0 ≤ (wrap64 (x7_3 + 1)) then (if (wrap64 (x7_3 + 1)) < ((rd_L2 x128000_3 (wrap64 (x6_2 + 1))).length : Int) then (if x6_2 < (x128000_3.length : Int) then (if x7_3 < ((rd_L2 x128000_3 x6_2).length : Int) then (compare_tabled.l2 kj56 l0 l1 x6_2 (wrap64 (x7_3 - 1)) (x128000_3.set (x6_2 : Int).toNat ((rd_L2 x128000_3 x6_2).set (x7_3 : Int).toNat (mn x8_45 (wrap64 (1 + (rd (rd_L2 x128000_3 (wrap64 (x6_2 + 1))) (wrap64 (x7_3 + 1)))))))) y152) else (none)) else (none)) else (none)) else (none)) else (none)) else (none)) = some (r1, r2) := by rw [if_neg (show ¬ (false = true) by decide)] at H; exact H
                             clear H
                             have H := H1
                             clear H1
                             obtain ⟨ji99, hji99⟩ : ∃ j_ : Int, (wrap64 (x6_2 + 1)) = j_ := ⟨_, rfl⟩
                             replace H : (if 0 ≤ (ji99) then (if (ji99) < (x128000_3.length : Int) then (if 0 ≤ (wrap64 (x7_3 + 1)) then (if (wrap64 (x7_3 + 1)) < ((rd_L2 x128000_3 (ji99)).length : Int) then (if x6_2 < (x128000_3.length : Int) then (if x7_3 < ((rd_L2 x128000_3 x6_2).length : Int) then (compare_tabled.l2 kj56 l0 l1 x6_2 (wrap64 (x7_3 - 1)) (x128000_3.set (x6_2 : Int).toNat ((rd_L2 x128000_3 x6_2).set (x7_3 : Int).toNat (mn x8_45 (wrap64 (1 + (rd (rd_L2 x128000_3 (ji99)) (wrap64 (x7_3 + 1)))))))) y152) else (none)) else (none)) else (none)) else (none)) else (none)) else (none)) = some (r1, r2) := by first | (rw [hji99] at H; exact H) | (simp only [hji99] at H ⊢; exact H)
                             (try rw [hji99] at A71)
                             have hji99w : (IntKind.i64.wrap (x6_2 + 1)) = ji99 := (i64_w _).trans hji99
                             by_cases c100 : 0 ≤ (ji99)
                             ·rw [if_pos c100] at H
                              have c100b0 : decide (0 ≤ (ji99)) = true := decide_eq_true c100
                              clear c100
                              by_cases c101 : (ji99) < (x128000_3.length : Int)
                              ·rw [if_pos c101] at H
                               have c101b0 : decide ((ji99) < (x128000_3.length : Int)) = true := decide_eq_true c101
                               clear c101
                               obtain ⟨ji102, hji102⟩ : ∃ j_ : Int, (wrap64 (x7_3 + 1)) = j_ := ⟨_, rfl⟩
                               replace H : (if 0 ≤ (ji102) then (if (ji102) < ((rd_L2 x128000_3 (ji99)).length : Int) then (if x6_2 < (x128000_3.length : Int) then (if x7_3 < ((rd_L2 x128000_3 x6_2).length : Int) then (compare_tabled.l2 kj56 l0 l1 x6_2 (wrap64 (x7_3 - 1)) (x128000_3.set (x6_2 : Int).toNat ((rd_L2 x128000_3 x6_2).set (x7_3 : Int).toNat (mn x8_45 (wrap64 (1 + (rd (rd_L2 x128000_3 (ji99)) (ji102))))))) y152) else (none)) else (none)) else (none)) else (none)) = some (r1, r2) := by first | (rw [hji102] at H; exact H) | (simp only [hji102] at H ⊢; exact H)
                               (try rw [hji102] at A71)
                               have hji102w : (IntKind.i64.wrap (x7_3 + 1)) = ji102 := (i64_w _).trans hji102
                               by_cases c103 : 0 ≤ (ji102)
                               ·rw [if_pos c103] at H
                                have c103b0 : decide (0 ≤ (ji102)) = true := decide_eq_true c103
                                clear c103
                                by_cases c104 : (ji102) < ((rd_L2 x128000_3 (ji99)).length : Int)
                                ·rw [if_pos c104] at H
                                 have c104b0 : decide ((ji102) < ((rd_L2 x128000_3 (ji99)).length : Int)) = true := decide_eq_true c104
                                 clear c104
                                 obtain ⟨ji105, hji105⟩ : ∃ j_ : Int, (mn x8_45 (wrap64 (1 + (rd (rd_L2 x128000_3 (ji99)) (ji102))))) = j_ := ⟨_, rfl⟩
                                 replace H : (if x6_2 < (x128000_3.length : Int) then (if x7_3 < ((rd_L2 x128000_3 x6_2).length : Int) then (compare_tabled.l2 kj56 l0 l1 x6_2 (wrap64 (x7_3 - 1)) (x128000_3.set (x6_2 : Int).toNat ((rd_L2 x128000_3 x6_2).set (x7_3 : Int).toNat (ji105))) y152) else (none)) else (none)) = some (r1, r2) := by first | (rw [hji105] at H; exact H) | (simp only [hji105] at H ⊢; exact H)
                                 (try rw [hji105] at A71)
                                 have hji105_ : (if (wrap64 (1 + (rd (rd_L2 x128000_3 (ji99)) (ji102)))) < x8_45 then (wrap64 (1 + (rd (rd_L2 x128000_3 (ji99)) (ji102)))) else x8_45) = ji105 := hji105
                                 by_cases c106 : x6_2 < (x128000_3.length : Int)
                                 ·rw [if_pos c106] at H
                                  have c106b0 : decide (x6_2 < (x128000_3.length : Int)) = true := decide_eq_true c106
                                  clear c106
                                  by_cases c107 : x7_3 < ((rd_L2 x128000_3 x6_2).length : Int)
                                  ·rw [if_pos c107] at H
                                   have c107b0 : decide (x7_3 < ((rd_L2 x128000_3 x6_2).length : Int)) = true := decide_eq_true c107
                                   clear c107
                                   obtain ⟨y166, hy166⟩ : ∃ y_ : List Int, y_ = ((rd_L2 x128000_3 x6_2).set (x7_3 : Int).toNat (ji105)) := ⟨_, rfl⟩
                                   replace H : (compare_tabled.l2 kj56 l0 l1 x6_2 (wrap64 (x7_3 - 1)) (x128000_3.set (x6_2 : Int).toNat y166) y152) = some (r1, r2) := by first | (rw [hy166]; with_reducible exact H) | (have H2_ := (Option.bind_some _ _).symm.trans H; rw [hy166]; with_reducible exact H2_) | (have H2_ := (Option.bind_some _ _).symm.trans H; with_reducible exact H2_) | with_reducible exact H | (rw [hy166]; exact H) | exact H
                                   have Ny166 := q13 hy166
                                   clear hy166
                                   obtain ⟨y168, hy168⟩ : ∃ y_ : List (List Int), y_ = (x128000_3.set (x6_2 : Int).toNat y166) := ⟨_, rfl⟩
                                   replace H : (compare_tabled.l2 kj56 l0 l1 x6_2 (wrap64 (x7_3 - 1)) y168 y152) = some (r1, r2) := by first | (rw [hy168]; with_reducible exact H) | (have H2_ := (Option.bind_some _ _).symm.trans H; rw [hy168]; with_reducible exact H2_) | (have H2_ := (Option.bind_some _ _).symm.trans H; with_reducible exact H2_) | with_reducible exact H | (rw [hy168]; exact H) | exact H
                                   have Ny168 := q13 hy168
                                   clear hy168
                                   as_aux_lemma =>
                                    have H' := q13 H
                                    clear H
                                    try go_wp2
                                    have n0_ := q13 (q33 HO_128000.out)
                                    have n1_ := q13 (q33 HO_128001.out)
                                    have n2_ := q13 (q1 BK126.out)
                                    have n3_ := q13 (q1 BK127.out)
                                    have n4_ := q13 (q5 HB.out)
                                    clear HO_128000
                                    clear HO_128001
                                    clear BK126
                                    clear BK127
                                    clear HB
                                    have HO_128000 := n0_
                                    have HO_128001 := n1_
                                    have BK126 := n2_
                                    have BK127 := n3_
                                    have HB := n4_
                                    clear n0_ n1_ n2_ n3_ n4_
                                    obtain ⟨Ao110, co110, eo110⟩ := Kd.S_slice HO_128001.out
                                    (first | subst eo110 | (injection eo110 with f1_ f2_ f3_; have f4_ := f1_.symm; have f5_ := f3_.symm; clear f1_ f2_ f3_; subst f4_; subst f5_))
                                    have p146 : 0 ≤ (x6_2 : Int) := q15 (by assumption)
                                    have q146 : x6_2 < (x128001_3.length : Int) := q15 (by assumption)
                                    obtain ⟨ad146, A146_0, c146_0, e146, hx146_0, hl146_0, hi146_0⟩ := at_L7 (Kd.S_reads' HO_128001.out).2.2 x6_2 p146 q146
                                    cases e146
                                    obtain ⟨ce146, hce146, hMe146, hcc146⟩ := Kd.S_get HO_128001.out [] x6_2 p146 (by first | exact q146 | exact q15 (by assumption) | (have e_ := (Kd.S_reads' HO_128001.out).1; omega))
                                    obtain ⟨ve146_0, rfl, ge146_0⟩ := hMe146
                                    have hv146_0 := hcc146 0 _ rfl
                                    rw [Nat.add_zero, show ((Kd.slice 4 Kd.bool)).sz = 1 from rfl, Nat.mul_one] at hv146_0
                                    replace hv146_0 := Option.some.inj (hv146_0.symm.trans hx146_0)
                                    rw [hv146_0] at ge146_0
                                    have HL146_0 := q13 (show Kd.R Kd.bool 4 _ _ _ _ (rd_L7 x128001_3 x6_2) from ge146_0)
                                    clear hv146_0 ge146_0
                                    have HX146_0 := q13 hx146_0
                                    clear hcc146 hce146
                                    have HR146_0 := q13 hi146_0
                                    have HC146_0 := q13 hl146_0
                                    clear hi146_0 hl146_0
                                    replace p146 := eq_true p146
                                    replace q146 := eq_true q146
                                    have p147 : 0 ≤ (x6_2 : Int) := q15 (by assumption)
                                    have q147 : x6_2 < (l0.length : Int) := q15 (by assumption)
                                    obtain ⟨ad147, A147_1, c147_1, e147, hx147_0, hx147_1, hl147_1, hi147_1⟩ := at_T24 HR0.out x6_2 p147 q147
                                    have hw147_1 := hx147_1
                                    have hw147_0 := hx147_0
                                    cases e147
                                    replace hx147_0 := cl HB.out hx147_0
                                    replace hx147_1 := cl HB.out hx147_1
                                    have HR147_1 := q13 hi147_1
                                    have HC147_1 := q13 hl147_1
                                    clear hi147_1 hl147_1
                                    replace p147 := eq_true p147
                                    replace q147 := eq_true q147
                                    have p148 : 0 ≤ (x7_3 : Int) := q15 (by assumption)
                                    have q148 : x7_3 < (l1.length : Int) := q15 (by assumption)
                                    obtain ⟨ad148, A148_1, c148_1, e148, hx148_0, hx148_1, hl148_1, hi148_1⟩ := at_T24 HR1.out x7_3 p148 q148
                                    have hw148_1 := hx148_1
                                    have hw148_0 := hx148_0
                                    cases e148
                                    replace hx148_0 := cl HB.out hx148_0
                                    replace hx148_1 := cl HB.out hx148_1
                                    have HR148_1 := q13 hi148_1
                                    have HC148_1 := q13 hl148_1
                                    clear hi148_1 hl148_1
                                    replace p148 := eq_true p148
                                    replace q148 := eq_true q148
                                    refine start_ (n := 17) (S := fun w' => w'.cell? ⟨gb127, 0, none⟩ = some (u128000) ∧ w'.cell? ⟨gb127, 1, none⟩ = some (.slice (some ad146) x128001_3.length co110) ∧ w'.cell? (ad146.add (x6_2).toNat) = some (.slice A146_0 (rd_L7 x128001_3 x6_2).length c146_0) ∧ w'.cell? (ad147.add ((x6_2).toNat * 2)) = some (.int .i64 ((rd_T24 l0 x6_2).f0)) ∧ w'.cell? ⟨(ad147.add ((x6_2).toNat * 2)).block, (ad147.add ((x6_2).toNat * 2)).off + 1, none⟩ = some (.slice A147_1 ((rd_T24 l0 x6_2).f1).length c147_1) ∧ w'.cell? (ad148.add ((x7_3).toNat * 2)) = some (.int .i64 ((rd_T24 l1 x7_3).f0)) ∧ w'.cell? ⟨(ad148.add ((x7_3).toNat * 2)).block, (ad148.add ((x7_3).toNat * 2)).off + 1, none⟩ = some (.slice A148_1 ((rd_T24 l1 x7_3).f1).length c148_1)) (ds := [16]) (Array.replicate 17 false) (by kernel_rfl) rfl rfl ⟨(q9 BK127.out 0).trans rfl, (q9 BK127.out 1).trans rfl, hx146_0, (cl HB.out hw147_0), (cl HB.out hw147_1), (cl HB.out hw148_0), (cl HB.out hw148_1)⟩ (fun hHeld => ?_); refine with_tabW compare_tabled.tab21 compare_tabled.bits21 (fun HT_ HW_ => ?_)
                                    generalize wc.drew = w109 at HO_128000 HO_128001 BK126 BK127 HB HL146_0 HR146_0 HR147_1 HR148_1 HX146_0 hx146_0 hx147_0 hx147_1 hx148_0 hx148_1 hHeld ⊢
                                    refine pure_ (i := 0) (N := some 117) (v := ?_) (a' := ?_) (fl 17 1 []) rfl rfl (any_of HT_.out (by kernel_rfl)) (fun _ _ _ h => h) (Or.inl ⟨by rfl, ?_⟩) ?_ ?_
                                    rotate_left
                                    ·intro w'
                                     go_simp
                                     with_reducible rfl
                                    rotate_left
                                    ·simp only [Act.put, List.setIfInBounds_toArray, List.set_cons_zero, List.set_cons_succ, i64_w, i32_w]
                                     rfl
                                    refine pure_ (i := 2) (N := some 119) (v := ?_) (a' := ?_) (fl 17 1 [2]) rfl rfl (any_of HT_.out (by kernel_rfl)) (fun _ _ _ h => h) (Or.inl ⟨by rfl, ?_⟩) ?_ ?_
                                    rotate_left
                                    ·intro w'
                                     go_simp
                                     with_reducible rfl
                                    rotate_left
                                    ·simp only [Act.put, List.setIfInBounds_toArray, List.set_cons_zero, List.set_cons_succ, i64_w, i32_w]
                                     rfl
                                    refine pure_ (i := 5) (N := some 122) (v := ?_) (a' := ?_) (fl 17 1 [2, 5]) rfl rfl (any_of HT_.out (by kernel_rfl)) (fun _ _ _ h => h) (Or.inl ⟨by rfl, ?_⟩) ?_ ?_
                                    rotate_left
                                    ·intro w'
                                     go_simp
                                     with_reducible rfl
                                    rotate_left
                                    ·simp only [Act.put, List.setIfInBounds_toArray, List.set_cons_zero, List.set_cons_succ, i64_w, i32_w]
                                     rfl
                                    refine pure_ (i := 6) (N := some 123) (v := ?_) (a' := ?_) (fl 17 1 [2, 5, 6]) rfl rfl (any_of HT_.out (by kernel_rfl)) (fun _ _ _ h => h) (Or.inl ⟨by rfl, ?_⟩) ?_ ?_
                                    rotate_left
                                    ·intro w'
                                     go_simp
                                     with_reducible rfl
                                    rotate_left
                                    ·simp only [Act.put, List.setIfInBounds_toArray, List.set_cons_zero, List.set_cons_succ, i64_w, i32_w]
                                     rfl
                                    refine pure_ (i := 7) (N := some 124) (v := ?_) (a' := ?_) (fl 17 1 [2, 5, 6, 7]) rfl rfl (any_of HT_.out (by kernel_rfl)) (fun _ _ _ h => h) (Or.inl ⟨by rfl, ?_⟩) ?_ ?_
                                    rotate_left
                                    ·intro w'
                                     go_simp
                                     with_reducible rfl
                                    rotate_left
                                    ·simp only [Act.put, List.setIfInBounds_toArray, List.set_cons_zero, List.set_cons_succ, i64_w, i32_w]
                                     rfl
                                    refine pure_ (i := 8) (N := some 125) (v := ?_) (a' := ?_) (fl 17 1 [2, 5, 6, 7, 8]) rfl rfl (any_of HT_.out (by kernel_rfl)) (fun _ _ _ h => h) (Or.inl ⟨by rfl, ?_⟩) ?_ ?_
                                    rotate_left
                                    ·intro w'
                                     go_simp
                                     with_reducible rfl
                                    rotate_left
                                    ·simp only [Act.put, List.setIfInBounds_toArray, List.set_cons_zero, List.set_cons_succ, i64_w, i32_w]
                                     rfl
                                    refine pure_ (i := 10) (N := some 127) (v := ?_) (a' := ?_) (fl 17 1 [2, 5, 6, 7, 8, 10]) rfl rfl (any_of HT_.out (by kernel_rfl)) (fun _ _ _ h => h) (Or.inl ⟨by rfl, ?_⟩) ?_ ?_
                                    rotate_left
                                    ·intro w'
                                     go_simp
                                     with_reducible rfl
                                    rotate_left
                                    ·simp only [Act.put, List.setIfInBounds_toArray, List.set_cons_zero, List.set_cons_succ, i64_w, i32_w]
                                     rfl
                                    refine pure_ (i := 11) (N := some 128) (v := ?_) (a' := ?_) (fl 17 1 [2, 5, 6, 7, 8, 10, 11]) rfl rfl (any_of HT_.out (by kernel_rfl)) (fun _ _ _ h => h) (Or.inl ⟨by rfl, ?_⟩) ?_ ?_
                                    rotate_left
                                    ·intro w'
                                     go_simp
                                     with_reducible rfl
                                    rotate_left
                                    ·simp only [Act.put, List.setIfInBounds_toArray, List.set_cons_zero, List.set_cons_succ, i64_w, i32_w]
                                     rfl
                                    refine pure_ (i := 12) (N := some 129) (v := ?_) (a' := ?_) (fl 17 1 [2, 5, 6, 7, 8, 10, 11, 12]) rfl rfl (any_of HT_.out (by kernel_rfl)) (fun _ _ _ h => h) (Or.inl ⟨by rfl, ?_⟩) ?_ ?_
                                    rotate_left
                                    ·intro w'
                                     go_simp
                                     with_reducible rfl
                                    rotate_left
                                    ·simp only [Act.put, List.setIfInBounds_toArray, List.set_cons_zero, List.set_cons_succ, i64_w, i32_w]
                                     rfl
                                    refine take_ (i := 1) (N := some 118) (v := ?_) (a' := ?_) (fl 17 3 [5, 6, 7, 8, 10, 11, 12]) rfl rfl (take_ofW HT_.out HW_.out (by kernel_rfl)) (fun _ _ _ h => h) (Or.inl ⟨by rfl, ?_⟩) hHeld ?_ ?_
                                    rotate_left
                                    ·rintro w' ⟨s0, s1, s2, s3, s4, s5, s6⟩
                                     go_simp
                                     with_reducible rfl
                                    rotate_left
                                    ·simp only [Act.put, List.setIfInBounds_toArray, List.set_cons_zero, List.set_cons_succ, i64_w, i32_w]
                                     rfl
                                    refine pure_ (i := 3) (N := some 120) (v := ?_) (a' := ?_) (fl 17 4 [5, 6, 7, 8, 10, 11, 12]) rfl rfl (any_of HT_.out (by kernel_rfl)) (fun _ _ _ h => h) (Or.inl ⟨by rfl, ?_⟩) ?_ ?_
                                    rotate_left
                                    ·intro w'
                                     go_simp
                                     with_reducible rfl
                                    rotate_left
                                    ·simp only [Act.put, List.setIfInBounds_toArray, List.set_cons_zero, List.set_cons_succ, i64_w, i32_w]
                                     rfl
                                    refine take_ (i := 4) (N := some 121) (v := ?_) (a' := ?_) (fl 17 9 [10, 11, 12]) rfl rfl (take_ofW HT_.out HW_.out (by kernel_rfl)) (fun _ _ _ h => h) (Or.inl ⟨by rfl, ?_⟩) hHeld ?_ ?_
                                    rotate_left
                                    ·rintro w' ⟨s0, s1, s2, s3, s4, s5, s6⟩
                                     go_simp
                                     with_reducible rfl
                                    rotate_left
                                    ·simp only [Act.put, List.setIfInBounds_toArray, List.set_cons_zero, List.set_cons_succ, i64_w, i32_w]
                                     rfl
                                    refine take_ (i := 9) (N := some 126) (v := ?_) (a' := ?_) (fl 17 13 []) rfl rfl (take_ofW HT_.out HW_.out (by kernel_rfl)) (fun _ _ _ h => h) (Or.inl ⟨by rfl, ?_⟩) hHeld ?_ ?_
                                    rotate_left
                                    ·rintro w' ⟨s0, s1, s2, s3, s4, s5, s6⟩
                                     go_simp
                                     with_reducible rfl
                                    rotate_left
                                    ·simp only [Act.put, List.setIfInBounds_toArray, List.set_cons_zero, List.set_cons_succ, i64_w, i32_w]
                                     rfl
                                    refine take_ (i := 13) (N := some 130) (v := ?_) (a' := ?_) (fl 17 14 []) rfl rfl (take_ofW HT_.out HW_.out (by kernel_rfl)) (fun _ _ _ h => h) (Or.inl ⟨by rfl, ?_⟩) hHeld ?_ ?_
                                    rotate_left
                                    ·rintro w' ⟨s0, s1, s2, s3, s4, s5, s6⟩
                                     go_simp
                                     with_reducible rfl
                                    rotate_left
                                    ·simp only [Act.put, List.setIfInBounds_toArray, List.set_cons_zero, List.set_cons_succ, i64_w, i32_w]
                                     rfl
                                    refine one_ (i := 14) (N := some 131) (fl 17 15 []) rfl rfl (one_of HT_.out (by kernel_rfl)) (by decide) (fun K hK => ?_)
                                    refine goes_ Try.func13 (by kernel_rfl) rfl #[.agg #[.int .i64 ((rd_T24 l0 x6_2).f0), .slice A147_1 ((rd_T24 l0 x6_2).f1).length c147_1], .agg #[.int .i64 ((rd_T24 l1 x7_3).f0), .slice A148_1 ((rd_T24 l1 x7_3).f1).length c148_1]] (by rfl) rfl rfl (by (try simp only [List.map_toArray, List.map_cons, List.map_nil]); first | done | rfl | (simp only [List.length_drop, List.length_take]; rfl)) ?_
                                    with_reducible refine (compare_Same.calls kj56 ((rd_T24 l0 x6_2).f0) _ _ ((rd_T24 l0 x6_2).f1) ((rd_T24 l1 x7_3).f0) _ _ ((rd_T24 l1 x7_3).f1) t149 _ ?side1 ?side2 ?side3 ?side4 A71.out).mono ?_
                                    (case side1 => repeat (first | exact (Kd.C_below HR147_1.out HB.out) | (with_reducible refine q18 ?_ _) | (with_reducible refine q19 ?_ _) | (with_reducible refine q20 ?_)))
                                    (case side2 => exact HC147_1.out)
                                    (case side3 => repeat (first | exact (Kd.C_below HR148_1.out HB.out) | (with_reducible refine q18 ?_ _) | (with_reducible refine q19 ?_ _) | (with_reducible refine q20 ?_)))
                                    (case side4 => exact HC148_1.out)
                                    rintro e w111 ⟨rfl, hb⟩
                                    have HS2_ := (hb.cell (q14 _ _ (hHeld.2.2.1))).trans (hHeld.2.2.1)
                                    refine ⟨_, rfl, ?_⟩
                                    have n0_ := q13 (Kd.S_below (gS HO_128000) hb)
                                    have n1_ := q13 (Kd.S_below (gS HO_128001) hb)
                                    have n2_ := q13 (Kd.R_below (gR HL146_0) hb)
                                    have n3_ := q13 (q8 (g := gb126) (o := .cells #[.slice none 0 0, .slice none 0 0] 80 (0, 0)) (gK BK126) hb)
                                    have n4_ := q13 (q8 (g := gb127) (o := .cells #[u128000, .slice (some ad146) x128001_3.length co110] 80 (0, 0)) (gK BK127) hb)
                                    have n5_ := q13 (Kd.C_below (by repeat (first | (with_reducible exact HR146_0.out) | (with_reducible refine q18 ?_ _) | (with_reducible refine q19 ?_ _) | (with_reducible refine q20 ?_) | exact HR146_0.out)) hb)
                                    have n6_ := q13 (pw_cell_below hb HX146_0.out)
                                    have n7_ := q13 (q12 (by repeat (first | (with_reducible first | exact HB.out | apply q3 | apply q4 | apply q5 | refine q6 ?_ GE126.out | refine q6 ?_ GE127.out) | exact HB.out)) hb)
                                    clear HO_128000
                                    clear HO_128001
                                    clear HL146_0
                                    clear BK126
                                    clear BK127
                                    clear HR146_0
                                    clear HX146_0
                                    clear HB
                                    have HO_128000 := n0_
                                    have HO_128001 := n1_
                                    have HL146_0 := n2_
                                    have BK126 := n3_
                                    have BK127 := n4_
                                    have HR146_0 := n5_
                                    have HX146_0 := n6_
                                    have HB := n7_
                                    clear n0_ n1_ n2_ n3_ n4_ n5_ n6_ n7_
                                    (try clear hb)
                                    (try clear hb2)
                                    (try clear hk)
                                    (try clear hi)
                                    have p73 : 0 ≤ (x7_3 : Int) := q15 (by assumption)
                                    have q73 : (x7_3 : Int) < (((rd_L7 x128001_3 x6_2).length : Int) : Int) := q15 (by assumption)
                                    obtain ⟨go73, co73, eo73, gb73, gl73, cl73, HG73⟩ := Kd.R_form HL146_0.out (by omega)
                                    (first | cases eo73 | (injection eo73 with ea_ en_ ec_; (first | subst ea_ | (injection ea_ with ea_; subst ea_)); subst ec_; clear en_))
                                    have GB73 := q13 gb73
                                    have GG73 := q13 HG73
                                    clear gb73 gl73 HG73
                                    obtain ⟨hx73_0, hf73_0⟩ := Kd.R_celln false HL146_0.out (x7_3 : Int) p73 q73
                                    replace p73 := eq_true p73
                                    replace q73 := eq_true q73
                                    have hq112 : (x6_2 : Int) < (x128001_3.length : Int) := (by have h_ : (x6_2 : Int) < ((x128001_3.length : Int) : Int) := q15 (by assumption); first | exact h_ | (have e_ := (Kd.S_reads' HO_128001.out).1; omega) | simpa only [List.length_set, List.length_set] using h_)
                                    obtain ⟨oki112, ce112, hcl112, hM112, hcc112, hok112, hbk112⟩ := Kd.S_borrow HO_128001.out [] (x6_2 : Int) (q15 (by assumption)) hq112
                                    obtain ⟨ve112_0, rfl, ge112_0⟩ := hM112
                                    have hv112 := hcc112 0 _ rfl
                                    rw [Nat.add_zero, show ((Kd.slice 4 Kd.bool)).sz = 1 from rfl, Nat.mul_one] at hv112
                                    replace hv112 := Option.some.inj (hv112.symm.trans HX146_0.out)
                                    subst hv112
                                    clear hcc112 hcl112
                                    replace ge112_0 := (show Kd.R Kd.bool 4 _ _ _ _ (rd_L7 x128001_3 x6_2) from ge112_0)
                                    have HP112 := Kd.R_putg ge112_0 (x7_3 : Int) t149
                                    rw [← Ny150.out] at HP112
                                    have HS112 := hbk112 HP112.2 (fun k_ e_ => by injection e_ with e_; subst e_; exact ge112_0.1 _ rfl) (x' := y150) (Kd.M_row HP112.1)
                                    rw [← Ny152.out] at HS112
                                    have HQ112 := q13 HS112
                                    clear HP112 HS112 hbk112 hok112
                                    refine hK.out _ _ ⟨(q9 BK127.out 0).trans rfl, (q9 BK127.out 1).trans rfl, HS2_, (cl HB.out hw147_0), (cl HB.out hw147_1), (cl HB.out hw148_0), (cl HB.out hw148_1)⟩ (fun hHeld => ?_)
                                    clear hK K
                                    refine norm_ (a' := ?_) ?_ ?_
                                    rotate_left
                                    ·show Act.put _ (some 131) _ = _
                                     simp only [Act.put, List.setIfInBounds_toArray, List.set_cons_zero, List.set_cons_succ, i64_w, i32_w]
                                     rfl
                                    refine pure_ (i := 15) (N := some 132) (v := ?_) (a' := ?_) (fl 17 16 []) rfl rfl (any_of HT_.out (by kernel_rfl)) (fun _ _ _ h => h) (Or.inl ⟨by rfl, ?_⟩) ?_ ?_
                                    rotate_left
                                    ·intro w'
                                     go_simp
                                     with_reducible rfl
                                    rotate_left
                                    ·simp only [Act.put, List.setIfInBounds_toArray, List.set_cons_zero, List.set_cons_succ, i64_w, i32_w]
                                     rfl
                                    refine last_ (i := 16) (N := none) (fl 17 17 []) rfl rfl (one_of HT_.out (by kernel_rfl)) (by decide) (fun K hK => ?_)
                                    refine skip_ (w1 := ?_) (by rfl) rfl ?_ ?_
                                    rotate_left
                                    ·go_simp
                                     rfl
                                    refine hK.out _ _ ?_
                                    clear hK K
                                    refine done_ (done_of HT_.out (by kernel_rfl)) ?_
                                    have n0_ : Aside0 (Kd.S (Kd.slice 3 (Kd.int .i64)) 67 (w111.setCell ⟨go73, (x7_3 : Int).toNat, none⟩ (.bool t149)) w.heap.size (fun _ => True) u128000 x128000_3) := ⟨by (with_reducible repeat (first | apply q31 | apply q32 | apply q33)); exact Kd.S_mono (Kd.S_far (p := ⟨go73, (x7_3 : Int).toNat, none⟩) (Kd.S_types HO_128000.out GG73.out (by decide)) (fun _ hk => hk.2) (.bool t149)) (fun _ hk => trivial)⟩
                                    have n1_ : Aside0 (Kd.S (Kd.slice 4 Kd.bool) 82 (w111.setCell ⟨go73, (x7_3 : Int).toNat, none⟩ (.bool t149)) w.heap.size (fun _ => True) (.slice (some ad146) x128001_3.length co110) y152) := ⟨by (with_reducible repeat (first | apply q31 | apply q32 | apply q33)); exact HQ112.out⟩
                                    have n2_ : Aside0 ((w111.setCell ⟨go73, (x7_3 : Int).toNat, none⟩ (.bool t149)).heap[gb126]? = some (.cells #[.slice none 0 0, .slice none 0 0] 80 (0, 0))) := ⟨by (with_reducible repeat (first | refine q0 ?_ _ | refine q1 ?_ | refine q2 ?_ _)); refine blk_far ?_ (by have h_ := Kd.R_ne HL146_0.out BK126.out (by decide); intro e_; exact h_ (by rw [e_]; rfl)) _; (with_reducible repeat (first | refine q0 ?_ _ | refine q1 ?_ | refine q2 ?_ _)); exact BK126.out⟩
                                    have n3_ : Aside0 ((w111.setCell ⟨go73, (x7_3 : Int).toNat, none⟩ (.bool t149)).heap[gb127]? = some (.cells #[u128000, .slice (some ad146) x128001_3.length co110] 80 (0, 0))) := ⟨by (with_reducible repeat (first | refine q0 ?_ _ | refine q1 ?_ | refine q2 ?_ _)); refine blk_far ?_ (by have h_ := Kd.R_ne HL146_0.out BK127.out (by decide); intro e_; exact h_ (by rw [e_]; rfl)) _; (with_reducible repeat (first | refine q0 ?_ _ | refine q1 ?_ | refine q2 ?_ _)); exact BK127.out⟩
                                    have n4_ : Aside0 (Below w.heap.size w (w111.setCell ⟨go73, (x7_3 : Int).toNat, none⟩ (.bool t149))) := ⟨by repeat (first | (with_reducible first | exact HB.out | apply q3 | apply q4 | apply q5 | refine q6 ?_ GB73.out | refine q6 ?_ GE126.out | refine q6 ?_ GE127.out) | exact HB.out)⟩
                                    (try clear HO_128000)
                                    (try clear HO_128001)
                                    (try clear BK126)
                                    (try clear BK127)
                                    (try clear HB)
                                    generalize (w111.setCell ⟨go73, (x7_3 : Int).toNat, none⟩ (.bool t149)) = w114 at n0_ n1_ n2_ n3_ n4_ ⊢
                                    have HO_128000 := n0_
                                    have HO_128001 := n1_
                                    have BK126 := n2_
                                    have BK127 := n3_
                                    have HB := n4_
                                    clear n0_ n1_ n2_ n3_ n4_
                                    have hnb115 := NB127_126.out
                                    have hnc115 := NB126_127.out
                                    have hcz116_0 : w114.cell? ⟨gb127, 0, none⟩ = some (u128000) := (q9 BK127.out 0).trans rfl
                                    have hcz116_1 : w114.cell? ⟨gb127, 1, none⟩ = some (.slice (some ad146) x128001_3.length co110) := (q9 BK127.out 1).trans rfl
                                    have hfz116_0 := q11 BK127.out 0
                                    have hfz116_1 := q11 BK127.out 1
                                    have p153 : 0 ≤ (x6_2 : Int) := q15 (by assumption)
                                    have q153 : x6_2 < (y152.length : Int) := (by have h_ : (x6_2 : Int) < ((x128001_3.length : Int) : Int) := q15 (by assumption); first | (have e_ := (Kd.S_reads' HO_128001.out).1; omega) | simpa only [Ny152.out, List.length_set] using h_)
                                    have ql153 : ((x6_2 : Int) < ((x128001_3.length : Int) : Int)) = True := eq_true (q15 (by assumption))
                                    obtain ⟨ad153, A153_0, c153_0, e153, hx153_0, hl153_0, hi153_0⟩ := at_L7 (Kd.S_reads' HO_128001.out).2.2 x6_2 p153 q153
                                    obtain rfl : ad146 = ad153 := (by injection e153)
                                    obtain ⟨ce153, hce153, hMe153, hcc153⟩ := Kd.S_get HO_128001.out [] x6_2 p153 (by first | exact q153 | exact q15 (by assumption) | (have e_ := (Kd.S_reads' HO_128001.out).1; omega))
                                    obtain ⟨ve153_0, rfl, ge153_0⟩ := hMe153
                                    have hv153_0 := hcc153 0 _ rfl
                                    rw [Nat.add_zero, show ((Kd.slice 4 Kd.bool)).sz = 1 from rfl, Nat.mul_one] at hv153_0
                                    replace hv153_0 := Option.some.inj (hv153_0.symm.trans hx153_0)
                                    rw [hv153_0] at ge153_0
                                    have HL153_0 := q13 (show Kd.R Kd.bool 4 _ _ _ _ (rd_L7 y152 x6_2) from ge153_0)
                                    clear hv153_0 ge153_0
                                    have HX153_0 := q13 hx153_0
                                    clear hcc153 hce153
                                    have HR153_0 := q13 hi153_0
                                    have HC153_0 := q13 hl153_0
                                    clear hi153_0 hl153_0
                                    replace p153 := eq_true p153
                                    replace q153 := eq_true q153
                                    have p154 : 0 ≤ (x7_3 : Int) := q15 (by assumption)
                                    have q154 : x7_3 < ((rd_L7 y152 x6_2).length : Int) := q15 (by assumption)
                                    obtain ⟨ad154, e154, hx154_0⟩ := Kd.at_bool (by repeat (first | (with_reducible exact HR153_0.out) | (with_reducible refine q18 ?_ _) | (with_reducible refine q19 ?_ _) | (with_reducible refine q20 ?_) | exact HR153_0.out)) x7_3 p154 q154
                                    (try rw [← Nbq75.out] at hx154_0)
                                    cases e154
                                    replace p154 := eq_true p154
                                    replace q154 := eq_true q154
                                    obtain ⟨Ao117, co117, eo117⟩ := Kd.S_slice HO_128000.out
                                    subst eo117
                                    have p163 : 0 ≤ ((ji99) : Int) := q15 (by assumption)
                                    have q163 : (ji99) < (x128000_3.length : Int) := q15 (by assumption)
                                    obtain ⟨ad163, A163_0, c163_0, e163, hx163_0, hl163_0, hi163_0⟩ := at_L2 (Kd.S_reads' HO_128000.out).2.2 (ji99) p163 q163
                                    cases e163
                                    obtain ⟨ce163, hce163, hMe163, hcc163⟩ := Kd.S_get HO_128000.out [] (ji99) p163 (by first | exact q163 | exact q15 (by assumption) | (have e_ := (Kd.S_reads' HO_128000.out).1; omega))
                                    obtain ⟨ve163_0, rfl, ge163_0⟩ := hMe163
                                    have hv163_0 := hcc163 0 _ rfl
                                    rw [Nat.add_zero, show ((Kd.slice 3 (Kd.int .i64))).sz = 1 from rfl, Nat.mul_one] at hv163_0
                                    replace hv163_0 := Option.some.inj (hv163_0.symm.trans hx163_0)
                                    rw [hv163_0] at ge163_0
                                    have HL163_0 := q13 (show Kd.R (Kd.int .i64) 3 _ _ _ _ (rd_L2 x128000_3 (ji99)) from ge163_0)
                                    clear hv163_0 ge163_0
                                    have HX163_0 := q13 hx163_0
                                    clear hcc163 hce163
                                    have HR163_0 := q13 hi163_0
                                    have HC163_0 := q13 hl163_0
                                    clear hi163_0 hl163_0
                                    replace p163 := eq_true p163
                                    replace q163 := eq_true q163
                                    have p164 : 0 ≤ ((ji102) : Int) := q15 (by assumption)
                                    have q164 : (ji102) < ((rd_L2 x128000_3 (ji99)).length : Int) := q15 (by assumption)
                                    obtain ⟨ad164, e164, hx164_0⟩ := Kd.at_int (by repeat (first | (with_reducible exact HR163_0.out) | (with_reducible refine q18 ?_ _) | (with_reducible refine q19 ?_ _) | (with_reducible refine q20 ?_) | exact HR163_0.out)) (ji102) p164 q164
                                    cases e164
                                    replace p164 := eq_true p164
                                    replace q164 := eq_true q164
                                    have p165 : 0 ≤ (x6_2 : Int) := q15 (by assumption)
                                    have q165 : x6_2 < (x128000_3.length : Int) := q15 (by assumption)
                                    obtain ⟨ad165, A165_0, c165_0, e165, hx165_0, hl165_0, hi165_0⟩ := at_L2 (Kd.S_reads' HO_128000.out).2.2 x6_2 p165 q165
                                    obtain rfl : ad163 = ad165 := (by injection e165)
                                    obtain ⟨ce165, hce165, hMe165, hcc165⟩ := Kd.S_get HO_128000.out [] x6_2 p165 (by first | exact q165 | exact q15 (by assumption) | (have e_ := (Kd.S_reads' HO_128000.out).1; omega))
                                    obtain ⟨ve165_0, rfl, ge165_0⟩ := hMe165
                                    have hv165_0 := hcc165 0 _ rfl
                                    rw [Nat.add_zero, show ((Kd.slice 3 (Kd.int .i64))).sz = 1 from rfl, Nat.mul_one] at hv165_0
                                    replace hv165_0 := Option.some.inj (hv165_0.symm.trans hx165_0)
                                    rw [hv165_0] at ge165_0
                                    have HL165_0 := q13 (show Kd.R (Kd.int .i64) 3 _ _ _ _ (rd_L2 x128000_3 x6_2) from ge165_0)
                                    clear hv165_0 ge165_0
                                    have HX165_0 := q13 hx165_0
                                    clear hcc165 hce165
                                    have HR165_0 := q13 hi165_0
                                    have HC165_0 := q13 hl165_0
                                    clear hi165_0 hl165_0
                                    replace p165 := eq_true p165
                                    replace q165 := eq_true q165
                                    have p108 : 0 ≤ (x7_3 : Int) := q15 (by assumption)
                                    have q108 : (x7_3 : Int) < (((rd_L2 x128000_3 x6_2).length : Int) : Int) := q15 (by assumption)
                                    obtain ⟨go108, co108, eo108, gb108, gl108, cl108, HG108⟩ := Kd.R_form HL165_0.out (by omega)
                                    (first | cases eo108 | (injection eo108 with ea_ en_ ec_; (first | subst ea_ | (injection ea_ with ea_; subst ea_)); subst ec_; clear en_))
                                    have GB108 := q13 gb108
                                    have GG108 := q13 HG108
                                    clear gb108 gl108 HG108
                                    obtain ⟨hx108_0, hf108_0⟩ := Kd.R_celln 0 HL165_0.out (x7_3 : Int) p108 q108
                                    replace p108 := eq_true p108
                                    replace q108 := eq_true q108
                                    have hq118 : (x6_2 : Int) < (x128000_3.length : Int) := (by have h_ : (x6_2 : Int) < ((x128000_3.length : Int) : Int) := q15 (by assumption); first | exact h_ | (have e_ := (Kd.S_reads' HO_128000.out).1; omega) | simpa only [List.length_set, List.length_set] using h_)
                                    obtain ⟨oki118, ce118, hcl118, hM118, hcc118, hok118, hbk118⟩ := Kd.S_borrow HO_128000.out [] (x6_2 : Int) (q15 (by assumption)) hq118
                                    obtain ⟨ve118_0, rfl, ge118_0⟩ := hM118
                                    have hv118 := hcc118 0 _ rfl
                                    rw [Nat.add_zero, show ((Kd.slice 3 (Kd.int .i64))).sz = 1 from rfl, Nat.mul_one] at hv118
                                    replace hv118 := Option.some.inj (hv118.symm.trans HX165_0.out)
                                    subst hv118
                                    clear hcc118 hcl118
                                    replace ge118_0 := (show Kd.R (Kd.int .i64) 3 _ _ _ _ (rd_L2 x128000_3 x6_2) from ge118_0)
                                    have HP118 := Kd.R_putg ge118_0 (x7_3 : Int) ji105
                                    try go_wp2_with (first | ((with_reducible refine gate_store (t := 3) (p := 173) rfl ?_); refine store_event (t := 3) (p := 173) (v := ?vo_w119) (w1 := (w114.setCell ⟨go108, (x7_3 : Int).toNat, none⟩ (.int .i64 ji105))) ?hg ?ho ?hn ?hr ?_; (case ho => rfl); (case hg => rfl); (case hn => rfl); (case hr => first | (go_simp; done) | (go_simp; rfl)); intro w119 hw; have hg : w114.grownBy w119 (some go108) := (by rw [hw]; exact HP118.2); have hz_ : Kd.R (Kd.int .i64) 3 w119 w.heap.size oki118 (.slice (some ⟨go108, 0, none⟩) (rd_L2 x128000_3 x6_2).length c165_0) y166 := (by rw [hw, Ny166.out]; exact HP118.1); have hp_ : Kd.S (Kd.slice 3 (Kd.int .i64)) 67 w119 w.heap.size (fun _ => True) (.slice (some ad163) x128000_3.length co117) y168 := (by rw [Ny168.out]; exact hbk118 hg (fun k_ e_ => by injection e_ with e_; subst e_; exact ge118_0.1 _ rfl) (Kd.M_row hz_)); have hm_ := Kd.R_mono hz_ hok118; clear HP118 hbk118; have n0_ := q13 (hp_); have n1_ := q13 (Kd.S_over' (v := (.slice (some ⟨go108, 0, none⟩) (rd_L2 x128000_3 x6_2).length c165_0)) (gS HO_128001) (Kd.R_typed HL165_0.out) (by decide) hg); have n2_ := q13 (blk_grown (g := gb126) (o := .cells #[.slice none 0 0, .slice none 0 0] 80 (0, 0)) (gK BK126) hg (Kd.R_ne HL165_0.out BK126.out (by decide))); have n3_ := q13 (blk_grown (g := gb127) (o := .cells #[.slice (some ad163) x128000_3.length co117, .slice (some ad146) x128001_3.length co110] 80 (0, 0)) (gK BK127) hg (Kd.R_ne HL165_0.out BK127.out (by decide))); have n4_ := q13 ((by rw [hw]; exact q6 (HB.out) GB108.out : Below w.heap.size w w119)); have n5_ := q13 (hm_); have n6_ := q13 ((Kd.R_reads' hm_).2.1); clear HO_128000; clear HO_128001; clear BK126; clear BK127; clear HB; clear HL153_0; clear HL163_0; clear HL165_0; have HO_128000 := n0_; have HO_128001 := n1_; have BK126 := n2_; have BK127 := n3_; have HB := n4_; have HL174 := n5_; have HC167 := n6_; clear n0_ n1_ n2_ n3_ n4_ n5_ n6_; clear hg hw hp_ hz_ hm_ hok118))
                                    go_roundg kj56
                                    case measure => have := HK1.out; have := HK2.out; have := HK3.out; have := HJ30.out; have := HJ32.out; have := HJ34.out; have := HJ45.out; have := HJ56.out; omega
                                    case rel => exact ⟨(wrap64 (x7_3 - 1)), (y168), (y152), (.slice (some ad163) x128000_3.length co117), (.slice (some ad146) x128001_3.length co110), (by first | rfl | (simp; done) | (simp [*]; done)), H', ⟨by have := HK1.out; have := HK2.out; have := HK3.out; have := HJ30.out; have := HJ32.out; have := HJ34.out; have := HJ45.out; have := HJ56.out; omega⟩, ⟨by (with_reducible repeat (first | apply q31 | apply q32 | apply q33)); exact HO_128000.out⟩, ⟨by (with_reducible repeat (first | apply q31 | apply q32 | apply q33)); exact HO_128001.out⟩, ⟨by (with_reducible repeat (first | refine q0 ?_ _ | refine q1 ?_ | refine q2 ?_ _)); exact BK126.out⟩, ⟨by (with_reducible repeat (first | refine q0 ?_ _ | refine q1 ?_ | refine q2 ?_ _)); exact BK127.out⟩, ⟨by repeat (first | (with_reducible first | exact HB.out | apply q3 | apply q4 | apply q5 | refine q6 ?_ GE126.out | refine q6 ?_ GE127.out) | exact HB.out)⟩⟩
                                  ·rw [if_neg c107] at H
                                   exact absurd H (by simp)
                                 ·rw [if_neg c106] at H
                                  exact absurd H (by simp)
                                ·rw [if_neg c104] at H
                                 exact absurd H (by simp)
                               ·rw [if_neg c103] at H
                                exact absurd H (by simp)
                              ·rw [if_neg c101] at H
                               exact absurd H (by simp)
                             ·rw [if_neg c100] at H
                              exact absurd H (by simp)
                           ·rw [if_neg c74] at H
                            exact absurd H (by simp)
                          ·rw [if_neg c72] at H
                           exact absurd H (by simp)
                         ·rw [if_neg c70] at H
                          exact absurd H (by simp)
                        ·rw [if_neg c69] at H
                         exact absurd H (by simp)
                       ·rw [if_neg c68] at H
                        exact absurd H (by simp)
                      ·rw [if_neg c67] at H
                       exact absurd H (by simp)
                     ·rw [if_neg c66] at H
                      exact absurd H (by simp)
                    ·replace c65 := Bool.eq_false_iff.mpr c65
                     subst c65
                     have H1 : (if 0 ≤ x6_2 then (if x6_2 < (x128000_3.length : Int) then (if 0 ≤ x7_3 then (if x7_3 < ((rd_L2 x128000_3 x6_2).length : Int) then (compare_tabled.l2 kj56 l0 l1 x6_2 (wrap64 (x7_3 - 1)) (x128000_3.set (x6_2 : Int).toNat ((rd_L2 x128000_3 x6_2).set (x7_3 : Int).toNat x8_45)) x128001_3) else (none)) else (none)) else (none)) else (none)) = some (r1, r2) := by rw [if_neg (show ¬ (false = true) by decide)] at H; exact H
                     clear H
                     have H := H1
                     clear H1
                     by_cases c120 : 0 ≤ x6_2
                     ·rw [if_pos c120] at H
                      have c120b0 : decide (0 ≤ x6_2) = true := decide_eq_true c120
                      clear c120
                      by_cases c121 : x6_2 < (x128000_3.length : Int)
                      ·rw [if_pos c121] at H
                       have c121b0 : decide (x6_2 < (x128000_3.length : Int)) = true := decide_eq_true c121
                       clear c121
                       by_cases c122 : 0 ≤ x7_3
                       ·rw [if_pos c122] at H
                        have c122b0 : decide (0 ≤ x7_3) = true := decide_eq_true c122
                        clear c122
                        by_cases c123 : x7_3 < ((rd_L2 x128000_3 x6_2).length : Int)
                        ·rw [if_pos c123] at H
                         have c123b0 : decide (x7_3 < ((rd_L2 x128000_3 x6_2).length : Int)) = true := decide_eq_true c123
                         clear c123
                         obtain ⟨y170, hy170⟩ : ∃ y_ : List Int, y_ = ((rd_L2 x128000_3 x6_2).set (x7_3 : Int).toNat x8_45) := ⟨_, rfl⟩
                         replace H : (compare_tabled.l2 kj56 l0 l1 x6_2 (wrap64 (x7_3 - 1)) (x128000_3.set (x6_2 : Int).toNat y170) x128001_3) = some (r1, r2) := by first | (rw [hy170]; with_reducible exact H) | (have H2_ := (Option.bind_some _ _).symm.trans H; rw [hy170]; with_reducible exact H2_) | (have H2_ := (Option.bind_some _ _).symm.trans H; with_reducible exact H2_) | with_reducible exact H | (rw [hy170]; exact H) | exact H
                         have Ny170 := q13 hy170
                         clear hy170
                         obtain ⟨y172, hy172⟩ : ∃ y_ : List (List Int), y_ = (x128000_3.set (x6_2 : Int).toNat y170) := ⟨_, rfl⟩
                         replace H : (compare_tabled.l2 kj56 l0 l1 x6_2 (wrap64 (x7_3 - 1)) y172 x128001_3) = some (r1, r2) := by first | (rw [hy172]; with_reducible exact H) | (have H2_ := (Option.bind_some _ _).symm.trans H; rw [hy172]; with_reducible exact H2_) | (have H2_ := (Option.bind_some _ _).symm.trans H; with_reducible exact H2_) | with_reducible exact H | (rw [hy172]; exact H) | exact H
                         have Ny172 := q13 hy172
                         clear hy172
                         as_aux_lemma =>
                          have H' := q13 H
                          clear H
                          have hnb125 := NB127_126.out
                          have hnc125 := NB126_127.out
                          have hcz126_0 : wc.cell? ⟨gb127, 0, none⟩ = some (u128000) := (q9 BK127.out 0).trans rfl
                          have hcz126_1 : wc.cell? ⟨gb127, 1, none⟩ = some (u128001) := (q9 BK127.out 1).trans rfl
                          have hfz126_0 := q11 BK127.out 0
                          have hfz126_1 := q11 BK127.out 1
                          obtain ⟨Ao127, co127, eo127⟩ := Kd.S_slice HO_128000.out
                          subst eo127
                          have p169 : 0 ≤ (x6_2 : Int) := q15 (by assumption)
                          have q169 : x6_2 < (x128000_3.length : Int) := q15 (by assumption)
                          obtain ⟨ad169, A169_0, c169_0, e169, hx169_0, hl169_0, hi169_0⟩ := at_L2 (Kd.S_reads' HO_128000.out).2.2 x6_2 p169 q169
                          cases e169
                          obtain ⟨ce169, hce169, hMe169, hcc169⟩ := Kd.S_get HO_128000.out [] x6_2 p169 (by first | exact q169 | exact q15 (by assumption) | (have e_ := (Kd.S_reads' HO_128000.out).1; omega))
                          obtain ⟨ve169_0, rfl, ge169_0⟩ := hMe169
                          have hv169_0 := hcc169 0 _ rfl
                          rw [Nat.add_zero, show ((Kd.slice 3 (Kd.int .i64))).sz = 1 from rfl, Nat.mul_one] at hv169_0
                          replace hv169_0 := Option.some.inj (hv169_0.symm.trans hx169_0)
                          rw [hv169_0] at ge169_0
                          have HL169_0 := q13 (show Kd.R (Kd.int .i64) 3 _ _ _ _ (rd_L2 x128000_3 x6_2) from ge169_0)
                          clear hv169_0 ge169_0
                          have HX169_0 := q13 hx169_0
                          clear hcc169 hce169
                          have HR169_0 := q13 hi169_0
                          have HC169_0 := q13 hl169_0
                          clear hi169_0 hl169_0
                          replace p169 := eq_true p169
                          replace q169 := eq_true q169
                          have p124 : 0 ≤ (x7_3 : Int) := q15 (by assumption)
                          have q124 : (x7_3 : Int) < (((rd_L2 x128000_3 x6_2).length : Int) : Int) := q15 (by assumption)
                          obtain ⟨go124, co124, eo124, gb124, gl124, cl124, HG124⟩ := Kd.R_form HL169_0.out (by omega)
                          (first | cases eo124 | (injection eo124 with ea_ en_ ec_; (first | subst ea_ | (injection ea_ with ea_; subst ea_)); subst ec_; clear en_))
                          have GB124 := q13 gb124
                          have GG124 := q13 HG124
                          clear gb124 gl124 HG124
                          obtain ⟨hx124_0, hf124_0⟩ := Kd.R_celln 0 HL169_0.out (x7_3 : Int) p124 q124
                          replace p124 := eq_true p124
                          replace q124 := eq_true q124
                          have hq128 : (x6_2 : Int) < (x128000_3.length : Int) := (by have h_ : (x6_2 : Int) < ((x128000_3.length : Int) : Int) := q15 (by assumption); first | exact h_ | (have e_ := (Kd.S_reads' HO_128000.out).1; omega) | simpa only [List.length_set, List.length_set] using h_)
                          obtain ⟨oki128, ce128, hcl128, hM128, hcc128, hok128, hbk128⟩ := Kd.S_borrow HO_128000.out [] (x6_2 : Int) (q15 (by assumption)) hq128
                          obtain ⟨ve128_0, rfl, ge128_0⟩ := hM128
                          have hv128 := hcc128 0 _ rfl
                          rw [Nat.add_zero, show ((Kd.slice 3 (Kd.int .i64))).sz = 1 from rfl, Nat.mul_one] at hv128
                          replace hv128 := Option.some.inj (hv128.symm.trans HX169_0.out)
                          subst hv128
                          clear hcc128 hcl128
                          replace ge128_0 := (show Kd.R (Kd.int .i64) 3 _ _ _ _ (rd_L2 x128000_3 x6_2) from ge128_0)
                          have HP128 := Kd.R_putg ge128_0 (x7_3 : Int) x8_45
                          go_wp2_with (first | ((with_reducible refine gate_store (t := 3) (p := 173) rfl ?_); refine store_event (t := 3) (p := 173) (v := ?vo_w129) (w1 := (wc.setCell ⟨go124, (x7_3 : Int).toNat, none⟩ (.int .i64 x8_45))) ?hg ?ho ?hn ?hr ?_; (case ho => rfl); (case hg => rfl); (case hn => rfl); (case hr => first | (go_simp; done) | (go_simp; rfl)); intro w129 hw; have hg : wc.grownBy w129 (some go124) := (by rw [hw]; exact HP128.2); have hz_ : Kd.R (Kd.int .i64) 3 w129 w.heap.size oki128 (.slice (some ⟨go124, 0, none⟩) (rd_L2 x128000_3 x6_2).length c169_0) y170 := (by rw [hw, Ny170.out]; exact HP128.1); have hp_ : Kd.S (Kd.slice 3 (Kd.int .i64)) 67 w129 w.heap.size (fun _ => True) (.slice (some ad169) x128000_3.length co127) y172 := (by rw [Ny172.out]; exact hbk128 hg (fun k_ e_ => by injection e_ with e_; subst e_; exact ge128_0.1 _ rfl) (Kd.M_row hz_)); have hm_ := Kd.R_mono hz_ hok128; clear HP128 hbk128; have n0_ := q13 (hp_); have n1_ := q13 (Kd.S_over' (v := (.slice (some ⟨go124, 0, none⟩) (rd_L2 x128000_3 x6_2).length c169_0)) (gS HO_128001) (Kd.R_typed HL169_0.out) (by decide) hg); have n2_ := q13 (blk_grown (g := gb126) (o := .cells #[.slice none 0 0, .slice none 0 0] 80 (0, 0)) (gK BK126) hg (Kd.R_ne HL169_0.out BK126.out (by decide))); have n3_ := q13 (blk_grown (g := gb127) (o := .cells #[.slice (some ad169) x128000_3.length co127, u128001] 80 (0, 0)) (gK BK127) hg (Kd.R_ne HL169_0.out BK127.out (by decide))); have n4_ := q13 ((by rw [hw]; exact q6 (HB.out) GB124.out : Below w.heap.size w w129)); have n5_ := q13 (hm_); have n6_ := q13 ((Kd.R_reads' hm_).2.1); clear HO_128000; clear HO_128001; clear BK126; clear BK127; clear HB; clear HL169_0; have HO_128000 := n0_; have HO_128001 := n1_; have BK126 := n2_; have BK127 := n3_; have HB := n4_; have HL175 := n5_; have HC171 := n6_; clear n0_ n1_ n2_ n3_ n4_ n5_ n6_; clear hg hw hp_ hz_ hm_ hok128))
                          go_roundg kj56
                          case measure => have := HK1.out; have := HK2.out; have := HK3.out; have := HJ30.out; have := HJ32.out; have := HJ34.out; have := HJ45.out; have := HJ56.out; omega
                          case rel => exact ⟨(wrap64 (x7_3 - 1)), (y172), (x128001_3), (.slice (some ad169) x128000_3.length co127), (u128001), (by first | rfl | (simp; done) | (simp [*]; done)), H', ⟨by have := HK1.out; have := HK2.out; have := HK3.out; have := HJ30.out; have := HJ32.out; have := HJ34.out; have := HJ45.out; have := HJ56.out; omega⟩, ⟨by (with_reducible repeat (first | apply q31 | apply q32 | apply q33)); exact HO_128000.out⟩, ⟨by (with_reducible repeat (first | apply q31 | apply q32 | apply q33)); exact HO_128001.out⟩, ⟨by (with_reducible repeat (first | refine q0 ?_ _ | refine q1 ?_ | refine q2 ?_ _)); exact BK126.out⟩, ⟨by (with_reducible repeat (first | refine q0 ?_ _ | refine q1 ?_ | refine q2 ?_ _)); exact BK127.out⟩, ⟨by repeat (first | (with_reducible first | exact HB.out | apply q3 | apply q4 | apply q5 | refine q6 ?_ GE126.out | refine q6 ?_ GE127.out) | exact HB.out)⟩⟩
                        ·rw [if_neg c123] at H
                         exact absurd H (by simp)
                       ·rw [if_neg c122] at H
                        exact absurd H (by simp)
                      ·rw [if_neg c121] at H
                       exact absurd H (by simp)
                     ·rw [if_neg c120] at H
                      exact absurd H (by simp)
         ·rw [if_neg c30] at H
          have c30b0 : decide (0 ≤ x7_3) = false := decide_eq_false c30
          clear c30
          as_aux_lemma =>
           have H' := q13 H
           clear H
           go_wp2
           go_roundg k3
           case measure => have := HK1.out; have := HK2.out; have := HK3.out; omega
           case rel => exact ⟨(wrap64 (x6_2 - 1)), (x128000_3), (x128001_3), (u128000), (u128001), (by first | rfl | (simp; done) | (simp [*]; done)), H', ⟨by have := HK1.out; have := HK2.out; have := HK3.out; omega⟩, ⟨by (with_reducible repeat (first | apply q31 | apply q32 | apply q33)); exact HO_128000.out⟩, ⟨by (with_reducible repeat (first | apply q31 | apply q32 | apply q33)); exact HO_128001.out⟩, ⟨by (with_reducible repeat (first | refine q0 ?_ _ | refine q1 ?_ | refine q2 ?_ _)); exact BK126.out⟩, ⟨by (with_reducible repeat (first | refine q0 ?_ _ | refine q1 ?_ | refine q2 ?_ _)); exact BK127.out⟩, ⟨by repeat (first | (with_reducible first | exact HB.out | apply q3 | apply q4 | apply q5 | refine q6 ?_ GE126.out | refine q6 ?_ GE127.out) | exact HB.out)⟩⟩
      ·rw [if_neg c29] at H
       have c29b0 : decide (0 ≤ x6_2) = false := decide_eq_false c29
       clear c29
       as_aux_lemma =>
        simp only [Option.some.injEq, Prod.mk.injEq] at H
        obtain ⟨rfl, rfl⟩ := H
        have hnb130 := NB127_126.out
        have hnc130 := NB126_127.out
        have hcz131_0 : wr.cell? ⟨gb127, 0, none⟩ = some (u128000) := (q9 BK127.out 0).trans rfl
        have hcz131_1 : wr.cell? ⟨gb127, 1, none⟩ = some (u128001) := (q9 BK127.out 1).trans rfl
        have hfz131_0 := q11 BK127.out 0
        have hfz131_1 := q11 BK127.out 1
        obtain ⟨Ao132, co132, eo132⟩ := Kd.S_slice HO_128000.out
        subst eo132
        have hcz133_0 : wr.cell? ⟨gb126, 0, none⟩ = some (.slice none 0 0) := (q9 BK126.out 0).trans rfl
        have hcz133_1 : wr.cell? ⟨gb126, 1, none⟩ = some (.slice none 0 0) := (q9 BK126.out 1).trans rfl
        have hfz133_0 := q11 BK126.out 0
        have hfz133_1 := q11 BK126.out 1
        obtain ⟨Ao134, co134, eo134⟩ := Kd.S_slice HO_128001.out
        subst eo134
        go_wp2
        refine bodyPost_ret (results_cell_row rfl _ _ gb126 80 #[.slice Ao132 x128000_2.length co132, .slice Ao134 x128001_2.length co134] (0, 0) _ rfl (by (with_reducible repeat (first | refine q0 ?_ _ | refine q1 ?_ | refine q2 ?_ _)); refine blk_put (cs := #[.slice Ao132 x128000_2.length co132, .slice none 0 0]) ?_ 1 _ rfl; (with_reducible repeat (first | refine q0 ?_ _ | refine q1 ?_ | refine q2 ?_ _)); refine blk_put (cs := #[.slice none 0 0, .slice none 0 0]) ?_ 0 _ rfl; (with_reducible repeat (first | refine q0 ?_ _ | refine q1 ?_ | refine q2 ?_ _)); exact BK126.out) Try.underlying80 rfl (by kernel_rfl)) rfl ?_
        exact ⟨_, _, by first | rfl | (simp [errW_none, errW_some] <;> rfl) | (simp [*, errW_none, errW_some] <;> rfl), by (with_reducible repeat (first | apply q31 | apply q32 | apply q33)); exact Kd.S_mono (Kd.S_far (p := ⟨gb126, 1, none⟩) (Kd.S_far (p := ⟨gb126, 0, none⟩) (Kd.S_types HO_128000.out BK126.out (by decide)) (fun _ hk => hk.2) (.slice Ao132 x128000_2.length co132)) (fun _ hk => hk.2) (.slice Ao134 x128001_2.length co134)) (fun _ hk => trivial), by (with_reducible repeat (first | apply q31 | apply q32 | apply q33)); exact Kd.S_mono (Kd.S_far (p := ⟨gb126, 1, none⟩) (Kd.S_far (p := ⟨gb126, 0, none⟩) (Kd.S_types HO_128001.out BK126.out (by decide)) (fun _ hk => hk.2) (.slice Ao132 x128000_2.length co132)) (fun _ hk => hk.2) (.slice Ao134 x128001_2.length co134)) (fun _ hk => trivial), by repeat (first | (with_reducible first | exact HB.out | apply q3 | apply q4 | apply q5 | refine q6 ?_ GE126.out | refine q6 ?_ GE127.out) | exact HB.out)⟩

end Go.Proofs.Ytgjmljjnminefaa.QCP
