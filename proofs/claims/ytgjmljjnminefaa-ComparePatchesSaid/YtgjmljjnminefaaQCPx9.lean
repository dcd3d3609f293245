import Derived.Lib.SliceRun
import Derived.Test.YtgjmljjnminefaaQCPx0
import Derived.Test.YtgjmljjnminefaaFGrowCP
import Derived.Test.YtgjmljjnminefaaArrEq
import Derived.Test.YtgjmljjnminefaaZip2
import Derived.Test.YtgjmljjnminefaaZip
namespace Go.Proofs.Ytgjmljjnminefaa.QCP
open Go.Proofs.Ytgjmljjnminefaa.Zip Go.Proofs.Ytgjmljjnminefaa.Zip2 Go.RowKit Go.Proofs.YtgjmljjnminefaaW.PrintWords Go.Proofs.YtgjmljjnminefaaW.PrintLast Go.Proofs.YtgjmljjnminefaaW.PrintMore
attribute [local go_sem] max2_int min2_int max_two min_two max_three min_three max_four min_four   -- for this text's walks alone
set_option linter.unusedVariables false
set_option linter.unusedSimpArgs false

mutual
def frisketref36_SameMark.j0 : Nat → Bool → Int → Int → Int → Int → Int → ByteArray → ByteArray → ByteArray → List Int → Int → Int → Int → Int → Int → ByteArray → ByteArray → ByteArray → List Int → Option (Bool)
 | 0, _, _, _, _, _, _, _, _, _, _, _, _, _, _, _, _, _, _, _ => none
 | k + 1, x68, x225000, x225001, x225002, x225003, x225004, x225005, x225006, x225007, x225008, x226000, x226001, x226002, x226003, x226004, x226005, x226006, x226007, x226008 => if x68 = true then (some false) else (frisketref36_SameMark.l0 k 0 x225000 x225001 x225002 x225003 x225004 x225005 x225006 x225007 x225008 x226000 x226001 x226002 x226003 x226004 x226005 x226006 x226007 x226008)
def frisketref36_SameMark.l0 : Nat → Int → Int → Int → Int → Int → Int → ByteArray → ByteArray → ByteArray → List Int → Int → Int → Int → Int → Int → ByteArray → ByteArray → ByteArray → List Int → Option (Bool)
 | 0, _, _, _, _, _, _, _, _, _, _, _, _, _, _, _, _, _, _, _ => none
 | k + 1, x5, x225000, x225001, x225002, x225003, x225004, x225005, x225006, x225007, x225008, x226000, x226001, x226002, x226003, x226004, x226005, x226006, x226007, x226008 => if x5 < (x225008.length : Int) then (if 0 ≤ x5 then (if x5 < (x226008.length : Int) then (if (rd x225008 x5) = (rd x226008 x5) then (frisketref36_SameMark.l0 k (wrap64 (x5 + 1)) x225000 x225001 x225002 x225003 x225004 x225005 x225006 x225007 x225008 x226000 x226001 x226002 x226003 x226004 x226005 x226006 x226007 x226008) else (some false)) else (none)) else (none)) else (some true)
end
def frisketref36_SameMark.f (k : Nat) (a0_0 : Int) (a0_1 : Int) (a0_2 : Int) (a0_3 : Int) (a0_4 : Int) (a0_5 : ByteArray) (a0_6 : ByteArray) (a0_7 : ByteArray) (l0_8 : List Int) (a1_0 : Int) (a1_1 : Int) (a1_2 : Int) (a1_3 : Int) (a1_4 : Int) (a1_5 : ByteArray) (a1_6 : ByteArray) (a1_7 : ByteArray) (l1_8 : List Int) : Option (Bool) := if a0_0 = a1_0 then (if a0_1 = a1_1 then (if a0_2 = a1_2 then (if a0_3 = a1_3 then (if a0_4 = a1_4 then (if a0_5.toList = a1_5.toList then (if a0_6.toList = a1_6.toList then (if a0_7.toList = a1_7.toList then (frisketref36_SameMark.j0 k ((l0_8.length : Int) != (l1_8.length : Int)) a0_0 a0_1 a0_2 a0_3 a0_4 a0_5 a0_6 a0_7 l0_8 a1_0 a1_1 a1_2 a1_3 a1_4 a1_5 a1_6 a1_7 l1_8) else (frisketref36_SameMark.j0 k true a0_0 a0_1 a0_2 a0_3 a0_4 a0_5 a0_6 a0_7 l0_8 a1_0 a1_1 a1_2 a1_3 a1_4 a1_5 a1_6 a1_7 l1_8)) else (frisketref36_SameMark.j0 k true a0_0 a0_1 a0_2 a0_3 a0_4 a0_5 a0_6 a0_7 l0_8 a1_0 a1_1 a1_2 a1_3 a1_4 a1_5 a1_6 a1_7 l1_8)) else (frisketref36_SameMark.j0 k true a0_0 a0_1 a0_2 a0_3 a0_4 a0_5 a0_6 a0_7 l0_8 a1_0 a1_1 a1_2 a1_3 a1_4 a1_5 a1_6 a1_7 l1_8)) else (frisketref36_SameMark.j0 k true a0_0 a0_1 a0_2 a0_3 a0_4 a0_5 a0_6 a0_7 l0_8 a1_0 a1_1 a1_2 a1_3 a1_4 a1_5 a1_6 a1_7 l1_8)) else (frisketref36_SameMark.j0 k true a0_0 a0_1 a0_2 a0_3 a0_4 a0_5 a0_6 a0_7 l0_8 a1_0 a1_1 a1_2 a1_3 a1_4 a1_5 a1_6 a1_7 l1_8)) else (frisketref36_SameMark.j0 k true a0_0 a0_1 a0_2 a0_3 a0_4 a0_5 a0_6 a0_7 l0_8 a1_0 a1_1 a1_2 a1_3 a1_4 a1_5 a1_6 a1_7 l1_8)) else (frisketref36_SameMark.j0 k true a0_0 a0_1 a0_2 a0_3 a0_4 a0_5 a0_6 a0_7 l0_8 a1_0 a1_1 a1_2 a1_3 a1_4 a1_5 a1_6 a1_7 l1_8)) else (frisketref36_SameMark.j0 k true a0_0 a0_1 a0_2 a0_3 a0_4 a0_5 a0_6 a0_7 l0_8 a1_0 a1_1 a1_2 a1_3 a1_4 a1_5 a1_6 a1_7 l1_8)
theorem frisketref36_SameMark.mono_l : ∀ k, (∀ y0 y1 y2 y3 y4 y5 y6 y7 y8 y9 y10 y11 y12 y13 y14 y15 y16 y17 y18, LeO (frisketref36_SameMark.j0 k y0 y1 y2 y3 y4 y5 y6 y7 y8 y9 y10 y11 y12 y13 y14 y15 y16 y17 y18) (frisketref36_SameMark.j0 (k + 1) y0 y1 y2 y3 y4 y5 y6 y7 y8 y9 y10 y11 y12 y13 y14 y15 y16 y17 y18)) ∧ (∀ y0 y1 y2 y3 y4 y5 y6 y7 y8 y9 y10 y11 y12 y13 y14 y15 y16 y17 y18, LeO (frisketref36_SameMark.l0 k y0 y1 y2 y3 y4 y5 y6 y7 y8 y9 y10 y11 y12 y13 y14 y15 y16 y17 y18) (frisketref36_SameMark.l0 (k + 1) y0 y1 y2 y3 y4 y5 y6 y7 y8 y9 y10 y11 y12 y13 y14 y15 y16 y17 y18))
 | 0 => ⟨fun _ _ _ _ _ _ _ _ _ _ _ _ _ _ _ _ _ _ _ r h => by simp [frisketref36_SameMark.j0] at h, fun _ _ _ _ _ _ _ _ _ _ _ _ _ _ _ _ _ _ _ r h => by simp [frisketref36_SameMark.l0] at h⟩
 | k + 1 => by
  obtain ⟨ih0, ih1⟩ := frisketref36_SameMark.mono_l k
  refine ⟨?_, ?_⟩
  ·intro y0 y1 y2 y3 y4 y5 y6 y7 y8 y9 y10 y11 y12 y13 y14 y15 y16 y17 y18
   unfold frisketref36_SameMark.j0
   repeat' first
   | (with_reducible exact ih0 _ _ _ _ _ _ _ _ _ _ _ _ _ _ _ _ _ _ _)
   | (with_reducible exact ih1 _ _ _ _ _ _ _ _ _ _ _ _ _ _ _ _ _ _ _)
   | (with_reducible exact LeO.refl _)
   | (with_reducible exact LeO.none _)
   | (with_reducible refine LeO.ite ?_ ?_)
   | (with_reducible refine LeO.bind ?_ (fun _ => ?_))
   | exact ih0 _ _ _ _ _ _ _ _ _ _ _ _ _ _ _ _ _ _ _
   | exact ih1 _ _ _ _ _ _ _ _ _ _ _ _ _ _ _ _ _ _ _
   | exact LeO.none _
   | refine LeO.ite ?_ ?_
   | refine LeO.bind ?_ (fun _ => ?_)
  ·intro y0 y1 y2 y3 y4 y5 y6 y7 y8 y9 y10 y11 y12 y13 y14 y15 y16 y17 y18
   unfold frisketref36_SameMark.l0
   repeat' first
   | (with_reducible exact ih0 _ _ _ _ _ _ _ _ _ _ _ _ _ _ _ _ _ _ _)
   | (with_reducible exact ih1 _ _ _ _ _ _ _ _ _ _ _ _ _ _ _ _ _ _ _)
   | (with_reducible exact LeO.refl _)
   | (with_reducible exact LeO.none _)
   | (with_reducible refine LeO.ite ?_ ?_)
   | (with_reducible refine LeO.bind ?_ (fun _ => ?_))
   | exact ih0 _ _ _ _ _ _ _ _ _ _ _ _ _ _ _ _ _ _ _
   | exact ih1 _ _ _ _ _ _ _ _ _ _ _ _ _ _ _ _ _ _ _
   | exact LeO.none _
   | refine LeO.ite ?_ ?_
   | refine LeO.bind ?_ (fun _ => ?_)
theorem frisketref36_SameMark.mono : ∀ a0 a1 a2 a3 a4 a5 a6 a7 a8 a9 a10 a11 a12 a13 a14 a15 a16 a17 k, LeO (frisketref36_SameMark.f k a0 a1 a2 a3 a4 a5 a6 a7 a8 a9 a10 a11 a12 a13 a14 a15 a16 a17) (frisketref36_SameMark.f (k + 1) a0 a1 a2 a3 a4 a5 a6 a7 a8 a9 a10 a11 a12 a13 a14 a15 a16 a17) := by
 intro a0 a1 a2 a3 a4 a5 a6 a7 a8 a9 a10 a11 a12 a13 a14 a15 a16 a17 k
 obtain ⟨ih0, ih1⟩ := frisketref36_SameMark.mono_l k
 unfold frisketref36_SameMark.f
 repeat' first
   | (with_reducible exact ih0 _ _ _ _ _ _ _ _ _ _ _ _ _ _ _ _ _ _ _)
   | (with_reducible exact ih1 _ _ _ _ _ _ _ _ _ _ _ _ _ _ _ _ _ _ _)
   | (with_reducible exact LeO.refl _)
   | (with_reducible exact LeO.none _)
   | (with_reducible refine LeO.ite ?_ ?_)
   | (with_reducible refine LeO.bind ?_ (fun _ => ?_))
   | exact ih0 _ _ _ _ _ _ _ _ _ _ _ _ _ _ _ _ _ _ _
   | exact ih1 _ _ _ _ _ _ _ _ _ _ _ _ _ _ _ _ _ _ _
   | exact LeO.none _
   | refine LeO.ite ?_ ?_
   | refine LeO.bind ?_ (fun _ => ?_)
set_option maxHeartbeats 8000000 in
set_option maxRecDepth 100000 in
theorem frisketref36_SameMark.calls (k : Nat) (a0_0 : Int) (a0_1 : Int) (a0_2 : Int) (a0_3 : Int) (a0_4 : Int) (a0_5 : ByteArray) (a0_6 : ByteArray) (a0_7 : ByteArray) (A0_8 : Option Addr) (c0_8 : Nat) (l0_8 : List Int) (a1_0 : Int) (a1_1 : Int) (a1_2 : Int) (a1_3 : Int) (a1_4 : Int) (a1_5 : ByteArray) (a1_6 : ByteArray) (a1_7 : ByteArray) (A1_8 : Option Addr) (c1_8 : Nat) (l1_8 : List Int) (r : Bool) (w : World) (hr0_8 : Kd.C (Kd.int .i64) w A0_8 l0_8.length l0_8) (hc0_8 : l0_8.length ≤ c0_8) (hr1_8 : Kd.C (Kd.int .i64) w A1_8 l1_8.length l1_8) (hc1_8 : l1_8.length ≤ c1_8) (h : frisketref36_SameMark.f k a0_0 a0_1 a0_2 a0_3 a0_4 a0_5 a0_6 a0_7 l0_8 a1_0 a1_1 a1_2 a1_3 a1_4 a1_5 a1_6 a1_7 l1_8 = some r) :
  Calls Try.prog 31 #[.agg #[.int .i64 a0_0, .int .i64 a0_1, .int .i64 a0_2, .int .i64 a0_3, .int .i64 a0_4, .string a0_5, .string a0_6, .string a0_7, .slice A0_8 l0_8.length c0_8], .agg #[.int .i64 a1_0, .int .i64 a1_1, .int .i64 a1_2, .int .i64 a1_3, .int .i64 a1_4, .string a1_5, .string a1_6, .string a1_7, .slice A1_8 l1_8.length c1_8]] w fun e w' => e = .returned (.bool r) ∧ Below w.heap.size w w' := by
 have hu69 := Try.underlying69
 have HR0_8 := q13 hr0_8
 have HC0_8 := q13 hc0_8
 clear hr0_8 hc0_8
 have HR1_8 := q13 hr1_8
 have HC1_8 := q13 hc1_8
 clear hr1_8 hc1_8
 have HB := q13 (Below.refl w.heap.size w)
 have H : (if a0_0 = a1_0 then (if a0_1 = a1_1 then (if a0_2 = a1_2 then (if a0_3 = a1_3 then (if a0_4 = a1_4 then (if a0_5.toList = a1_5.toList then (if a0_6.toList = a1_6.toList then (if a0_7.toList = a1_7.toList then (frisketref36_SameMark.j0 k ((l0_8.length : Int) != (l1_8.length : Int)) a0_0 a0_1 a0_2 a0_3 a0_4 a0_5 a0_6 a0_7 l0_8 a1_0 a1_1 a1_2 a1_3 a1_4 a1_5 a1_6 a1_7 l1_8) else (frisketref36_SameMark.j0 k true a0_0 a0_1 a0_2 a0_3 a0_4 a0_5 a0_6 a0_7 l0_8 a1_0 a1_1 a1_2 a1_3 a1_4 a1_5 a1_6 a1_7 l1_8)) else (frisketref36_SameMark.j0 k true a0_0 a0_1 a0_2 a0_3 a0_4 a0_5 a0_6 a0_7 l0_8 a1_0 a1_1 a1_2 a1_3 a1_4 a1_5 a1_6 a1_7 l1_8)) else (frisketref36_SameMark.j0 k true a0_0 a0_1 a0_2 a0_3 a0_4 a0_5 a0_6 a0_7 l0_8 a1_0 a1_1 a1_2 a1_3 a1_4 a1_5 a1_6 a1_7 l1_8)) else (frisketref36_SameMark.j0 k true a0_0 a0_1 a0_2 a0_3 a0_4 a0_5 a0_6 a0_7 l0_8 a1_0 a1_1 a1_2 a1_3 a1_4 a1_5 a1_6 a1_7 l1_8)) else (frisketref36_SameMark.j0 k true a0_0 a0_1 a0_2 a0_3 a0_4 a0_5 a0_6 a0_7 l0_8 a1_0 a1_1 a1_2 a1_3 a1_4 a1_5 a1_6 a1_7 l1_8)) else (frisketref36_SameMark.j0 k true a0_0 a0_1 a0_2 a0_3 a0_4 a0_5 a0_6 a0_7 l0_8 a1_0 a1_1 a1_2 a1_3 a1_4 a1_5 a1_6 a1_7 l1_8)) else (frisketref36_SameMark.j0 k true a0_0 a0_1 a0_2 a0_3 a0_4 a0_5 a0_6 a0_7 l0_8 a1_0 a1_1 a1_2 a1_3 a1_4 a1_5 a1_6 a1_7 l1_8)) else (frisketref36_SameMark.j0 k true a0_0 a0_1 a0_2 a0_3 a0_4 a0_5 a0_6 a0_7 l0_8 a1_0 a1_1 a1_2 a1_3 a1_4 a1_5 a1_6 a1_7 l1_8)) = some r := h
 clear h
 have HC3 := q13 H
 clear H
 go_enter Try.func31, Try.ntmps31
 go_upto_region 1 with (first | ((with_reducible refine gate_dst (N := 2) rfl ?_); (try (refine gate_guard (by rfl) ?_; dsimp only)); refine box_event ?hg (N := 2) ?hd (cs := #[.int .i64 a0_0, .int .i64 a0_1, .int .i64 a0_2, .int .i64 a0_3, .int .i64 a0_4, .string a0_5, .string a0_6, .string a0_7, .slice A0_8 l0_8.length c0_8]) (t := 69) ?hr ?_; (case hd => rfl); (case hg => rfl); (case hr => first | (go_simp; done) | (go_simp; rfl)); intro gb224 hg w4 hbox hb; have n0_ := q13 (q12 (gB HB) hb); have n1_ := q13 (hbox); have n2_ := q13 ((by rw [hg]; exact (q7 (gB HB)) : w.heap.size ≤ gb224)); have n3_ := q13 ((by rw [hg]; exact (q7 (gB HB)) : w.heap.size ≤ gb224)); clear HB; have HB := n0_; have BK224 := n1_; have GW224 := n2_; have GE224 := n3_; clear n0_ n1_ n2_ n3_; clear hb hbox hg) | ((with_reducible refine gate_dst (N := 3) rfl ?_); (try (refine gate_guard (by rfl) ?_; dsimp only)); refine box_event ?hg (N := 3) ?hd (cs := #[.int .i64 a1_0, .int .i64 a1_1, .int .i64 a1_2, .int .i64 a1_3, .int .i64 a1_4, .string a1_5, .string a1_6, .string a1_7, .slice A1_8 l1_8.length c1_8]) (t := 69) ?hr ?_; (case hd => rfl); (case hg => rfl); (case hr => first | (go_simp; done) | (go_simp; rfl)); intro gb225 hg w5 hbox hb; have n0_ := q13 (q8 (g := gb224) (o := .cells #[.int .i64 a0_0, .int .i64 a0_1, .int .i64 a0_2, .int .i64 a0_3, .int .i64 a0_4, .string a0_5, .string a0_6, .string a0_7, .slice A0_8 l0_8.length c0_8] 69 (0, 0)) (gK BK224) hb); have n1_ := q13 (q12 (by repeat (first | (with_reducible first | exact HB.out | apply q3 | apply q4 | apply q5 | refine q6 ?_ GE224.out) | exact HB.out)) hb); have n2_ := q13 (hbox); have n3_ := q13 ((by rw [hg]; exact (q7 (by repeat (first | (with_reducible first | exact HB.out | apply q3 | apply q4 | apply q5 | refine q6 ?_ GE224.out) | exact HB.out))) : w.heap.size ≤ gb225)); have n4_ := q13 ((by rw [hg]; exact (q7 (by repeat (first | (with_reducible first | exact HB.out | apply q3 | apply q4 | apply q5 | refine q6 ?_ GE224.out) | exact HB.out))) : w.heap.size ≤ gb225)); have n5_ := q13 ((by rw [hg]; exact Nat.ne_of_lt (blk_lt (g := gb224) (o := .cells #[.int .i64 a0_0, .int .i64 a0_1, .int .i64 a0_2, .int .i64 a0_3, .int .i64 a0_4, .string a0_5, .string a0_6, .string a0_7, .slice A0_8 l0_8.length c0_8] 69 (0, 0)) (gK BK224)) : gb224 ≠ gb225)); have n6_ := q13 ((by rw [hg]; exact Nat.ne_of_gt (blk_lt (g := gb224) (o := .cells #[.int .i64 a0_0, .int .i64 a0_1, .int .i64 a0_2, .int .i64 a0_3, .int .i64 a0_4, .string a0_5, .string a0_6, .string a0_7, .slice A0_8 l0_8.length c0_8] 69 (0, 0)) (gK BK224)) : gb225 ≠ gb224)); clear BK224; clear HB; have BK224 := n0_; have HB := n1_; have BK225 := n2_; have GW225 := n3_; have GE225 := n4_; have NB224_225 := n5_; have NB225_224 := n6_; clear n0_ n1_ n2_ n3_ n4_ n5_ n6_; clear hb hbox hg))
 repeat (go_quiet (first | ((with_reducible refine gate_dst (N := 2) rfl ?_); (try (refine gate_guard (by rfl) ?_; dsimp only)); refine box_event ?hg (N := 2) ?hd (cs := #[.int .i64 a0_0, .int .i64 a0_1, .int .i64 a0_2, .int .i64 a0_3, .int .i64 a0_4, .string a0_5, .string a0_6, .string a0_7, .slice A0_8 l0_8.length c0_8]) (t := 69) ?hr ?_; (case hd => rfl); (case hg => rfl); (case hr => first | (go_simp; done) | (go_simp; rfl)); intro gb224 hg w4 hbox hb; have n0_ := q13 (q12 (gB HB) hb); have n1_ := q13 (hbox); have n2_ := q13 ((by rw [hg]; exact (q7 (gB HB)) : w.heap.size ≤ gb224)); have n3_ := q13 ((by rw [hg]; exact (q7 (gB HB)) : w.heap.size ≤ gb224)); clear HB; have HB := n0_; have BK224 := n1_; have GW224 := n2_; have GE224 := n3_; clear n0_ n1_ n2_ n3_; clear hb hbox hg) | ((with_reducible refine gate_dst (N := 3) rfl ?_); (try (refine gate_guard (by rfl) ?_; dsimp only)); refine box_event ?hg (N := 3) ?hd (cs := #[.int .i64 a1_0, .int .i64 a1_1, .int .i64 a1_2, .int .i64 a1_3, .int .i64 a1_4, .string a1_5, .string a1_6, .string a1_7, .slice A1_8 l1_8.length c1_8]) (t := 69) ?hr ?_; (case hd => rfl); (case hg => rfl); (case hr => first | (go_simp; done) | (go_simp; rfl)); intro gb225 hg w5 hbox hb; have n0_ := q13 (q8 (g := gb224) (o := .cells #[.int .i64 a0_0, .int .i64 a0_1, .int .i64 a0_2, .int .i64 a0_3, .int .i64 a0_4, .string a0_5, .string a0_6, .string a0_7, .slice A0_8 l0_8.length c0_8] 69 (0, 0)) (gK BK224) hb); have n1_ := q13 (q12 (by repeat (first | (with_reducible first | exact HB.out | apply q3 | apply q4 | apply q5 | refine q6 ?_ GE224.out) | exact HB.out)) hb); have n2_ := q13 (hbox); have n3_ := q13 ((by rw [hg]; exact (q7 (by repeat (first | (with_reducible first | exact HB.out | apply q3 | apply q4 | apply q5 | refine q6 ?_ GE224.out) | exact HB.out))) : w.heap.size ≤ gb225)); have n4_ := q13 ((by rw [hg]; exact (q7 (by repeat (first | (with_reducible first | exact HB.out | apply q3 | apply q4 | apply q5 | refine q6 ?_ GE224.out) | exact HB.out))) : w.heap.size ≤ gb225)); have n5_ := q13 ((by rw [hg]; exact Nat.ne_of_lt (blk_lt (g := gb224) (o := .cells #[.int .i64 a0_0, .int .i64 a0_1, .int .i64 a0_2, .int .i64 a0_3, .int .i64 a0_4, .string a0_5, .string a0_6, .string a0_7, .slice A0_8 l0_8.length c0_8] 69 (0, 0)) (gK BK224)) : gb224 ≠ gb225)); have n6_ := q13 ((by rw [hg]; exact Nat.ne_of_gt (blk_lt (g := gb224) (o := .cells #[.int .i64 a0_0, .int .i64 a0_1, .int .i64 a0_2, .int .i64 a0_3, .int .i64 a0_4, .string a0_5, .string a0_6, .string a0_7, .slice A0_8 l0_8.length c0_8] 69 (0, 0)) (gK BK224)) : gb225 ≠ gb224)); clear BK224; clear HB; have BK224 := n0_; have HB := n1_; have BK225 := n2_; have GW225 := n3_; have GE225 := n4_; have NB224_225 := n5_; have NB225_224 := n6_; clear n0_ n1_ n2_ n3_ n4_ n5_ n6_; clear hb hbox hg)); go_upto_region 1 with (first | ((with_reducible refine gate_dst (N := 2) rfl ?_); (try (refine gate_guard (by rfl) ?_; dsimp only)); refine box_event ?hg (N := 2) ?hd (cs := #[.int .i64 a0_0, .int .i64 a0_1, .int .i64 a0_2, .int .i64 a0_3, .int .i64 a0_4, .string a0_5, .string a0_6, .string a0_7, .slice A0_8 l0_8.length c0_8]) (t := 69) ?hr ?_; (case hd => rfl); (case hg => rfl); (case hr => first | (go_simp; done) | (go_simp; rfl)); intro gb224 hg w4 hbox hb; have n0_ := q13 (q12 (gB HB) hb); have n1_ := q13 (hbox); have n2_ := q13 ((by rw [hg]; exact (q7 (gB HB)) : w.heap.size ≤ gb224)); have n3_ := q13 ((by rw [hg]; exact (q7 (gB HB)) : w.heap.size ≤ gb224)); clear HB; have HB := n0_; have BK224 := n1_; have GW224 := n2_; have GE224 := n3_; clear n0_ n1_ n2_ n3_; clear hb hbox hg) | ((with_reducible refine gate_dst (N := 3) rfl ?_); (try (refine gate_guard (by rfl) ?_; dsimp only)); refine box_event ?hg (N := 3) ?hd (cs := #[.int .i64 a1_0, .int .i64 a1_1, .int .i64 a1_2, .int .i64 a1_3, .int .i64 a1_4, .string a1_5, .string a1_6, .string a1_7, .slice A1_8 l1_8.length c1_8]) (t := 69) ?hr ?_; (case hd => rfl); (case hg => rfl); (case hr => first | (go_simp; done) | (go_simp; rfl)); intro gb225 hg w5 hbox hb; have n0_ := q13 (q8 (g := gb224) (o := .cells #[.int .i64 a0_0, .int .i64 a0_1, .int .i64 a0_2, .int .i64 a0_3, .int .i64 a0_4, .string a0_5, .string a0_6, .string a0_7, .slice A0_8 l0_8.length c0_8] 69 (0, 0)) (gK BK224) hb); have n1_ := q13 (q12 (by repeat (first | (with_reducible first | exact HB.out | apply q3 | apply q4 | apply q5 | refine q6 ?_ GE224.out) | exact HB.out)) hb); have n2_ := q13 (hbox); have n3_ := q13 ((by rw [hg]; exact (q7 (by repeat (first | (with_reducible first | exact HB.out | apply q3 | apply q4 | apply q5 | refine q6 ?_ GE224.out) | exact HB.out))) : w.heap.size ≤ gb225)); have n4_ := q13 ((by rw [hg]; exact (q7 (by repeat (first | (with_reducible first | exact HB.out | apply q3 | apply q4 | apply q5 | refine q6 ?_ GE224.out) | exact HB.out))) : w.heap.size ≤ gb225)); have n5_ := q13 ((by rw [hg]; exact Nat.ne_of_lt (blk_lt (g := gb224) (o := .cells #[.int .i64 a0_0, .int .i64 a0_1, .int .i64 a0_2, .int .i64 a0_3, .int .i64 a0_4, .string a0_5, .string a0_6, .string a0_7, .slice A0_8 l0_8.length c0_8] 69 (0, 0)) (gK BK224)) : gb224 ≠ gb225)); have n6_ := q13 ((by rw [hg]; exact Nat.ne_of_gt (blk_lt (g := gb224) (o := .cells #[.int .i64 a0_0, .int .i64 a0_1, .int .i64 a0_2, .int .i64 a0_3, .int .i64 a0_4, .string a0_5, .string a0_6, .string a0_7, .slice A0_8 l0_8.length c0_8] 69 (0, 0)) (gK BK224)) : gb225 ≠ gb224)); clear BK224; clear HB; have BK224 := n0_; have HB := n1_; have BK225 := n2_; have GW225 := n3_; have GE225 := n4_; have NB224_225 := n5_; have NB225_224 := n6_; clear n0_ n1_ n2_ n3_ n4_ n5_ n6_; clear hb hbox hg)))
 (try simp only [Act.put, List.setIfInBounds_toArray, List.set_cons_zero, List.set_cons_succ])
 go_cut [68] (fun v68 wc => ∃ (kq : Nat) (x68_2 : Bool), v68 = .bool x68_2 ∧ Aside0 (frisketref36_SameMark.j0 kq x68_2 a0_0 a0_1 a0_2 a0_3 a0_4 a0_5 a0_6 a0_7 l0_8 a1_0 a1_1 a1_2 a1_3 a1_4 a1_5 a1_6 a1_7 l1_8 = some r) ∧ Aside0 (kq ≤ k) ∧ Aside0 (wc.heap[gb224]? = some (.cells #[.int .i64 a0_0, .int .i64 a0_1, .int .i64 a0_2, .int .i64 a0_3, .int .i64 a0_4, .string a0_5, .string a0_6, .string a0_7, (.slice A0_8 l0_8.length c0_8)] 69 (0, 0))) ∧ Aside0 (wc.heap[gb225]? = some (.cells #[.int .i64 a1_0, .int .i64 a1_1, .int .i64 a1_2, .int .i64 a1_3, .int .i64 a1_4, .string a1_5, .string a1_6, .string a1_7, (.slice A1_8 l1_8.length c1_8)] 69 (0, 0))) ∧ Aside0 (Below w.heap.size w wc))
 case first =>
  have H := HC3.out
  clear HC3
  by_cases c6 : a0_0 = a1_0
  ·rw [if_pos c6] at H
   have c6b0 : (a0_0 == a1_0) = true := beq_iff_eq.mpr c6
   have c6b1 : (a0_0 != a1_0) = false := bne_eq_false_iff_eq.mpr c6
   clear c6
   (first | rw [c6b0] | (simp only [i64_w, i32_w]; rw [c6b0]) | skip)
   by_cases c7 : a0_1 = a1_1
   ·rw [if_pos c7] at H
    have c7b0 : (a0_1 == a1_1) = true := beq_iff_eq.mpr c7
    have c7b1 : (a0_1 != a1_1) = false := bne_eq_false_iff_eq.mpr c7
    clear c7
    by_cases c8 : a0_2 = a1_2
    ·rw [if_pos c8] at H
     have c8b0 : (a0_2 == a1_2) = true := beq_iff_eq.mpr c8
     have c8b1 : (a0_2 != a1_2) = false := bne_eq_false_iff_eq.mpr c8
     clear c8
     by_cases c9 : a0_3 = a1_3
     ·rw [if_pos c9] at H
      have c9b0 : (a0_3 == a1_3) = true := beq_iff_eq.mpr c9
      have c9b1 : (a0_3 != a1_3) = false := bne_eq_false_iff_eq.mpr c9
      clear c9
      by_cases c10 : a0_4 = a1_4
      ·rw [if_pos c10] at H
       have c10b0 : (a0_4 == a1_4) = true := beq_iff_eq.mpr c10
       have c10b1 : (a0_4 != a1_4) = false := bne_eq_false_iff_eq.mpr c10
       clear c10
       by_cases c11 : a0_5.toList = a1_5.toList
       ·rw [if_pos c11] at H
        have c11b0 : (a0_5.toList == a1_5.toList) = true := beq_iff_eq.mpr c11
        have c11b1 : (a0_5.toList != a1_5.toList) = false := bne_eq_false_iff_eq.mpr c11
        clear c11
        by_cases c12 : a0_6.toList = a1_6.toList
        ·rw [if_pos c12] at H
         have c12b0 : (a0_6.toList == a1_6.toList) = true := beq_iff_eq.mpr c12
         have c12b1 : (a0_6.toList != a1_6.toList) = false := bne_eq_false_iff_eq.mpr c12
         clear c12
         by_cases c13 : a0_7.toList = a1_7.toList
         ·rw [if_pos c13] at H
          have c13b0 : (a0_7.toList == a1_7.toList) = true := beq_iff_eq.mpr c13
          have c13b1 : (a0_7.toList != a1_7.toList) = false := bne_eq_false_iff_eq.mpr c13
          clear c13
          have H' := q13 H
          clear H
          have hnb14 := NB224_225.out
          have hnc14 := NB225_224.out
          have hcz15_0 : w5.cell? ⟨gb224, 0, none⟩ = some (.int .i64 a0_0) := (q9 BK224.out 0).trans rfl
          have hcz15_1 : w5.cell? ⟨gb224, 1, none⟩ = some (.int .i64 a0_1) := (q9 BK224.out 1).trans rfl
          have hcz15_2 : w5.cell? ⟨gb224, 2, none⟩ = some (.int .i64 a0_2) := (q9 BK224.out 2).trans rfl
          have hcz15_3 : w5.cell? ⟨gb224, 3, none⟩ = some (.int .i64 a0_3) := (q9 BK224.out 3).trans rfl
          have hcz15_4 : w5.cell? ⟨gb224, 4, none⟩ = some (.int .i64 a0_4) := (q9 BK224.out 4).trans rfl
          have hcz15_5 : w5.cell? ⟨gb224, 5, none⟩ = some (.string a0_5) := (q9 BK224.out 5).trans rfl
          have hcz15_6 : w5.cell? ⟨gb224, 6, none⟩ = some (.string a0_6) := (q9 BK224.out 6).trans rfl
          have hcz15_7 : w5.cell? ⟨gb224, 7, none⟩ = some (.string a0_7) := (q9 BK224.out 7).trans rfl
          have hcz15_8 : w5.cell? ⟨gb224, 8, none⟩ = some (.slice A0_8 l0_8.length c0_8) := (q9 BK224.out 8).trans rfl
          have hfz15_0 := q11 BK224.out 0
          have hfz15_1 := q11 BK224.out 1
          have hfz15_2 := q11 BK224.out 2
          have hfz15_3 := q11 BK224.out 3
          have hfz15_4 := q11 BK224.out 4
          have hfz15_5 := q11 BK224.out 5
          have hfz15_6 := q11 BK224.out 6
          have hfz15_7 := q11 BK224.out 7
          have hfz15_8 := q11 BK224.out 8
          have hcz16_0 : w5.cell? ⟨gb225, 0, none⟩ = some (.int .i64 a1_0) := (q9 BK225.out 0).trans rfl
          have hcz16_1 : w5.cell? ⟨gb225, 1, none⟩ = some (.int .i64 a1_1) := (q9 BK225.out 1).trans rfl
          have hcz16_2 : w5.cell? ⟨gb225, 2, none⟩ = some (.int .i64 a1_2) := (q9 BK225.out 2).trans rfl
          have hcz16_3 : w5.cell? ⟨gb225, 3, none⟩ = some (.int .i64 a1_3) := (q9 BK225.out 3).trans rfl
          have hcz16_4 : w5.cell? ⟨gb225, 4, none⟩ = some (.int .i64 a1_4) := (q9 BK225.out 4).trans rfl
          have hcz16_5 : w5.cell? ⟨gb225, 5, none⟩ = some (.string a1_5) := (q9 BK225.out 5).trans rfl
          have hcz16_6 : w5.cell? ⟨gb225, 6, none⟩ = some (.string a1_6) := (q9 BK225.out 6).trans rfl
          have hcz16_7 : w5.cell? ⟨gb225, 7, none⟩ = some (.string a1_7) := (q9 BK225.out 7).trans rfl
          have hcz16_8 : w5.cell? ⟨gb225, 8, none⟩ = some (.slice A1_8 l1_8.length c1_8) := (q9 BK225.out 8).trans rfl
          have hfz16_0 := q11 BK225.out 0
          have hfz16_1 := q11 BK225.out 1
          have hfz16_2 := q11 BK225.out 2
          have hfz16_3 := q11 BK225.out 3
          have hfz16_4 := q11 BK225.out 4
          have hfz16_5 := q11 BK225.out 5
          have hfz16_6 := q11 BK225.out 6
          have hfz16_7 := q11 BK225.out 7
          have hfz16_8 := q11 BK225.out 8
          go_wp2
          repeat (go_quiet (fail); try go_wp2)
          go_meet
          case rel => exact ⟨_, (((l0_8.length : Int) != (l1_8.length : Int))), (by first | rfl | (simp; done) | (simp [*]; done)), H', ⟨by first | omega | exact q17 _⟩, ⟨by (with_reducible repeat (first | refine q0 ?_ _ | refine q1 ?_ | refine q2 ?_ _)); exact BK224.out⟩, ⟨by (with_reducible repeat (first | refine q0 ?_ _ | refine q1 ?_ | refine q2 ?_ _)); exact BK225.out⟩, ⟨by repeat (first | (with_reducible first | exact HB.out | apply q3 | apply q4 | apply q5 | refine q6 ?_ GE224.out | refine q6 ?_ GE225.out) | exact HB.out)⟩⟩
         ·rw [if_neg c13] at H
          have c13b0 : (a0_7.toList == a1_7.toList) = false := beq_eq_false_iff_ne.mpr c13
          have c13b1 : (a0_7.toList != a1_7.toList) = true := bne_iff_ne.mpr c13
          have H' := q13 H
          clear H
          have hnb17 := NB224_225.out
          have hnc17 := NB225_224.out
          have hcz18_0 : w5.cell? ⟨gb224, 0, none⟩ = some (.int .i64 a0_0) := (q9 BK224.out 0).trans rfl
          have hcz18_1 : w5.cell? ⟨gb224, 1, none⟩ = some (.int .i64 a0_1) := (q9 BK224.out 1).trans rfl
          have hcz18_2 : w5.cell? ⟨gb224, 2, none⟩ = some (.int .i64 a0_2) := (q9 BK224.out 2).trans rfl
          have hcz18_3 : w5.cell? ⟨gb224, 3, none⟩ = some (.int .i64 a0_3) := (q9 BK224.out 3).trans rfl
          have hcz18_4 : w5.cell? ⟨gb224, 4, none⟩ = some (.int .i64 a0_4) := (q9 BK224.out 4).trans rfl
          have hcz18_5 : w5.cell? ⟨gb224, 5, none⟩ = some (.string a0_5) := (q9 BK224.out 5).trans rfl
          have hcz18_6 : w5.cell? ⟨gb224, 6, none⟩ = some (.string a0_6) := (q9 BK224.out 6).trans rfl
          have hcz18_7 : w5.cell? ⟨gb224, 7, none⟩ = some (.string a0_7) := (q9 BK224.out 7).trans rfl
          have hcz18_8 : w5.cell? ⟨gb224, 8, none⟩ = some (.slice A0_8 l0_8.length c0_8) := (q9 BK224.out 8).trans rfl
          have hfz18_0 := q11 BK224.out 0
          have hfz18_1 := q11 BK224.out 1
          have hfz18_2 := q11 BK224.out 2
          have hfz18_3 := q11 BK224.out 3
          have hfz18_4 := q11 BK224.out 4
          have hfz18_5 := q11 BK224.out 5
          have hfz18_6 := q11 BK224.out 6
          have hfz18_7 := q11 BK224.out 7
          have hfz18_8 := q11 BK224.out 8
          have hcz19_0 : w5.cell? ⟨gb225, 0, none⟩ = some (.int .i64 a1_0) := (q9 BK225.out 0).trans rfl
          have hcz19_1 : w5.cell? ⟨gb225, 1, none⟩ = some (.int .i64 a1_1) := (q9 BK225.out 1).trans rfl
          have hcz19_2 : w5.cell? ⟨gb225, 2, none⟩ = some (.int .i64 a1_2) := (q9 BK225.out 2).trans rfl
          have hcz19_3 : w5.cell? ⟨gb225, 3, none⟩ = some (.int .i64 a1_3) := (q9 BK225.out 3).trans rfl
          have hcz19_4 : w5.cell? ⟨gb225, 4, none⟩ = some (.int .i64 a1_4) := (q9 BK225.out 4).trans rfl
          have hcz19_5 : w5.cell? ⟨gb225, 5, none⟩ = some (.string a1_5) := (q9 BK225.out 5).trans rfl
          have hcz19_6 : w5.cell? ⟨gb225, 6, none⟩ = some (.string a1_6) := (q9 BK225.out 6).trans rfl
          have hcz19_7 : w5.cell? ⟨gb225, 7, none⟩ = some (.string a1_7) := (q9 BK225.out 7).trans rfl
          have hcz19_8 : w5.cell? ⟨gb225, 8, none⟩ = some (.slice A1_8 l1_8.length c1_8) := (q9 BK225.out 8).trans rfl
          have hfz19_0 := q11 BK225.out 0
          have hfz19_1 := q11 BK225.out 1
          have hfz19_2 := q11 BK225.out 2
          have hfz19_3 := q11 BK225.out 3
          have hfz19_4 := q11 BK225.out 4
          have hfz19_5 := q11 BK225.out 5
          have hfz19_6 := q11 BK225.out 6
          have hfz19_7 := q11 BK225.out 7
          have hfz19_8 := q11 BK225.out 8
          go_wp2
          repeat (go_quiet (fail); try go_wp2)
          go_meet
          case rel => exact ⟨_, (true), (by first | rfl | (simp; done) | (simp [*]; done)), H', ⟨by first | omega | exact q17 _⟩, ⟨by (with_reducible repeat (first | refine q0 ?_ _ | refine q1 ?_ | refine q2 ?_ _)); exact BK224.out⟩, ⟨by (with_reducible repeat (first | refine q0 ?_ _ | refine q1 ?_ | refine q2 ?_ _)); exact BK225.out⟩, ⟨by repeat (first | (with_reducible first | exact HB.out | apply q3 | apply q4 | apply q5 | refine q6 ?_ GE224.out | refine q6 ?_ GE225.out) | exact HB.out)⟩⟩
        ·rw [if_neg c12] at H
         have c12b0 : (a0_6.toList == a1_6.toList) = false := beq_eq_false_iff_ne.mpr c12
         have c12b1 : (a0_6.toList != a1_6.toList) = true := bne_iff_ne.mpr c12
         have H' := q13 H
         clear H
         have hnb20 := NB224_225.out
         have hnc20 := NB225_224.out
         have hcz21_0 : w5.cell? ⟨gb224, 0, none⟩ = some (.int .i64 a0_0) := (q9 BK224.out 0).trans rfl
         have hcz21_1 : w5.cell? ⟨gb224, 1, none⟩ = some (.int .i64 a0_1) := (q9 BK224.out 1).trans rfl
         have hcz21_2 : w5.cell? ⟨gb224, 2, none⟩ = some (.int .i64 a0_2) := (q9 BK224.out 2).trans rfl
         have hcz21_3 : w5.cell? ⟨gb224, 3, none⟩ = some (.int .i64 a0_3) := (q9 BK224.out 3).trans rfl
         have hcz21_4 : w5.cell? ⟨gb224, 4, none⟩ = some (.int .i64 a0_4) := (q9 BK224.out 4).trans rfl
         have hcz21_5 : w5.cell? ⟨gb224, 5, none⟩ = some (.string a0_5) := (q9 BK224.out 5).trans rfl
         have hcz21_6 : w5.cell? ⟨gb224, 6, none⟩ = some (.string a0_6) := (q9 BK224.out 6).trans rfl
         have hcz21_7 : w5.cell? ⟨gb224, 7, none⟩ = some (.string a0_7) := (q9 BK224.out 7).trans rfl
         have hcz21_8 : w5.cell? ⟨gb224, 8, none⟩ = some (.slice A0_8 l0_8.length c0_8) := (q9 BK224.out 8).trans rfl
         have hfz21_0 := q11 BK224.out 0
         have hfz21_1 := q11 BK224.out 1
         have hfz21_2 := q11 BK224.out 2
         have hfz21_3 := q11 BK224.out 3
         have hfz21_4 := q11 BK224.out 4
         have hfz21_5 := q11 BK224.out 5
         have hfz21_6 := q11 BK224.out 6
         have hfz21_7 := q11 BK224.out 7
         have hfz21_8 := q11 BK224.out 8
         have hcz22_0 : w5.cell? ⟨gb225, 0, none⟩ = some (.int .i64 a1_0) := (q9 BK225.out 0).trans rfl
         have hcz22_1 : w5.cell? ⟨gb225, 1, none⟩ = some (.int .i64 a1_1) := (q9 BK225.out 1).trans rfl
         have hcz22_2 : w5.cell? ⟨gb225, 2, none⟩ = some (.int .i64 a1_2) := (q9 BK225.out 2).trans rfl
         have hcz22_3 : w5.cell? ⟨gb225, 3, none⟩ = some (.int .i64 a1_3) := (q9 BK225.out 3).trans rfl
         have hcz22_4 : w5.cell? ⟨gb225, 4, none⟩ = some (.int .i64 a1_4) := (q9 BK225.out 4).trans rfl
         have hcz22_5 : w5.cell? ⟨gb225, 5, none⟩ = some (.string a1_5) := (q9 BK225.out 5).trans rfl
         have hcz22_6 : w5.cell? ⟨gb225, 6, none⟩ = some (.string a1_6) := (q9 BK225.out 6).trans rfl
         have hcz22_7 : w5.cell? ⟨gb225, 7, none⟩ = some (.string a1_7) := (q9 BK225.out 7).trans rfl
         have hcz22_8 : w5.cell? ⟨gb225, 8, none⟩ = some (.slice A1_8 l1_8.length c1_8) := (q9 BK225.out 8).trans rfl
         have hfz22_0 := q11 BK225.out 0
         have hfz22_1 := q11 BK225.out 1
         have hfz22_2 := q11 BK225.out 2
         have hfz22_3 := q11 BK225.out 3
         have hfz22_4 := q11 BK225.out 4
         have hfz22_5 := q11 BK225.out 5
         have hfz22_6 := q11 BK225.out 6
         have hfz22_7 := q11 BK225.out 7
         have hfz22_8 := q11 BK225.out 8
         go_wp2
         repeat (go_quiet (fail); try go_wp2)
         go_meet
         case rel => exact ⟨_, (true), (by first | rfl | (simp; done) | (simp [*]; done)), H', ⟨by first | omega | exact q17 _⟩, ⟨by (with_reducible repeat (first | refine q0 ?_ _ | refine q1 ?_ | refine q2 ?_ _)); exact BK224.out⟩, ⟨by (with_reducible repeat (first | refine q0 ?_ _ | refine q1 ?_ | refine q2 ?_ _)); exact BK225.out⟩, ⟨by repeat (first | (with_reducible first | exact HB.out | apply q3 | apply q4 | apply q5 | refine q6 ?_ GE224.out | refine q6 ?_ GE225.out) | exact HB.out)⟩⟩
       ·rw [if_neg c11] at H
        have c11b0 : (a0_5.toList == a1_5.toList) = false := beq_eq_false_iff_ne.mpr c11
        have c11b1 : (a0_5.toList != a1_5.toList) = true := bne_iff_ne.mpr c11
        have H' := q13 H
        clear H
        have hnb23 := NB224_225.out
        have hnc23 := NB225_224.out
        have hcz24_0 : w5.cell? ⟨gb224, 0, none⟩ = some (.int .i64 a0_0) := (q9 BK224.out 0).trans rfl
        have hcz24_1 : w5.cell? ⟨gb224, 1, none⟩ = some (.int .i64 a0_1) := (q9 BK224.out 1).trans rfl
        have hcz24_2 : w5.cell? ⟨gb224, 2, none⟩ = some (.int .i64 a0_2) := (q9 BK224.out 2).trans rfl
        have hcz24_3 : w5.cell? ⟨gb224, 3, none⟩ = some (.int .i64 a0_3) := (q9 BK224.out 3).trans rfl
        have hcz24_4 : w5.cell? ⟨gb224, 4, none⟩ = some (.int .i64 a0_4) := (q9 BK224.out 4).trans rfl
        have hcz24_5 : w5.cell? ⟨gb224, 5, none⟩ = some (.string a0_5) := (q9 BK224.out 5).trans rfl
        have hcz24_6 : w5.cell? ⟨gb224, 6, none⟩ = some (.string a0_6) := (q9 BK224.out 6).trans rfl
        have hcz24_7 : w5.cell? ⟨gb224, 7, none⟩ = some (.string a0_7) := (q9 BK224.out 7).trans rfl
        have hcz24_8 : w5.cell? ⟨gb224, 8, none⟩ = some (.slice A0_8 l0_8.length c0_8) := (q9 BK224.out 8).trans rfl
        have hfz24_0 := q11 BK224.out 0
        have hfz24_1 := q11 BK224.out 1
        have hfz24_2 := q11 BK224.out 2
        have hfz24_3 := q11 BK224.out 3
        have hfz24_4 := q11 BK224.out 4
        have hfz24_5 := q11 BK224.out 5
        have hfz24_6 := q11 BK224.out 6
        have hfz24_7 := q11 BK224.out 7
        have hfz24_8 := q11 BK224.out 8
        have hcz25_0 : w5.cell? ⟨gb225, 0, none⟩ = some (.int .i64 a1_0) := (q9 BK225.out 0).trans rfl
        have hcz25_1 : w5.cell? ⟨gb225, 1, none⟩ = some (.int .i64 a1_1) := (q9 BK225.out 1).trans rfl
        have hcz25_2 : w5.cell? ⟨gb225, 2, none⟩ = some (.int .i64 a1_2) := (q9 BK225.out 2).trans rfl
        have hcz25_3 : w5.cell? ⟨gb225, 3, none⟩ = some (.int .i64 a1_3) := (q9 BK225.out 3).trans rfl
        have hcz25_4 : w5.cell? ⟨gb225, 4, none⟩ = some (.int .i64 a1_4) := (q9 BK225.out 4).trans rfl
        have hcz25_5 : w5.cell? ⟨gb225, 5, none⟩ = some (.string a1_5) := (q9 BK225.out 5).trans rfl
        have hcz25_6 : w5.cell? ⟨gb225, 6, none⟩ = some (.string a1_6) := (q9 BK225.out 6).trans rfl
        have hcz25_7 : w5.cell? ⟨gb225, 7, none⟩ = some (.string a1_7) := (q9 BK225.out 7).trans rfl
        have hcz25_8 : w5.cell? ⟨gb225, 8, none⟩ = some (.slice A1_8 l1_8.length c1_8) := (q9 BK225.out 8).trans rfl
        have hfz25_0 := q11 BK225.out 0
        have hfz25_1 := q11 BK225.out 1
        have hfz25_2 := q11 BK225.out 2
        have hfz25_3 := q11 BK225.out 3
        have hfz25_4 := q11 BK225.out 4
        have hfz25_5 := q11 BK225.out 5
        have hfz25_6 := q11 BK225.out 6
        have hfz25_7 := q11 BK225.out 7
        have hfz25_8 := q11 BK225.out 8
        go_wp2
        repeat (go_quiet (fail); try go_wp2)
        go_meet
        case rel => exact ⟨_, (true), (by first | rfl | (simp; done) | (simp [*]; done)), H', ⟨by first | omega | exact q17 _⟩, ⟨by (with_reducible repeat (first | refine q0 ?_ _ | refine q1 ?_ | refine q2 ?_ _)); exact BK224.out⟩, ⟨by (with_reducible repeat (first | refine q0 ?_ _ | refine q1 ?_ | refine q2 ?_ _)); exact BK225.out⟩, ⟨by repeat (first | (with_reducible first | exact HB.out | apply q3 | apply q4 | apply q5 | refine q6 ?_ GE224.out | refine q6 ?_ GE225.out) | exact HB.out)⟩⟩
      ·rw [if_neg c10] at H
       have c10b0 : (a0_4 == a1_4) = false := beq_eq_false_iff_ne.mpr c10
       have c10b1 : (a0_4 != a1_4) = true := bne_iff_ne.mpr c10
       have H' := q13 H
       clear H
       have hnb26 := NB224_225.out
       have hnc26 := NB225_224.out
       have hcz27_0 : w5.cell? ⟨gb224, 0, none⟩ = some (.int .i64 a0_0) := (q9 BK224.out 0).trans rfl
       have hcz27_1 : w5.cell? ⟨gb224, 1, none⟩ = some (.int .i64 a0_1) := (q9 BK224.out 1).trans rfl
       have hcz27_2 : w5.cell? ⟨gb224, 2, none⟩ = some (.int .i64 a0_2) := (q9 BK224.out 2).trans rfl
       have hcz27_3 : w5.cell? ⟨gb224, 3, none⟩ = some (.int .i64 a0_3) := (q9 BK224.out 3).trans rfl
       have hcz27_4 : w5.cell? ⟨gb224, 4, none⟩ = some (.int .i64 a0_4) := (q9 BK224.out 4).trans rfl
       have hcz27_5 : w5.cell? ⟨gb224, 5, none⟩ = some (.string a0_5) := (q9 BK224.out 5).trans rfl
       have hcz27_6 : w5.cell? ⟨gb224, 6, none⟩ = some (.string a0_6) := (q9 BK224.out 6).trans rfl
       have hcz27_7 : w5.cell? ⟨gb224, 7, none⟩ = some (.string a0_7) := (q9 BK224.out 7).trans rfl
       have hcz27_8 : w5.cell? ⟨gb224, 8, none⟩ = some (.slice A0_8 l0_8.length c0_8) := (q9 BK224.out 8).trans rfl
       have hfz27_0 := q11 BK224.out 0
       have hfz27_1 := q11 BK224.out 1
       have hfz27_2 := q11 BK224.out 2
       have hfz27_3 := q11 BK224.out 3
       have hfz27_4 := q11 BK224.out 4
       have hfz27_5 := q11 BK224.out 5
       have hfz27_6 := q11 BK224.out 6
       have hfz27_7 := q11 BK224.out 7
       have hfz27_8 := q11 BK224.out 8
       have hcz28_0 : w5.cell? ⟨gb225, 0, none⟩ = some (.int .i64 a1_0) := (q9 BK225.out 0).trans rfl
       have hcz28_1 : w5.cell? ⟨gb225, 1, none⟩ = some (.int .i64 a1_1) := (q9 BK225.out 1).trans rfl
       have hcz28_2 : w5.cell? ⟨gb225, 2, none⟩ = some (.int .i64 a1_2) := (q9 BK225.out 2).trans rfl
       have hcz28_3 : w5.cell? ⟨gb225, 3, none⟩ = some (.int .i64 a1_3) := (q9 BK225.out 3).trans rfl
       have hcz28_4 : w5.cell? ⟨gb225, 4, none⟩ = some (.int .i64 a1_4) := (q9 BK225.out 4).trans rfl
       have hcz28_5 : w5.cell? ⟨gb225, 5, none⟩ = some (.string a1_5) := (q9 BK225.out 5).trans rfl
       have hcz28_6 : w5.cell? ⟨gb225, 6, none⟩ = some (.string a1_6) := (q9 BK225.out 6).trans rfl
       have hcz28_7 : w5.cell? ⟨gb225, 7, none⟩ = some (.string a1_7) := (q9 BK225.out 7).trans rfl
       have hcz28_8 : w5.cell? ⟨gb225, 8, none⟩ = some (.slice A1_8 l1_8.length c1_8) := (q9 BK225.out 8).trans rfl
       have hfz28_0 := q11 BK225.out 0
       have hfz28_1 := q11 BK225.out 1
       have hfz28_2 := q11 BK225.out 2
       have hfz28_3 := q11 BK225.out 3
       have hfz28_4 := q11 BK225.out 4
       have hfz28_5 := q11 BK225.out 5
       have hfz28_6 := q11 BK225.out 6
       have hfz28_7 := q11 BK225.out 7
       have hfz28_8 := q11 BK225.out 8
       go_wp2
       repeat (go_quiet (fail); try go_wp2)
       go_meet
       case rel => exact ⟨_, (true), (by first | rfl | (simp; done) | (simp [*]; done)), H', ⟨by first | omega | exact q17 _⟩, ⟨by (with_reducible repeat (first | refine q0 ?_ _ | refine q1 ?_ | refine q2 ?_ _)); exact BK224.out⟩, ⟨by (with_reducible repeat (first | refine q0 ?_ _ | refine q1 ?_ | refine q2 ?_ _)); exact BK225.out⟩, ⟨by repeat (first | (with_reducible first | exact HB.out | apply q3 | apply q4 | apply q5 | refine q6 ?_ GE224.out | refine q6 ?_ GE225.out) | exact HB.out)⟩⟩
     ·rw [if_neg c9] at H
      have c9b0 : (a0_3 == a1_3) = false := beq_eq_false_iff_ne.mpr c9
      have c9b1 : (a0_3 != a1_3) = true := bne_iff_ne.mpr c9
      have H' := q13 H
      clear H
      have hnb29 := NB224_225.out
      have hnc29 := NB225_224.out
      have hcz30_0 : w5.cell? ⟨gb224, 0, none⟩ = some (.int .i64 a0_0) := (q9 BK224.out 0).trans rfl
      have hcz30_1 : w5.cell? ⟨gb224, 1, none⟩ = some (.int .i64 a0_1) := (q9 BK224.out 1).trans rfl
      have hcz30_2 : w5.cell? ⟨gb224, 2, none⟩ = some (.int .i64 a0_2) := (q9 BK224.out 2).trans rfl
      have hcz30_3 : w5.cell? ⟨gb224, 3, none⟩ = some (.int .i64 a0_3) := (q9 BK224.out 3).trans rfl
      have hcz30_4 : w5.cell? ⟨gb224, 4, none⟩ = some (.int .i64 a0_4) := (q9 BK224.out 4).trans rfl
      have hcz30_5 : w5.cell? ⟨gb224, 5, none⟩ = some (.string a0_5) := (q9 BK224.out 5).trans rfl
      have hcz30_6 : w5.cell? ⟨gb224, 6, none⟩ = some (.string a0_6) := (q9 BK224.out 6).trans rfl
      have hcz30_7 : w5.cell? ⟨gb224, 7, none⟩ = some (.string a0_7) := (q9 BK224.out 7).trans rfl
      have hcz30_8 : w5.cell? ⟨gb224, 8, none⟩ = some (.slice A0_8 l0_8.length c0_8) := (q9 BK224.out 8).trans rfl
      have hfz30_0 := q11 BK224.out 0
      have hfz30_1 := q11 BK224.out 1
      have hfz30_2 := q11 BK224.out 2
      have hfz30_3 := q11 BK224.out 3
      have hfz30_4 := q11 BK224.out 4
      have hfz30_5 := q11 BK224.out 5
      have hfz30_6 := q11 BK224.out 6
      have hfz30_7 := q11 BK224.out 7
      have hfz30_8 := q11 BK224.out 8
      have hcz31_0 : w5.cell? ⟨gb225, 0, none⟩ = some (.int .i64 a1_0) := (q9 BK225.out 0).trans rfl
      have hcz31_1 : w5.cell? ⟨gb225, 1, none⟩ = some (.int .i64 a1_1) := (q9 BK225.out 1).trans rfl
      have hcz31_2 : w5.cell? ⟨gb225, 2, none⟩ = some (.int .i64 a1_2) := (q9 BK225.out 2).trans rfl
      have hcz31_3 : w5.cell? ⟨gb225, 3, none⟩ = some (.int .i64 a1_3) := (q9 BK225.out 3).trans rfl
      have hcz31_4 : w5.cell? ⟨gb225, 4, none⟩ = some (.int .i64 a1_4) := (q9 BK225.out 4).trans rfl
      have hcz31_5 : w5.cell? ⟨gb225, 5, none⟩ = some (.string a1_5) := (q9 BK225.out 5).trans rfl
      have hcz31_6 : w5.cell? ⟨gb225, 6, none⟩ = some (.string a1_6) := (q9 BK225.out 6).trans rfl
      have hcz31_7 : w5.cell? ⟨gb225, 7, none⟩ = some (.string a1_7) := (q9 BK225.out 7).trans rfl
      have hcz31_8 : w5.cell? ⟨gb225, 8, none⟩ = some (.slice A1_8 l1_8.length c1_8) := (q9 BK225.out 8).trans rfl
      have hfz31_0 := q11 BK225.out 0
      have hfz31_1 := q11 BK225.out 1
      have hfz31_2 := q11 BK225.out 2
      have hfz31_3 := q11 BK225.out 3
      have hfz31_4 := q11 BK225.out 4
      have hfz31_5 := q11 BK225.out 5
      have hfz31_6 := q11 BK225.out 6
      have hfz31_7 := q11 BK225.out 7
      have hfz31_8 := q11 BK225.out 8
      go_wp2
      repeat (go_quiet (fail); try go_wp2)
      go_meet
      case rel => exact ⟨_, (true), (by first | rfl | (simp; done) | (simp [*]; done)), H', ⟨by first | omega | exact q17 _⟩, ⟨by (with_reducible repeat (first | refine q0 ?_ _ | refine q1 ?_ | refine q2 ?_ _)); exact BK224.out⟩, ⟨by (with_reducible repeat (first | refine q0 ?_ _ | refine q1 ?_ | refine q2 ?_ _)); exact BK225.out⟩, ⟨by repeat (first | (with_reducible first | exact HB.out | apply q3 | apply q4 | apply q5 | refine q6 ?_ GE224.out | refine q6 ?_ GE225.out) | exact HB.out)⟩⟩
    ·rw [if_neg c8] at H
     have c8b0 : (a0_2 == a1_2) = false := beq_eq_false_iff_ne.mpr c8
     have c8b1 : (a0_2 != a1_2) = true := bne_iff_ne.mpr c8
     have H' := q13 H
     clear H
     have hnb32 := NB224_225.out
     have hnc32 := NB225_224.out
     have hcz33_0 : w5.cell? ⟨gb224, 0, none⟩ = some (.int .i64 a0_0) := (q9 BK224.out 0).trans rfl
     have hcz33_1 : w5.cell? ⟨gb224, 1, none⟩ = some (.int .i64 a0_1) := (q9 BK224.out 1).trans rfl
     have hcz33_2 : w5.cell? ⟨gb224, 2, none⟩ = some (.int .i64 a0_2) := (q9 BK224.out 2).trans rfl
     have hcz33_3 : w5.cell? ⟨gb224, 3, none⟩ = some (.int .i64 a0_3) := (q9 BK224.out 3).trans rfl
     have hcz33_4 : w5.cell? ⟨gb224, 4, none⟩ = some (.int .i64 a0_4) := (q9 BK224.out 4).trans rfl
     have hcz33_5 : w5.cell? ⟨gb224, 5, none⟩ = some (.string a0_5) := (q9 BK224.out 5).trans rfl
     have hcz33_6 : w5.cell? ⟨gb224, 6, none⟩ = some (.string a0_6) := (q9 BK224.out 6).trans rfl
     have hcz33_7 : w5.cell? ⟨gb224, 7, none⟩ = some (.string a0_7) := (q9 BK224.out 7).trans rfl
     have hcz33_8 : w5.cell? ⟨gb224, 8, none⟩ = some (.slice A0_8 l0_8.length c0_8) := (q9 BK224.out 8).trans rfl
     have hfz33_0 := q11 BK224.out 0
     have hfz33_1 := q11 BK224.out 1
     have hfz33_2 := q11 BK224.out 2
     have hfz33_3 := q11 BK224.out 3
     have hfz33_4 := q11 BK224.out 4
     have hfz33_5 := q11 BK224.out 5
     have hfz33_6 := q11 BK224.out 6
     have hfz33_7 := q11 BK224.out 7
     have hfz33_8 := q11 BK224.out 8
     have hcz34_0 : w5.cell? ⟨gb225, 0, none⟩ = some (.int .i64 a1_0) := (q9 BK225.out 0).trans rfl
     have hcz34_1 : w5.cell? ⟨gb225, 1, none⟩ = some (.int .i64 a1_1) := (q9 BK225.out 1).trans rfl
     have hcz34_2 : w5.cell? ⟨gb225, 2, none⟩ = some (.int .i64 a1_2) := (q9 BK225.out 2).trans rfl
     have hcz34_3 : w5.cell? ⟨gb225, 3, none⟩ = some (.int .i64 a1_3) := (q9 BK225.out 3).trans rfl
     have hcz34_4 : w5.cell? ⟨gb225, 4, none⟩ = some (.int .i64 a1_4) := (q9 BK225.out 4).trans rfl
     have hcz34_5 : w5.cell? ⟨gb225, 5, none⟩ = some (.string a1_5) := (q9 BK225.out 5).trans rfl
     have hcz34_6 : w5.cell? ⟨gb225, 6, none⟩ = some (.string a1_6) := (q9 BK225.out 6).trans rfl
     have hcz34_7 : w5.cell? ⟨gb225, 7, none⟩ = some (.string a1_7) := (q9 BK225.out 7).trans rfl
     have hcz34_8 : w5.cell? ⟨gb225, 8, none⟩ = some (.slice A1_8 l1_8.length c1_8) := (q9 BK225.out 8).trans rfl
     have hfz34_0 := q11 BK225.out 0
     have hfz34_1 := q11 BK225.out 1
     have hfz34_2 := q11 BK225.out 2
     have hfz34_3 := q11 BK225.out 3
     have hfz34_4 := q11 BK225.out 4
     have hfz34_5 := q11 BK225.out 5
     have hfz34_6 := q11 BK225.out 6
     have hfz34_7 := q11 BK225.out 7
     have hfz34_8 := q11 BK225.out 8
     go_wp2
     repeat (go_quiet (fail); try go_wp2)
     go_meet
     case rel => exact ⟨_, (true), (by first | rfl | (simp; done) | (simp [*]; done)), H', ⟨by first | omega | exact q17 _⟩, ⟨by (with_reducible repeat (first | refine q0 ?_ _ | refine q1 ?_ | refine q2 ?_ _)); exact BK224.out⟩, ⟨by (with_reducible repeat (first | refine q0 ?_ _ | refine q1 ?_ | refine q2 ?_ _)); exact BK225.out⟩, ⟨by repeat (first | (with_reducible first | exact HB.out | apply q3 | apply q4 | apply q5 | refine q6 ?_ GE224.out | refine q6 ?_ GE225.out) | exact HB.out)⟩⟩
   ·rw [if_neg c7] at H
    have c7b0 : (a0_1 == a1_1) = false := beq_eq_false_iff_ne.mpr c7
    have c7b1 : (a0_1 != a1_1) = true := bne_iff_ne.mpr c7
    have H' := q13 H
    clear H
    have hnb35 := NB224_225.out
    have hnc35 := NB225_224.out
    have hcz36_0 : w5.cell? ⟨gb224, 0, none⟩ = some (.int .i64 a0_0) := (q9 BK224.out 0).trans rfl
    have hcz36_1 : w5.cell? ⟨gb224, 1, none⟩ = some (.int .i64 a0_1) := (q9 BK224.out 1).trans rfl
    have hcz36_2 : w5.cell? ⟨gb224, 2, none⟩ = some (.int .i64 a0_2) := (q9 BK224.out 2).trans rfl
    have hcz36_3 : w5.cell? ⟨gb224, 3, none⟩ = some (.int .i64 a0_3) := (q9 BK224.out 3).trans rfl
    have hcz36_4 : w5.cell? ⟨gb224, 4, none⟩ = some (.int .i64 a0_4) := (q9 BK224.out 4).trans rfl
    have hcz36_5 : w5.cell? ⟨gb224, 5, none⟩ = some (.string a0_5) := (q9 BK224.out 5).trans rfl
    have hcz36_6 : w5.cell? ⟨gb224, 6, none⟩ = some (.string a0_6) := (q9 BK224.out 6).trans rfl
    have hcz36_7 : w5.cell? ⟨gb224, 7, none⟩ = some (.string a0_7) := (q9 BK224.out 7).trans rfl
    have hcz36_8 : w5.cell? ⟨gb224, 8, none⟩ = some (.slice A0_8 l0_8.length c0_8) := (q9 BK224.out 8).trans rfl
    have hfz36_0 := q11 BK224.out 0
    have hfz36_1 := q11 BK224.out 1
    have hfz36_2 := q11 BK224.out 2
    have hfz36_3 := q11 BK224.out 3
    have hfz36_4 := q11 BK224.out 4
    have hfz36_5 := q11 BK224.out 5
    have hfz36_6 := q11 BK224.out 6
    have hfz36_7 := q11 BK224.out 7
    have hfz36_8 := q11 BK224.out 8
    have hcz37_0 : w5.cell? ⟨gb225, 0, none⟩ = some (.int .i64 a1_0) := (q9 BK225.out 0).trans rfl
    have hcz37_1 : w5.cell? ⟨gb225, 1, none⟩ = some (.int .i64 a1_1) := (q9 BK225.out 1).trans rfl
    have hcz37_2 : w5.cell? ⟨gb225, 2, none⟩ = some (.int .i64 a1_2) := (q9 BK225.out 2).trans rfl
    have hcz37_3 : w5.cell? ⟨gb225, 3, none⟩ = some (.int .i64 a1_3) := (q9 BK225.out 3).trans rfl
    have hcz37_4 : w5.cell? ⟨gb225, 4, none⟩ = some (.int .i64 a1_4) := (q9 BK225.out 4).trans rfl
    have hcz37_5 : w5.cell? ⟨gb225, 5, none⟩ = some (.string a1_5) := (q9 BK225.out 5).trans rfl
    have hcz37_6 : w5.cell? ⟨gb225, 6, none⟩ = some (.string a1_6) := (q9 BK225.out 6).trans rfl
    have hcz37_7 : w5.cell? ⟨gb225, 7, none⟩ = some (.string a1_7) := (q9 BK225.out 7).trans rfl
    have hcz37_8 : w5.cell? ⟨gb225, 8, none⟩ = some (.slice A1_8 l1_8.length c1_8) := (q9 BK225.out 8).trans rfl
    have hfz37_0 := q11 BK225.out 0
    have hfz37_1 := q11 BK225.out 1
    have hfz37_2 := q11 BK225.out 2
    have hfz37_3 := q11 BK225.out 3
    have hfz37_4 := q11 BK225.out 4
    have hfz37_5 := q11 BK225.out 5
    have hfz37_6 := q11 BK225.out 6
    have hfz37_7 := q11 BK225.out 7
    have hfz37_8 := q11 BK225.out 8
    go_wp2
    repeat (go_quiet (fail); try go_wp2)
    go_meet
    case rel => exact ⟨_, (true), (by first | rfl | (simp; done) | (simp [*]; done)), H', ⟨by first | omega | exact q17 _⟩, ⟨by (with_reducible repeat (first | refine q0 ?_ _ | refine q1 ?_ | refine q2 ?_ _)); exact BK224.out⟩, ⟨by (with_reducible repeat (first | refine q0 ?_ _ | refine q1 ?_ | refine q2 ?_ _)); exact BK225.out⟩, ⟨by repeat (first | (with_reducible first | exact HB.out | apply q3 | apply q4 | apply q5 | refine q6 ?_ GE224.out | refine q6 ?_ GE225.out) | exact HB.out)⟩⟩
  ·rw [if_neg c6] at H
   have c6b0 : (a0_0 == a1_0) = false := beq_eq_false_iff_ne.mpr c6
   have c6b1 : (a0_0 != a1_0) = true := bne_iff_ne.mpr c6
   (first | rw [c6b0] | (simp only [i64_w, i32_w]; rw [c6b0]) | skip)
   have H' := q13 H
   clear H
   have hnb38 := NB224_225.out
   have hnc38 := NB225_224.out
   have hcz39_0 : w5.cell? ⟨gb224, 0, none⟩ = some (.int .i64 a0_0) := (q9 BK224.out 0).trans rfl
   have hcz39_1 : w5.cell? ⟨gb224, 1, none⟩ = some (.int .i64 a0_1) := (q9 BK224.out 1).trans rfl
   have hcz39_2 : w5.cell? ⟨gb224, 2, none⟩ = some (.int .i64 a0_2) := (q9 BK224.out 2).trans rfl
   have hcz39_3 : w5.cell? ⟨gb224, 3, none⟩ = some (.int .i64 a0_3) := (q9 BK224.out 3).trans rfl
   have hcz39_4 : w5.cell? ⟨gb224, 4, none⟩ = some (.int .i64 a0_4) := (q9 BK224.out 4).trans rfl
   have hcz39_5 : w5.cell? ⟨gb224, 5, none⟩ = some (.string a0_5) := (q9 BK224.out 5).trans rfl
   have hcz39_6 : w5.cell? ⟨gb224, 6, none⟩ = some (.string a0_6) := (q9 BK224.out 6).trans rfl
   have hcz39_7 : w5.cell? ⟨gb224, 7, none⟩ = some (.string a0_7) := (q9 BK224.out 7).trans rfl
   have hcz39_8 : w5.cell? ⟨gb224, 8, none⟩ = some (.slice A0_8 l0_8.length c0_8) := (q9 BK224.out 8).trans rfl
   have hfz39_0 := q11 BK224.out 0
   have hfz39_1 := q11 BK224.out 1
   have hfz39_2 := q11 BK224.out 2
   have hfz39_3 := q11 BK224.out 3
   have hfz39_4 := q11 BK224.out 4
   have hfz39_5 := q11 BK224.out 5
   have hfz39_6 := q11 BK224.out 6
   have hfz39_7 := q11 BK224.out 7
   have hfz39_8 := q11 BK224.out 8
   have hcz40_0 : w5.cell? ⟨gb225, 0, none⟩ = some (.int .i64 a1_0) := (q9 BK225.out 0).trans rfl
   have hcz40_1 : w5.cell? ⟨gb225, 1, none⟩ = some (.int .i64 a1_1) := (q9 BK225.out 1).trans rfl
   have hcz40_2 : w5.cell? ⟨gb225, 2, none⟩ = some (.int .i64 a1_2) := (q9 BK225.out 2).trans rfl
   have hcz40_3 : w5.cell? ⟨gb225, 3, none⟩ = some (.int .i64 a1_3) := (q9 BK225.out 3).trans rfl
   have hcz40_4 : w5.cell? ⟨gb225, 4, none⟩ = some (.int .i64 a1_4) := (q9 BK225.out 4).trans rfl
   have hcz40_5 : w5.cell? ⟨gb225, 5, none⟩ = some (.string a1_5) := (q9 BK225.out 5).trans rfl
   have hcz40_6 : w5.cell? ⟨gb225, 6, none⟩ = some (.string a1_6) := (q9 BK225.out 6).trans rfl
   have hcz40_7 : w5.cell? ⟨gb225, 7, none⟩ = some (.string a1_7) := (q9 BK225.out 7).trans rfl
   have hcz40_8 : w5.cell? ⟨gb225, 8, none⟩ = some (.slice A1_8 l1_8.length c1_8) := (q9 BK225.out 8).trans rfl
   have hfz40_0 := q11 BK225.out 0
   have hfz40_1 := q11 BK225.out 1
   have hfz40_2 := q11 BK225.out 2
   have hfz40_3 := q11 BK225.out 3
   have hfz40_4 := q11 BK225.out 4
   have hfz40_5 := q11 BK225.out 5
   have hfz40_6 := q11 BK225.out 6
   have hfz40_7 := q11 BK225.out 7
   have hfz40_8 := q11 BK225.out 8
   go_wp2
   repeat (go_quiet (fail); try go_wp2)
   go_meet
   case rel => exact ⟨_, (true), (by first | rfl | (simp; done) | (simp [*]; done)), H', ⟨by first | omega | exact q17 _⟩, ⟨by (with_reducible repeat (first | refine q0 ?_ _ | refine q1 ?_ | refine q2 ?_ _)); exact BK224.out⟩, ⟨by (with_reducible repeat (first | refine q0 ?_ _ | refine q1 ?_ | refine q2 ?_ _)); exact BK225.out⟩, ⟨by repeat (first | (with_reducible first | exact HB.out | apply q3 | apply q4 | apply q5 | refine q6 ?_ GE224.out | refine q6 ?_ GE225.out) | exact HB.out)⟩⟩
 case rest =>
  clear HC3
  try clear c1
  try clear c2
  try clear p2
  try clear c3
  try clear c6
  try clear c6b0
  try clear c6b1
  try clear c7
  try clear c7b0
  try clear c7b1
  try clear c8
  try clear c8b0
  try clear c8b1
  try clear c9
  try clear c9b0
  try clear c9b1
  try clear c10
  try clear c10b0
  try clear c10b1
  try clear c11
  try clear c11b0
  try clear c11b1
  try clear c12
  try clear c12b0
  try clear c12b1
  try clear c13
  try clear c13b0
  try clear c13b1
  try clear c14
  try clear c17
  try clear c20
  try clear c23
  try clear c26
  try clear c29
  try clear c31
  try clear c32
  try clear c35
  try clear c38
  obtain ⟨kq, x68_2, rfl, HA, HJ2, BK224, BK225, HB⟩ := hcut
  cases kq with
  | zero => exact absurd HA.out (by simp [frisketref36_SameMark.j0])
  | succ kj2 =>
   have H := HA.out
   clear HA
   simp only [frisketref36_SameMark.j0] at H
   by_cases c41 : x68_2 = true
   ·subst c41
    have H1 : (some false) = some r := by rw [if_pos rfl] at H; exact H
    clear H
    have H := H1
    clear H1
    obtain rfl := Option.some.inj H
    go_wp2
    repeat (go_quiet (fail); try go_wp2)
    go_ret
    exact ⟨by first | rfl | (simp [errW_none, errW_some] <;> rfl) | (simp [*, errW_none, errW_some] <;> rfl), by repeat (first | (with_reducible first | exact HB.out | apply q3 | apply q4 | apply q5 | refine q6 ?_ GE224.out | refine q6 ?_ GE225.out) | exact HB.out)⟩
   ·replace c41 := Bool.eq_false_iff.mpr c41
    subst c41
    have H1 : (frisketref36_SameMark.l0 kj2 0 a0_0 a0_1 a0_2 a0_3 a0_4 a0_5 a0_6 a0_7 l0_8 a1_0 a1_1 a1_2 a1_3 a1_4 a1_5 a1_6 a1_7 l1_8) = some r := by rw [if_neg (show ¬ (false = true) by decide)] at H; exact H
    clear H
    have H := H1
    clear H1
    have H' := q13 H
    clear H
    go_wp2
    repeat (go_quiet (fail); try go_wp2)
    go_loopg [5] kj2 (fun kq v5 w' => ∃ (x5_2 : Int), v5 = .int .i64 x5_2 ∧ Aside0 (frisketref36_SameMark.l0 kq x5_2 a0_0 a0_1 a0_2 a0_3 a0_4 a0_5 a0_6 a0_7 l0_8 a1_0 a1_1 a1_2 a1_3 a1_4 a1_5 a1_6 a1_7 l1_8 = some r) ∧ Aside0 (kq ≤ kj2) ∧ Aside0 (w'.heap[gb224]? = some (.cells #[.int .i64 a0_0, .int .i64 a0_1, .int .i64 a0_2, .int .i64 a0_3, .int .i64 a0_4, .string a0_5, .string a0_6, .string a0_7, (.slice A0_8 l0_8.length c0_8)] 69 (0, 0))) ∧ Aside0 (w'.heap[gb225]? = some (.cells #[.int .i64 a1_0, .int .i64 a1_1, .int .i64 a1_2, .int .i64 a1_3, .int .i64 a1_4, .string a1_5, .string a1_6, .string a1_7, (.slice A1_8 l1_8.length c1_8)] 69 (0, 0))) ∧ Aside0 (Below w.heap.size w w'))
    case atStart => exact ⟨(0), (by first | rfl | (simp; done) | (simp [*]; done)), H', ⟨q17 _⟩, ⟨by (with_reducible repeat (first | refine q0 ?_ _ | refine q1 ?_ | refine q2 ?_ _)); exact BK224.out⟩, ⟨by (with_reducible repeat (first | refine q0 ?_ _ | refine q1 ?_ | refine q2 ?_ _)); exact BK225.out⟩, ⟨by repeat (first | (with_reducible first | exact HB.out | apply q3 | apply q4 | apply q5 | refine q6 ?_ GE224.out | refine q6 ?_ GE225.out) | exact HB.out)⟩⟩
    case round =>
     clear H'
     try clear c1
     try clear c2
     try clear p2
     try clear c3
     try clear c4
     try clear c6
     try clear c6b0
     try clear c6b1
     try clear c7
     try clear c7b0
     try clear c7b1
     try clear c8
     try clear c8b0
     try clear c8b1
     try clear c9
     try clear c9b0
     try clear c9b1
     try clear c10
     try clear c10b0
     try clear c10b1
     try clear c11
     try clear c11b0
     try clear c11b1
     try clear c12
     try clear c12b0
     try clear c12b1
     try clear c13
     try clear c13b0
     try clear c13b1
     try clear c14
     try clear c17
     try clear c20
     try clear c23
     try clear c26
     try clear c29
     try clear c31
     try clear c32
     try clear c35
     try clear c38
     try clear c41
     try clear p2
     obtain ⟨x5_2, rfl, HA, HK2, BK224, BK225, HB⟩ := hrel
     cases gk with
     | zero => exact absurd HA.out (by simp [frisketref36_SameMark.l0])
     | succ k2 =>
      have H := HA.out
      clear HA
      simp only [frisketref36_SameMark.l0] at H
      by_cases c42 : x5_2 < (l0_8.length : Int)
      ·rw [if_pos c42] at H
       have c42b0 : decide (x5_2 < (l0_8.length : Int)) = true := decide_eq_true c42
       clear c42
       by_cases c43 : 0 ≤ x5_2
       ·rw [if_pos c43] at H
        have c43b0 : decide (0 ≤ x5_2) = true := decide_eq_true c43
        clear c43
        by_cases c44 : x5_2 < (l1_8.length : Int)
        ·rw [if_pos c44] at H
         have c44b0 : decide (x5_2 < (l1_8.length : Int)) = true := decide_eq_true c44
         clear c44
         by_cases c45 : (rd l0_8 x5_2) = (rd l1_8 x5_2)
         ·rw [if_pos c45] at H
          have c45b0 : ((rd l0_8 x5_2) == (rd l1_8 x5_2)) = true := beq_iff_eq.mpr c45
          have c45b1 : ((rd l0_8 x5_2) != (rd l1_8 x5_2)) = false := bne_eq_false_iff_eq.mpr c45
          clear c45
          have H' := q13 H
          clear H
          have hnb46 := NB224_225.out
          have hnc46 := NB225_224.out
          have hcz47_0 : wr.cell? ⟨gb224, 0, none⟩ = some (.int .i64 a0_0) := (q9 BK224.out 0).trans rfl
          have hcz47_1 : wr.cell? ⟨gb224, 1, none⟩ = some (.int .i64 a0_1) := (q9 BK224.out 1).trans rfl
          have hcz47_2 : wr.cell? ⟨gb224, 2, none⟩ = some (.int .i64 a0_2) := (q9 BK224.out 2).trans rfl
          have hcz47_3 : wr.cell? ⟨gb224, 3, none⟩ = some (.int .i64 a0_3) := (q9 BK224.out 3).trans rfl
          have hcz47_4 : wr.cell? ⟨gb224, 4, none⟩ = some (.int .i64 a0_4) := (q9 BK224.out 4).trans rfl
          have hcz47_5 : wr.cell? ⟨gb224, 5, none⟩ = some (.string a0_5) := (q9 BK224.out 5).trans rfl
          have hcz47_6 : wr.cell? ⟨gb224, 6, none⟩ = some (.string a0_6) := (q9 BK224.out 6).trans rfl
          have hcz47_7 : wr.cell? ⟨gb224, 7, none⟩ = some (.string a0_7) := (q9 BK224.out 7).trans rfl
          have hcz47_8 : wr.cell? ⟨gb224, 8, none⟩ = some (.slice A0_8 l0_8.length c0_8) := (q9 BK224.out 8).trans rfl
          have hfz47_0 := q11 BK224.out 0
          have hfz47_1 := q11 BK224.out 1
          have hfz47_2 := q11 BK224.out 2
          have hfz47_3 := q11 BK224.out 3
          have hfz47_4 := q11 BK224.out 4
          have hfz47_5 := q11 BK224.out 5
          have hfz47_6 := q11 BK224.out 6
          have hfz47_7 := q11 BK224.out 7
          have hfz47_8 := q11 BK224.out 8
          have p226 : 0 ≤ (x5_2 : Int) := q15 (by assumption)
          have q226 : x5_2 < (l0_8.length : Int) := q15 (by assumption)
          obtain ⟨ad226, e226, hx226_0⟩ := Kd.at_int HR0_8.out x5_2 p226 q226
          cases e226
          replace hx226_0 := cl HB.out hx226_0
          replace p226 := eq_true p226
          replace q226 := eq_true q226
          have hcz48_0 : wr.cell? ⟨gb225, 0, none⟩ = some (.int .i64 a1_0) := (q9 BK225.out 0).trans rfl
          have hcz48_1 : wr.cell? ⟨gb225, 1, none⟩ = some (.int .i64 a1_1) := (q9 BK225.out 1).trans rfl
          have hcz48_2 : wr.cell? ⟨gb225, 2, none⟩ = some (.int .i64 a1_2) := (q9 BK225.out 2).trans rfl
          have hcz48_3 : wr.cell? ⟨gb225, 3, none⟩ = some (.int .i64 a1_3) := (q9 BK225.out 3).trans rfl
          have hcz48_4 : wr.cell? ⟨gb225, 4, none⟩ = some (.int .i64 a1_4) := (q9 BK225.out 4).trans rfl
          have hcz48_5 : wr.cell? ⟨gb225, 5, none⟩ = some (.string a1_5) := (q9 BK225.out 5).trans rfl
          have hcz48_6 : wr.cell? ⟨gb225, 6, none⟩ = some (.string a1_6) := (q9 BK225.out 6).trans rfl
          have hcz48_7 : wr.cell? ⟨gb225, 7, none⟩ = some (.string a1_7) := (q9 BK225.out 7).trans rfl
          have hcz48_8 : wr.cell? ⟨gb225, 8, none⟩ = some (.slice A1_8 l1_8.length c1_8) := (q9 BK225.out 8).trans rfl
          have hfz48_0 := q11 BK225.out 0
          have hfz48_1 := q11 BK225.out 1
          have hfz48_2 := q11 BK225.out 2
          have hfz48_3 := q11 BK225.out 3
          have hfz48_4 := q11 BK225.out 4
          have hfz48_5 := q11 BK225.out 5
          have hfz48_6 := q11 BK225.out 6
          have hfz48_7 := q11 BK225.out 7
          have hfz48_8 := q11 BK225.out 8
          have p227 : 0 ≤ (x5_2 : Int) := q15 (by assumption)
          have q227 : x5_2 < (l1_8.length : Int) := q15 (by assumption)
          obtain ⟨ad227, e227, hx227_0⟩ := Kd.at_int HR1_8.out x5_2 p227 q227
          cases e227
          replace hx227_0 := cl HB.out hx227_0
          replace p227 := eq_true p227
          replace q227 := eq_true q227
          go_wp2
          repeat (go_quiet (fail); try go_wp2)
          go_roundg k2
          case measure => have := HJ2.out; have := HK2.out; omega
          case rel => exact ⟨(wrap64 (x5_2 + 1)), (by first | rfl | (simp; done) | (simp [*]; done)), H', ⟨by have := HJ2.out; have := HK2.out; omega⟩, ⟨by (with_reducible repeat (first | refine q0 ?_ _ | refine q1 ?_ | refine q2 ?_ _)); exact BK224.out⟩, ⟨by (with_reducible repeat (first | refine q0 ?_ _ | refine q1 ?_ | refine q2 ?_ _)); exact BK225.out⟩, ⟨by repeat (first | (with_reducible first | exact HB.out | apply q3 | apply q4 | apply q5 | refine q6 ?_ GE224.out | refine q6 ?_ GE225.out) | exact HB.out)⟩⟩
         ·rw [if_neg c45] at H
          have c45b0 : ((rd l0_8 x5_2) == (rd l1_8 x5_2)) = false := beq_eq_false_iff_ne.mpr c45
          have c45b1 : ((rd l0_8 x5_2) != (rd l1_8 x5_2)) = true := bne_iff_ne.mpr c45
          obtain rfl := Option.some.inj H
          have hnb49 := NB224_225.out
          have hnc49 := NB225_224.out
          have hcz50_0 : wr.cell? ⟨gb224, 0, none⟩ = some (.int .i64 a0_0) := (q9 BK224.out 0).trans rfl
          have hcz50_1 : wr.cell? ⟨gb224, 1, none⟩ = some (.int .i64 a0_1) := (q9 BK224.out 1).trans rfl
          have hcz50_2 : wr.cell? ⟨gb224, 2, none⟩ = some (.int .i64 a0_2) := (q9 BK224.out 2).trans rfl
          have hcz50_3 : wr.cell? ⟨gb224, 3, none⟩ = some (.int .i64 a0_3) := (q9 BK224.out 3).trans rfl
          have hcz50_4 : wr.cell? ⟨gb224, 4, none⟩ = some (.int .i64 a0_4) := (q9 BK224.out 4).trans rfl
          have hcz50_5 : wr.cell? ⟨gb224, 5, none⟩ = some (.string a0_5) := (q9 BK224.out 5).trans rfl
          have hcz50_6 : wr.cell? ⟨gb224, 6, none⟩ = some (.string a0_6) := (q9 BK224.out 6).trans rfl
          have hcz50_7 : wr.cell? ⟨gb224, 7, none⟩ = some (.string a0_7) := (q9 BK224.out 7).trans rfl
          have hcz50_8 : wr.cell? ⟨gb224, 8, none⟩ = some (.slice A0_8 l0_8.length c0_8) := (q9 BK224.out 8).trans rfl
          have hfz50_0 := q11 BK224.out 0
          have hfz50_1 := q11 BK224.out 1
          have hfz50_2 := q11 BK224.out 2
          have hfz50_3 := q11 BK224.out 3
          have hfz50_4 := q11 BK224.out 4
          have hfz50_5 := q11 BK224.out 5
          have hfz50_6 := q11 BK224.out 6
          have hfz50_7 := q11 BK224.out 7
          have hfz50_8 := q11 BK224.out 8
          have p226 : 0 ≤ (x5_2 : Int) := q15 (by assumption)
          have q226 : x5_2 < (l0_8.length : Int) := q15 (by assumption)
          obtain ⟨ad226, e226, hx226_0⟩ := Kd.at_int HR0_8.out x5_2 p226 q226
          cases e226
          replace hx226_0 := cl HB.out hx226_0
          replace p226 := eq_true p226
          replace q226 := eq_true q226
          have hcz51_0 : wr.cell? ⟨gb225, 0, none⟩ = some (.int .i64 a1_0) := (q9 BK225.out 0).trans rfl
          have hcz51_1 : wr.cell? ⟨gb225, 1, none⟩ = some (.int .i64 a1_1) := (q9 BK225.out 1).trans rfl
          have hcz51_2 : wr.cell? ⟨gb225, 2, none⟩ = some (.int .i64 a1_2) := (q9 BK225.out 2).trans rfl
          have hcz51_3 : wr.cell? ⟨gb225, 3, none⟩ = some (.int .i64 a1_3) := (q9 BK225.out 3).trans rfl
          have hcz51_4 : wr.cell? ⟨gb225, 4, none⟩ = some (.int .i64 a1_4) := (q9 BK225.out 4).trans rfl
          have hcz51_5 : wr.cell? ⟨gb225, 5, none⟩ = some (.string a1_5) := (q9 BK225.out 5).trans rfl
          have hcz51_6 : wr.cell? ⟨gb225, 6, none⟩ = some (.string a1_6) := (q9 BK225.out 6).trans rfl
          have hcz51_7 : wr.cell? ⟨gb225, 7, none⟩ = some (.string a1_7) := (q9 BK225.out 7).trans rfl
          have hcz51_8 : wr.cell? ⟨gb225, 8, none⟩ = some (.slice A1_8 l1_8.length c1_8) := (q9 BK225.out 8).trans rfl
          have hfz51_0 := q11 BK225.out 0
          have hfz51_1 := q11 BK225.out 1
          have hfz51_2 := q11 BK225.out 2
          have hfz51_3 := q11 BK225.out 3
          have hfz51_4 := q11 BK225.out 4
          have hfz51_5 := q11 BK225.out 5
          have hfz51_6 := q11 BK225.out 6
          have hfz51_7 := q11 BK225.out 7
          have hfz51_8 := q11 BK225.out 8
          have p227 : 0 ≤ (x5_2 : Int) := q15 (by assumption)
          have q227 : x5_2 < (l1_8.length : Int) := q15 (by assumption)
          obtain ⟨ad227, e227, hx227_0⟩ := Kd.at_int HR1_8.out x5_2 p227 q227
          cases e227
          replace hx227_0 := cl HB.out hx227_0
          replace p227 := eq_true p227
          replace q227 := eq_true q227
          go_wp2
          repeat (go_quiet (fail); try go_wp2)
          go_ret
          exact ⟨by first | rfl | (simp [errW_none, errW_some] <;> rfl) | (simp [*, errW_none, errW_some] <;> rfl), by repeat (first | (with_reducible first | exact HB.out | apply q3 | apply q4 | apply q5 | refine q6 ?_ GE224.out | refine q6 ?_ GE225.out) | exact HB.out)⟩
        ·rw [if_neg c44] at H
         exact absurd H (by simp)
       ·rw [if_neg c43] at H
        exact absurd H (by simp)
      ·rw [if_neg c42] at H
       have c42b0 : decide (x5_2 < (l0_8.length : Int)) = false := decide_eq_false c42
       clear c42
       obtain rfl := Option.some.inj H
       have hnb52 := NB224_225.out
       have hnc52 := NB225_224.out
       have hcz53_0 : wr.cell? ⟨gb224, 0, none⟩ = some (.int .i64 a0_0) := (q9 BK224.out 0).trans rfl
       have hcz53_1 : wr.cell? ⟨gb224, 1, none⟩ = some (.int .i64 a0_1) := (q9 BK224.out 1).trans rfl
       have hcz53_2 : wr.cell? ⟨gb224, 2, none⟩ = some (.int .i64 a0_2) := (q9 BK224.out 2).trans rfl
       have hcz53_3 : wr.cell? ⟨gb224, 3, none⟩ = some (.int .i64 a0_3) := (q9 BK224.out 3).trans rfl
       have hcz53_4 : wr.cell? ⟨gb224, 4, none⟩ = some (.int .i64 a0_4) := (q9 BK224.out 4).trans rfl
       have hcz53_5 : wr.cell? ⟨gb224, 5, none⟩ = some (.string a0_5) := (q9 BK224.out 5).trans rfl
       have hcz53_6 : wr.cell? ⟨gb224, 6, none⟩ = some (.string a0_6) := (q9 BK224.out 6).trans rfl
       have hcz53_7 : wr.cell? ⟨gb224, 7, none⟩ = some (.string a0_7) := (q9 BK224.out 7).trans rfl
       have hcz53_8 : wr.cell? ⟨gb224, 8, none⟩ = some (.slice A0_8 l0_8.length c0_8) := (q9 BK224.out 8).trans rfl
       have hfz53_0 := q11 BK224.out 0
       have hfz53_1 := q11 BK224.out 1
       have hfz53_2 := q11 BK224.out 2
       have hfz53_3 := q11 BK224.out 3
       have hfz53_4 := q11 BK224.out 4
       have hfz53_5 := q11 BK224.out 5
       have hfz53_6 := q11 BK224.out 6
       have hfz53_7 := q11 BK224.out 7
       have hfz53_8 := q11 BK224.out 8
       go_wp2
       repeat (go_quiet (fail); try go_wp2)
       go_ret
       exact ⟨by first | rfl | (simp [errW_none, errW_some] <;> rfl) | (simp [*, errW_none, errW_some] <;> rfl), by repeat (first | (with_reducible first | exact HB.out | apply q3 | apply q4 | apply q5 | refine q6 ?_ GE224.out | refine q6 ?_ GE225.out) | exact HB.out)⟩

end Go.Proofs.Ytgjmljjnminefaa.QCP
