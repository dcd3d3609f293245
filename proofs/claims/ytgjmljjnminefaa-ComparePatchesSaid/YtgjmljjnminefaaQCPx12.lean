import Derived.Lib.SliceRun
import Derived.Test.YtgjmljjnminefaaQCPx0
import Derived.Test.YtgjmljjnminefaaQCPx10
import Derived.Test.YtgjmljjnminefaaFGrowCP
import Derived.Test.YtgjmljjnminefaaArrEq
import Derived.Test.YtgjmljjnminefaaZip2
import Derived.Test.YtgjmljjnminefaaZip
namespace Go.Proofs.Ytgjmljjnminefaa.QCP
open Go.Proofs.Ytgjmljjnminefaa.Zip Go.Proofs.Ytgjmljjnminefaa.Zip2 Go.RowKit Go.Proofs.YtgjmljjnminefaaW.PrintWords Go.Proofs.YtgjmljjnminefaaW.PrintLast Go.Proofs.YtgjmljjnminefaaW.PrintMore
attribute [local go_sem] max2_int min2_int max_two min_two max_three min_three max_four min_four   -- for this text's walks alone
set_option linter.unusedVariables false
set_option linter.unusedSimpArgs false

def frisketref36_SamePatch.f (k : Nat) (a0_0 : Int) (a0_1 : Int) (l0_2 : List (S69)) (a1_0 : Int) (a1_1 : Int) (l1_2 : List (S69)) : Option (Bool) := if a0_0 = a1_0 then (if a0_1 = a1_1 then ((frisketref36_SameMarks.f k l0_2 l1_2).bind fun t280 => (some t280)) else (some false)) else (some false)
theorem frisketref36_SamePatch.mono : ∀ a0 a1 a2 a3 a4 a5 k, LeO (frisketref36_SamePatch.f k a0 a1 a2 a3 a4 a5) (frisketref36_SamePatch.f (k + 1) a0 a1 a2 a3 a4 a5) := by
 intro a0 a1 a2 a3 a4 a5 k
 unfold frisketref36_SamePatch.f
 repeat' first
   | (with_reducible exact frisketref36_SameMarks.mono _ _ _)
   | (with_reducible exact LeO.refl _)
   | (with_reducible exact LeO.none _)
   | (with_reducible refine LeO.ite ?_ ?_)
   | (with_reducible refine LeO.bind ?_ (fun _ => ?_))
   | exact frisketref36_SameMarks.mono _ _ _
   | exact LeO.none _
   | refine LeO.ite ?_ ?_
   | refine LeO.bind ?_ (fun _ => ?_)
set_option maxHeartbeats 8000000 in
set_option maxRecDepth 100000 in
theorem frisketref36_SamePatch.calls (k : Nat) (a0_0 : Int) (a0_1 : Int) (A0_2 : Option Addr) (c0_2 : Nat) (l0_2 : List (S69)) (a1_0 : Int) (a1_1 : Int) (A1_2 : Option Addr) (c1_2 : Nat) (l1_2 : List (S69)) (r : Bool) (w : World) (hr0_2 : Kd.C k69 w A0_2 l0_2.length l0_2) (hc0_2 : l0_2.length ≤ c0_2) (hr1_2 : Kd.C k69 w A1_2 l1_2.length l1_2) (hc1_2 : l1_2.length ≤ c1_2) (h : frisketref36_SamePatch.f k a0_0 a0_1 l0_2 a1_0 a1_1 l1_2 = some r) :
  Calls Try.prog 17 #[.agg #[.int .i64 a0_0, .int .i64 a0_1, .slice A0_2 l0_2.length c0_2], .agg #[.int .i64 a1_0, .int .i64 a1_1, .slice A1_2 l1_2.length c1_2]] w fun e w' => e = .returned (.bool r) ∧ Below w.heap.size w w' := by
 have hu43 := Try.underlying43
 have HR0_2 := q13 hr0_2
 have HC0_2 := q13 hc0_2
 clear hr0_2 hc0_2
 have HR1_2 := q13 hr1_2
 have HC1_2 := q13 hc1_2
 clear hr1_2 hc1_2
 have HB := q13 (Below.refl w.heap.size w)
 have H : (if a0_0 = a1_0 then (if a0_1 = a1_1 then ((frisketref36_SameMarks.f k l0_2 l1_2).bind fun t280 => (some t280)) else (some false)) else (some false)) = some r := h
 clear h
 by_cases c3 : a0_0 = a1_0
 ·rw [if_pos c3] at H
  have c3b0 : (a0_0 == a1_0) = true := beq_iff_eq.mpr c3
  have c3b1 : (a0_0 != a1_0) = false := bne_eq_false_iff_eq.mpr c3
  clear c3
  by_cases c4 : a0_1 = a1_1
  ·rw [if_pos c4] at H
   have c4b0 : (a0_1 == a1_1) = true := beq_iff_eq.mpr c4
   have c4b1 : (a0_1 != a1_1) = false := bne_eq_false_iff_eq.mpr c4
   clear c4
   replace H := Option.bind_eq_some_iff.mp H
   obtain ⟨t280, A50, H⟩ := H
   replace H : (some t280) = some r := H
   have A5 := q13 A50
   clear A50
   obtain rfl := Option.some.inj H
   go_enter Try.func17, Try.ntmps17
   go_wp2_with (first | ((with_reducible refine gate_dst (N := 2) rfl ?_); refine box_event ?hg (N := 2) ?hd (cs := #[.int .i64 a0_0, .int .i64 a0_1, .slice A0_2 l0_2.length c0_2]) (t := 43) ?hr ?_; (case hd => rfl); (case hg => rfl); (case hr => first | (go_simp; done) | (go_simp; rfl)); intro gb278 hg w6 hbox hb; have n0_ := q13 (q12 (gB HB) hb); have n1_ := q13 (hbox); have n2_ := q13 ((by rw [hg]; exact (q7 (gB HB)) : w.heap.size ≤ gb278)); have n3_ := q13 ((by rw [hg]; exact (q7 (gB HB)) : w.heap.size ≤ gb278)); clear HB; have HB := n0_; have BK278 := n1_; have GW278 := n2_; have GE278 := n3_; clear n0_ n1_ n2_ n3_; clear hb hbox hg) | ((with_reducible refine gate_dst (N := 3) rfl ?_); refine box_event ?hg (N := 3) ?hd (cs := #[.int .i64 a1_0, .int .i64 a1_1, .slice A1_2 l1_2.length c1_2]) (t := 43) ?hr ?_; (case hd => rfl); (case hg => rfl); (case hr => first | (go_simp; done) | (go_simp; rfl)); intro gb279 hg w7 hbox hb; have n0_ := q13 (q8 (g := gb278) (o := .cells #[.int .i64 a0_0, .int .i64 a0_1, .slice A0_2 l0_2.length c0_2] 43 (0, 0)) (gK BK278) hb); have n1_ := q13 (q12 (by repeat (first | (with_reducible first | exact HB.out | apply q3 | apply q4 | apply q5 | refine q6 ?_ GE278.out) | exact HB.out)) hb); have n2_ := q13 (hbox); have n3_ := q13 ((by rw [hg]; exact (q7 (by repeat (first | (with_reducible first | exact HB.out | apply q3 | apply q4 | apply q5 | refine q6 ?_ GE278.out) | exact HB.out))) : w.heap.size ≤ gb279)); have n4_ := q13 ((by rw [hg]; exact (q7 (by repeat (first | (with_reducible first | exact HB.out | apply q3 | apply q4 | apply q5 | refine q6 ?_ GE278.out) | exact HB.out))) : w.heap.size ≤ gb279)); have n5_ := q13 ((by rw [hg]; exact Nat.ne_of_lt (blk_lt (g := gb278) (o := .cells #[.int .i64 a0_0, .int .i64 a0_1, .slice A0_2 l0_2.length c0_2] 43 (0, 0)) (gK BK278)) : gb278 ≠ gb279)); have n6_ := q13 ((by rw [hg]; exact Nat.ne_of_gt (blk_lt (g := gb278) (o := .cells #[.int .i64 a0_0, .int .i64 a0_1, .slice A0_2 l0_2.length c0_2] 43 (0, 0)) (gK BK278)) : gb279 ≠ gb278)); clear BK278; clear HB; have BK278 := n0_; have HB := n1_; have BK279 := n2_; have GW279 := n3_; have GE279 := n4_; have NB278_279 := n5_; have NB279_278 := n6_; clear n0_ n1_ n2_ n3_ n4_ n5_ n6_; clear hb hbox hg; have hnb8 := NB278_279.out; have hnc8 := NB279_278.out; have hcz9_0 : w7.cell? ⟨gb278, 0, none⟩ = some (.int .i64 a0_0) := (q9 BK278.out 0).trans rfl; have hcz9_1 : w7.cell? ⟨gb278, 1, none⟩ = some (.int .i64 a0_1) := (q9 BK278.out 1).trans rfl; have hcz9_2 : w7.cell? ⟨gb278, 2, none⟩ = some (.slice A0_2 l0_2.length c0_2) := (q9 BK278.out 2).trans rfl; have hfz9_0 := q11 BK278.out 0; have hfz9_1 := q11 BK278.out 1; have hfz9_2 := q11 BK278.out 2; have hcz10_0 : w7.cell? ⟨gb279, 0, none⟩ = some (.int .i64 a1_0) := (q9 BK279.out 0).trans rfl; have hcz10_1 : w7.cell? ⟨gb279, 1, none⟩ = some (.int .i64 a1_1) := (q9 BK279.out 1).trans rfl; have hcz10_2 : w7.cell? ⟨gb279, 2, none⟩ = some (.slice A1_2 l1_2.length c1_2) := (q9 BK279.out 2).trans rfl; have hfz10_0 := q11 BK279.out 0; have hfz10_1 := q11 BK279.out 1; have hfz10_2 := q11 BK279.out 2) | (go_at_call 12; (with_reducible refine (frisketref36_SameMarks.calls k _ _ l0_2 _ _ l1_2 t280 _ ?side1 ?side2 ?side3 ?side4 A5.out).mono ?_); (case side1 => repeat (first | exact (Kd.C_below HR0_2.out HB.out) | (with_reducible refine q18 ?_ _) | (with_reducible refine q19 ?_ _) | (with_reducible refine q20 ?_))); (case side2 => exact HC0_2.out); (case side3 => repeat (first | exact (Kd.C_below HR1_2.out HB.out) | (with_reducible refine q18 ?_ _) | (with_reducible refine q19 ?_ _) | (with_reducible refine q20 ?_))); (case side4 => exact HC1_2.out); rintro e w11 ⟨rfl, hb⟩; have n0_ := q13 (q8 (g := gb278) (o := .cells #[.int .i64 a0_0, .int .i64 a0_1, .slice A0_2 l0_2.length c0_2] 43 (0, 0)) (gK BK278) hb); have n1_ := q13 (q8 (g := gb279) (o := .cells #[.int .i64 a1_0, .int .i64 a1_1, .slice A1_2 l1_2.length c1_2] 43 (0, 0)) (gK BK279) hb); have n2_ := q13 (q12 (by repeat (first | (with_reducible first | exact HB.out | apply q3 | apply q4 | apply q5 | refine q6 ?_ GE278.out | refine q6 ?_ GE279.out) | exact HB.out)) hb); clear BK278; clear BK279; clear HB; have BK278 := n0_; have BK279 := n1_; have HB := n2_; clear n0_ n1_ n2_; (try clear hb); (try clear hb2); (try clear hk); (try clear hi)))
   go_ret
   exact ⟨by first | rfl | (simp [errW_none, errW_some] <;> rfl) | (simp [*, errW_none, errW_some] <;> rfl), by repeat (first | (with_reducible first | exact HB.out | apply q3 | apply q4 | apply q5 | refine q6 ?_ GE278.out | refine q6 ?_ GE279.out) | exact HB.out)⟩
  ·rw [if_neg c4] at H
   have c4b0 : (a0_1 == a1_1) = false := beq_eq_false_iff_ne.mpr c4
   have c4b1 : (a0_1 != a1_1) = true := bne_iff_ne.mpr c4
   obtain rfl := Option.some.inj H
   go_enter Try.func17, Try.ntmps17
   go_wp2_with (first | ((with_reducible refine gate_dst (N := 2) rfl ?_); refine box_event ?hg (N := 2) ?hd (cs := #[.int .i64 a0_0, .int .i64 a0_1, .slice A0_2 l0_2.length c0_2]) (t := 43) ?hr ?_; (case hd => rfl); (case hg => rfl); (case hr => first | (go_simp; done) | (go_simp; rfl)); intro gb278 hg w12 hbox hb; have n0_ := q13 (q12 (gB HB) hb); have n1_ := q13 (hbox); have n2_ := q13 ((by rw [hg]; exact (q7 (gB HB)) : w.heap.size ≤ gb278)); have n3_ := q13 ((by rw [hg]; exact (q7 (gB HB)) : w.heap.size ≤ gb278)); clear HB; have HB := n0_; have BK278 := n1_; have GW278 := n2_; have GE278 := n3_; clear n0_ n1_ n2_ n3_; clear hb hbox hg) | ((with_reducible refine gate_dst (N := 3) rfl ?_); refine box_event ?hg (N := 3) ?hd (cs := #[.int .i64 a1_0, .int .i64 a1_1, .slice A1_2 l1_2.length c1_2]) (t := 43) ?hr ?_; (case hd => rfl); (case hg => rfl); (case hr => first | (go_simp; done) | (go_simp; rfl)); intro gb279 hg w13 hbox hb; have n0_ := q13 (q8 (g := gb278) (o := .cells #[.int .i64 a0_0, .int .i64 a0_1, .slice A0_2 l0_2.length c0_2] 43 (0, 0)) (gK BK278) hb); have n1_ := q13 (q12 (by repeat (first | (with_reducible first | exact HB.out | apply q3 | apply q4 | apply q5 | refine q6 ?_ GE278.out) | exact HB.out)) hb); have n2_ := q13 (hbox); have n3_ := q13 ((by rw [hg]; exact (q7 (by repeat (first | (with_reducible first | exact HB.out | apply q3 | apply q4 | apply q5 | refine q6 ?_ GE278.out) | exact HB.out))) : w.heap.size ≤ gb279)); have n4_ := q13 ((by rw [hg]; exact (q7 (by repeat (first | (with_reducible first | exact HB.out | apply q3 | apply q4 | apply q5 | refine q6 ?_ GE278.out) | exact HB.out))) : w.heap.size ≤ gb279)); have n5_ := q13 ((by rw [hg]; exact Nat.ne_of_lt (blk_lt (g := gb278) (o := .cells #[.int .i64 a0_0, .int .i64 a0_1, .slice A0_2 l0_2.length c0_2] 43 (0, 0)) (gK BK278)) : gb278 ≠ gb279)); have n6_ := q13 ((by rw [hg]; exact Nat.ne_of_gt (blk_lt (g := gb278) (o := .cells #[.int .i64 a0_0, .int .i64 a0_1, .slice A0_2 l0_2.length c0_2] 43 (0, 0)) (gK BK278)) : gb279 ≠ gb278)); clear BK278; clear HB; have BK278 := n0_; have HB := n1_; have BK279 := n2_; have GW279 := n3_; have GE279 := n4_; have NB278_279 := n5_; have NB279_278 := n6_; clear n0_ n1_ n2_ n3_ n4_ n5_ n6_; clear hb hbox hg; have hnb14 := NB278_279.out; have hnc14 := NB279_278.out; have hcz15_0 : w13.cell? ⟨gb278, 0, none⟩ = some (.int .i64 a0_0) := (q9 BK278.out 0).trans rfl; have hcz15_1 : w13.cell? ⟨gb278, 1, none⟩ = some (.int .i64 a0_1) := (q9 BK278.out 1).trans rfl; have hcz15_2 : w13.cell? ⟨gb278, 2, none⟩ = some (.slice A0_2 l0_2.length c0_2) := (q9 BK278.out 2).trans rfl; have hfz15_0 := q11 BK278.out 0; have hfz15_1 := q11 BK278.out 1; have hfz15_2 := q11 BK278.out 2; have hcz16_0 : w13.cell? ⟨gb279, 0, none⟩ = some (.int .i64 a1_0) := (q9 BK279.out 0).trans rfl; have hcz16_1 : w13.cell? ⟨gb279, 1, none⟩ = some (.int .i64 a1_1) := (q9 BK279.out 1).trans rfl; have hcz16_2 : w13.cell? ⟨gb279, 2, none⟩ = some (.slice A1_2 l1_2.length c1_2) := (q9 BK279.out 2).trans rfl; have hfz16_0 := q11 BK279.out 0; have hfz16_1 := q11 BK279.out 1; have hfz16_2 := q11 BK279.out 2))
   go_ret
   exact ⟨by first | rfl | (simp [errW_none, errW_some] <;> rfl) | (simp [*, errW_none, errW_some] <;> rfl), by repeat (first | (with_reducible first | exact HB.out | apply q3 | apply q4 | apply q5 | refine q6 ?_ GE278.out | refine q6 ?_ GE279.out) | exact HB.out)⟩
 ·rw [if_neg c3] at H
  have c3b0 : (a0_0 == a1_0) = false := beq_eq_false_iff_ne.mpr c3
  have c3b1 : (a0_0 != a1_0) = true := bne_iff_ne.mpr c3
  obtain rfl := Option.some.inj H
  go_enter Try.func17, Try.ntmps17
  go_wp2_with (first | ((with_reducible refine gate_dst (N := 2) rfl ?_); refine box_event ?hg (N := 2) ?hd (cs := #[.int .i64 a0_0, .int .i64 a0_1, .slice A0_2 l0_2.length c0_2]) (t := 43) ?hr ?_; (case hd => rfl); (case hg => rfl); (case hr => first | (go_simp; done) | (go_simp; rfl)); intro gb278 hg w17 hbox hb; have n0_ := q13 (q12 (gB HB) hb); have n1_ := q13 (hbox); have n2_ := q13 ((by rw [hg]; exact (q7 (gB HB)) : w.heap.size ≤ gb278)); have n3_ := q13 ((by rw [hg]; exact (q7 (gB HB)) : w.heap.size ≤ gb278)); clear HB; have HB := n0_; have BK278 := n1_; have GW278 := n2_; have GE278 := n3_; clear n0_ n1_ n2_ n3_; clear hb hbox hg) | ((with_reducible refine gate_dst (N := 3) rfl ?_); refine box_event ?hg (N := 3) ?hd (cs := #[.int .i64 a1_0, .int .i64 a1_1, .slice A1_2 l1_2.length c1_2]) (t := 43) ?hr ?_; (case hd => rfl); (case hg => rfl); (case hr => first | (go_simp; done) | (go_simp; rfl)); intro gb279 hg w18 hbox hb; have n0_ := q13 (q8 (g := gb278) (o := .cells #[.int .i64 a0_0, .int .i64 a0_1, .slice A0_2 l0_2.length c0_2] 43 (0, 0)) (gK BK278) hb); have n1_ := q13 (q12 (by repeat (first | (with_reducible first | exact HB.out | apply q3 | apply q4 | apply q5 | refine q6 ?_ GE278.out) | exact HB.out)) hb); have n2_ := q13 (hbox); have n3_ := q13 ((by rw [hg]; exact (q7 (by repeat (first | (with_reducible first | exact HB.out | apply q3 | apply q4 | apply q5 | refine q6 ?_ GE278.out) | exact HB.out))) : w.heap.size ≤ gb279)); have n4_ := q13 ((by rw [hg]; exact (q7 (by repeat (first | (with_reducible first | exact HB.out | apply q3 | apply q4 | apply q5 | refine q6 ?_ GE278.out) | exact HB.out))) : w.heap.size ≤ gb279)); have n5_ := q13 ((by rw [hg]; exact Nat.ne_of_lt (blk_lt (g := gb278) (o := .cells #[.int .i64 a0_0, .int .i64 a0_1, .slice A0_2 l0_2.length c0_2] 43 (0, 0)) (gK BK278)) : gb278 ≠ gb279)); have n6_ := q13 ((by rw [hg]; exact Nat.ne_of_gt (blk_lt (g := gb278) (o := .cells #[.int .i64 a0_0, .int .i64 a0_1, .slice A0_2 l0_2.length c0_2] 43 (0, 0)) (gK BK278)) : gb279 ≠ gb278)); clear BK278; clear HB; have BK278 := n0_; have HB := n1_; have BK279 := n2_; have GW279 := n3_; have GE279 := n4_; have NB278_279 := n5_; have NB279_278 := n6_; clear n0_ n1_ n2_ n3_ n4_ n5_ n6_; clear hb hbox hg; have hnb19 := NB278_279.out; have hnc19 := NB279_278.out; have hcz20_0 : w18.cell? ⟨gb278, 0, none⟩ = some (.int .i64 a0_0) := (q9 BK278.out 0).trans rfl; have hcz20_1 : w18.cell? ⟨gb278, 1, none⟩ = some (.int .i64 a0_1) := (q9 BK278.out 1).trans rfl; have hcz20_2 : w18.cell? ⟨gb278, 2, none⟩ = some (.slice A0_2 l0_2.length c0_2) := (q9 BK278.out 2).trans rfl; have hfz20_0 := q11 BK278.out 0; have hfz20_1 := q11 BK278.out 1; have hfz20_2 := q11 BK278.out 2; have hcz21_0 : w18.cell? ⟨gb279, 0, none⟩ = some (.int .i64 a1_0) := (q9 BK279.out 0).trans rfl; have hcz21_1 : w18.cell? ⟨gb279, 1, none⟩ = some (.int .i64 a1_1) := (q9 BK279.out 1).trans rfl; have hcz21_2 : w18.cell? ⟨gb279, 2, none⟩ = some (.slice A1_2 l1_2.length c1_2) := (q9 BK279.out 2).trans rfl; have hfz21_0 := q11 BK279.out 0; have hfz21_1 := q11 BK279.out 1; have hfz21_2 := q11 BK279.out 2))
  go_ret
  exact ⟨by first | rfl | (simp [errW_none, errW_some] <;> rfl) | (simp [*, errW_none, errW_some] <;> rfl), by repeat (first | (with_reducible first | exact HB.out | apply q3 | apply q4 | apply q5 | refine q6 ?_ GE278.out | refine q6 ?_ GE279.out) | exact HB.out)⟩

def frisketlaw36_patch.f (a0_0 : Int) (a0_1 : Int) (l0_2 : List (S69)) : Option (Int × Int × (List (S69))) := some (a0_0, a0_1, l0_2)
set_option maxHeartbeats 8000000 in
set_option maxRecDepth 100000 in
theorem frisketlaw36_patch.calls (a0_0 : Int) (a0_1 : Int) (P0_2_ : Nat → Prop) (A0_2 : Option Addr) (c0_2 : Nat) (l0_2 : List (S69)) (r1 : Int) (r2 : Int) (r3 : List (S69)) (w : World) (hs0_2 : Kd.V k69 69 w w.heap.size (fun k_ => P0_2_ k_) (.slice A0_2 l0_2.length c0_2) l0_2) (h : frisketlaw36_patch.f a0_0 a0_1 l0_2 = some (r1, r2, r3)) :
  Calls Try.prog 18 #[.agg #[.int .i64 a0_0, .int .i64 a0_1, .slice A0_2 l0_2.length c0_2]] w fun e w' => ∃ v2_ : Value, e = .returned (.agg #[.int .i64 r1, .int .i64 r2, v2_]) ∧ Kd.V k69 69 w' w.heap.size (fun k_ => (P0_2_ k_ ∨ w.heap.size ≤ k_)) v2_ r3 ∧ Below w.heap.size w w' := by
 have hu39 := Try.underlying39
 have hu43 := Try.underlying43
 have HO0_2 := q13 (show Kd.V k69 69 w w.heap.size (fun k_ => (P0_2_ k_ ∨ w.heap.size ≤ k_)) (.slice A0_2 l0_2.length c0_2) l0_2 from Kd.V_mono hs0_2 (fun k_ hk => .inl hk))
 have HB := q13 (Below.refl w.heap.size w)
 have H : (some (a0_0, a0_1, l0_2)) = some (r1, r2, r3) := h
 clear h
 simp only [Option.some.injEq, Prod.mk.injEq] at H
 obtain ⟨rfl, rfl, rfl⟩ := H
 go_enter Try.func18, Try.ntmps18
 go_wp2_with (first | ((with_reducible refine gate_dst (N := 1) rfl ?_); refine box_event ?hg (N := 1) ?hd (cs := #[.int .i64 a0_0, .int .i64 a0_1, .slice A0_2 l0_2.length c0_2]) (t := 39) ?hr ?_; (case hd => rfl); (case hg => rfl); (case hr => first | (go_simp; done) | (go_simp; rfl)); intro gb281 hg w2 hbox hb; have n0_ := q13 (Kd.V_below (Kd.V_elderB (gV HO0_2) gb281 (Nat.le_of_eq hg.symm)) hb); have n1_ := q13 (q12 (gB HB) hb); have n2_ := q13 (hbox); have n3_ := q13 ((by rw [hg]; exact (q7 (gB HB)) : w.heap.size ≤ gb281)); have n4_ := q13 ((by rw [hg]; exact (q7 (gB HB)) : w.heap.size ≤ gb281)); clear HO0_2; clear HB; have HO0_2 := n0_; have HB := n1_; have BK281 := n2_; have GW281 := n3_; have GE281 := n4_; clear n0_ n1_ n2_ n3_ n4_; clear hb hbox hg) | ((with_reducible refine gate_dst (N := 2) rfl ?_); refine box_event ?hg (N := 2) ?hd (cs := #[.int .i64 0, .int .i64 0, .slice none 0 0]) (t := 43) ?hr ?_; (case hd => rfl); (case hg => rfl); (case hr => first | (go_simp; done) | (go_simp; rfl)); intro gb282 hg w3 hbox hb; have n0_ := q13 (Kd.V_below (Kd.V_elderB (gV HO0_2) gb282 (Nat.le_of_eq hg.symm)) hb); have n1_ := q13 (q8 (g := gb281) (o := .cells #[.int .i64 a0_0, .int .i64 a0_1, .slice A0_2 l0_2.length c0_2] 39 (0, 0)) (gK BK281) hb); have n2_ := q13 (q12 (by repeat (first | (with_reducible first | exact HB.out | apply q3 | apply q4 | apply q5 | refine q6 ?_ GE281.out) | exact HB.out)) hb); have n3_ := q13 (hbox); have n4_ := q13 ((by rw [hg]; exact (q7 (by repeat (first | (with_reducible first | exact HB.out | apply q3 | apply q4 | apply q5 | refine q6 ?_ GE281.out) | exact HB.out))) : w.heap.size ≤ gb282)); have n5_ := q13 ((by rw [hg]; exact (q7 (by repeat (first | (with_reducible first | exact HB.out | apply q3 | apply q4 | apply q5 | refine q6 ?_ GE281.out) | exact HB.out))) : w.heap.size ≤ gb282)); have n6_ := q13 ((by rw [hg]; exact Nat.ne_of_lt (blk_lt (g := gb281) (o := .cells #[.int .i64 a0_0, .int .i64 a0_1, .slice A0_2 l0_2.length c0_2] 39 (0, 0)) (gK BK281)) : gb281 ≠ gb282)); have n7_ := q13 ((by rw [hg]; exact Nat.ne_of_gt (blk_lt (g := gb281) (o := .cells #[.int .i64 a0_0, .int .i64 a0_1, .slice A0_2 l0_2.length c0_2] 39 (0, 0)) (gK BK281)) : gb282 ≠ gb281)); clear HO0_2; clear BK281; clear HB; have HO0_2 := n0_; have BK281 := n1_; have HB := n2_; have BK282 := n3_; have GW282 := n4_; have GE282 := n5_; have NB281_282 := n6_; have NB282_281 := n7_; clear n0_ n1_ n2_ n3_ n4_ n5_ n6_ n7_; clear hb hbox hg; have hnb4 := NB281_282.out; have hnc4 := NB282_281.out; have hcz5_0 : w3.cell? ⟨gb281, 0, none⟩ = some (.int .i64 a0_0) := (q9 BK281.out 0).trans rfl; have hcz5_1 : w3.cell? ⟨gb281, 1, none⟩ = some (.int .i64 a0_1) := (q9 BK281.out 1).trans rfl; have hcz5_2 : w3.cell? ⟨gb281, 2, none⟩ = some (.slice A0_2 l0_2.length c0_2) := (q9 BK281.out 2).trans rfl; have hfz5_0 := q11 BK281.out 0; have hfz5_1 := q11 BK281.out 1; have hfz5_2 := q11 BK281.out 2; have hcz6_0 : w3.cell? ⟨gb282, 0, none⟩ = some (.int .i64 0) := (q9 BK282.out 0).trans rfl; have hcz6_1 : w3.cell? ⟨gb282, 1, none⟩ = some (.int .i64 0) := (q9 BK282.out 1).trans rfl; have hcz6_2 : w3.cell? ⟨gb282, 2, none⟩ = some (.slice none 0 0) := (q9 BK282.out 2).trans rfl; have hfz6_0 := q11 BK282.out 0; have hfz6_1 := q11 BK282.out 1; have hfz6_2 := q11 BK282.out 2))
 refine bodyPost_ret (results_cell_row rfl _ _ gb282 43 #[.int .i64 a0_0, .int .i64 a0_1, .slice A0_2 l0_2.length c0_2] (0, 0) _ rfl (by (with_reducible repeat (first | refine q0 ?_ _ | refine q1 ?_ | refine q2 ?_ _)); refine blk_put (cs := #[.int .i64 a0_0, .int .i64 a0_1, .slice none 0 0]) ?_ 2 _ rfl; (with_reducible repeat (first | refine q0 ?_ _ | refine q1 ?_ | refine q2 ?_ _)); refine blk_put (cs := #[.int .i64 a0_0, .int .i64 0, .slice none 0 0]) ?_ 1 _ rfl; (with_reducible repeat (first | refine q0 ?_ _ | refine q1 ?_ | refine q2 ?_ _)); refine blk_put (cs := #[.int .i64 0, .int .i64 0, .slice none 0 0]) ?_ 0 _ rfl; (with_reducible repeat (first | refine q0 ?_ _ | refine q1 ?_ | refine q2 ?_ _)); exact BK282.out) Try.underlying43 rfl (by kernel_rfl)) rfl ?_
 exact ⟨_, by first | rfl | (simp [errW_none, errW_some] <;> rfl) | (simp [*, errW_none, errW_some] <;> rfl), by (with_reducible repeat (first | apply Kd.V_alloc | apply Kd.V_drewN | apply Kd.V_drew)); exact Kd.V_mono (Kd.V_far (p := ⟨gb282, 2, none⟩) (Kd.V_far (p := ⟨gb282, 1, none⟩) (Kd.V_far (p := ⟨gb282, 0, none⟩) (Kd.V_mono HO0_2.out (fun k_ hk => (⟨hk, hk.2⟩ : _ ∧ k_ ≠ gb282))) (fun _ hk => hk.2) (.int .i64 a0_0)) (fun _ hk => hk.2) (.int .i64 a0_1)) (fun _ hk => hk.2) (.slice A0_2 l0_2.length c0_2)) (fun _ hk => hk.1.1.1), by repeat (first | (with_reducible first | exact HB.out | apply q3 | apply q4 | apply q5 | refine q6 ?_ GE281.out | refine q6 ?_ GE282.out) | exact HB.out)⟩

def frisketref36_Own.l0 : Nat → List (S69) → Int → Option ((List (S69)))
 | 0, _, _ => none
 | k + 1, x3, x4 => if x4 < (x3.length : Int) then ((some (([] : List Int) : List Int)).bind fun y289 => (if 0 ≤ x4 then (if y289.length + ((rd_T69 x3 x4).f8).length < 17592186044416 then (frisketref36_Own.l0 k (x3.set (x4 : Int).toNat (⟨(rd_T69 x3 x4).f0, (rd_T69 x3 x4).f1, (rd_T69 x3 x4).f2, (rd_T69 x3 x4).f3, (rd_T69 x3 x4).f4, (rd_T69 x3 x4).f5, (rd_T69 x3 x4).f6, (rd_T69 x3 x4).f7, (y289 ++ ((rd_T69 x3 x4).f8))⟩ : S69)) (wrap64 (x4 + 1))) else (none)) else (none))) else (some x3)
def frisketref36_Own.f (k : Nat) (l0 : List (S69)) : Option ((List (S69))) := (some (([] : List (S69)) : List (S69))).bind fun y283 => (if y283.length + l0.length < 1256584717458 then (frisketref36_Own.l0 k (y283 ++ l0) 0) else (none))
theorem frisketref36_Own.mono_l : ∀ k, (∀ y0 y1, LeO (frisketref36_Own.l0 k y0 y1) (frisketref36_Own.l0 (k + 1) y0 y1))
 | 0 => fun _ _ r h => by simp [frisketref36_Own.l0] at h
 | k + 1 => by
  have ih0 := frisketref36_Own.mono_l k
  ·intro y0 y1
   unfold frisketref36_Own.l0
   repeat' first
   | (with_reducible exact ih0 _ _)
   | (with_reducible exact LeO.refl _)
   | (with_reducible exact LeO.none _)
   | (with_reducible refine LeO.ite ?_ ?_)
   | (with_reducible refine LeO.bind ?_ (fun _ => ?_))
   | exact ih0 _ _
   | exact LeO.none _
   | refine LeO.ite ?_ ?_
   | refine LeO.bind ?_ (fun _ => ?_)
theorem frisketref36_Own.mono : ∀ a0 k, LeO (frisketref36_Own.f k a0) (frisketref36_Own.f (k + 1) a0) := by
 intro a0 k
 have ih0 := frisketref36_Own.mono_l k
 unfold frisketref36_Own.f
 repeat' first
   | (with_reducible exact ih0 _ _)
   | (with_reducible exact LeO.refl _)
   | (with_reducible exact LeO.none _)
   | (with_reducible refine LeO.ite ?_ ?_)
   | (with_reducible refine LeO.bind ?_ (fun _ => ?_))
   | exact ih0 _ _
   | exact LeO.none _
   | refine LeO.ite ?_ ?_
   | refine LeO.bind ?_ (fun _ => ?_)
set_option maxHeartbeats 8000000 in
set_option maxRecDepth 100000 in
theorem frisketref36_Own.calls (k : Nat) (P0_ : Nat → Prop) (A0 : Option Addr) (c0 : Nat) (l0 : List (S69)) (r : List (S69)) (w : World) (hs0 : Kd.V k69 69 w w.heap.size (fun k_ => P0_ k_) (.slice A0 l0.length c0) l0) (h : frisketref36_Own.f k l0 = some r) :
  Calls Try.prog 30 #[.slice A0 l0.length c0] w fun e w' => ∃ v0_ : Value, e = .returned (v0_) ∧ Kd.N k69 69 w' w.heap.size (fun k_ => (P0_ k_ ∨ w.heap.size ≤ k_)) v0_ r ∧ Below w.heap.size w w' := by
 have HO0 := q13 (show Kd.V k69 69 w w.heap.size (fun k_ => (P0_ k_ ∨ w.heap.size ≤ k_)) (.slice A0 l0.length c0) l0 from Kd.V_mono hs0 (fun k_ hk => .inl hk))
 have HB := q13 (Below.refl w.heap.size w)
 have H : ((some (([] : List (S69)) : List (S69))).bind fun y283 => (if y283.length + l0.length < 1256584717458 then (frisketref36_Own.l0 k (y283 ++ l0) 0) else (none))) = some r := h
 clear h
 obtain ⟨y283, hy283⟩ : ∃ y_ : List (S69), y_ = (([] : List (S69))) := ⟨_, rfl⟩
 replace H : (if y283.length + l0.length < 1256584717458 then (frisketref36_Own.l0 k (y283 ++ l0) 0) else (none)) = some r := by first | (rw [hy283]; with_reducible exact H) | (have H2_ := (Option.bind_some _ _).symm.trans H; rw [hy283]; with_reducible exact H2_) | (have H2_ := (Option.bind_some _ _).symm.trans H; with_reducible exact H2_) | with_reducible exact H | (rw [hy283]; exact H) | exact H
 have Ny283 := q13 hy283
 clear hy283
 by_cases c2 : y283.length + l0.length < 1256584717458
 ·rw [if_pos c2] at H
  have LMc2 := q13 c2
  clear c2
  obtain ⟨y286, hy286⟩ : ∃ y_ : List (S69), y_ = (y283 ++ l0) := ⟨_, rfl⟩
  replace H : (frisketref36_Own.l0 k y286 0) = some r := by first | (rw [hy286]; with_reducible exact H) | (have H2_ := (Option.bind_some _ _).symm.trans H; rw [hy286]; with_reducible exact H2_) | (have H2_ := (Option.bind_some _ _).symm.trans H; with_reducible exact H2_) | with_reducible exact H | (rw [hy286]; exact H) | exact H
  have Ny286 := q13 hy286
  clear hy286
  have H' := q13 H
  clear H
  go_enter Try.func30, Try.ntmps30
  go_wp2_with (first | ((with_reducible refine gate_dst (N := 5) rfl ?_); refine Kd.N_lit k69 _ 69 ?hg (N' := 5) ?hd (xs := ([] : List (S69))) (inner := []) (ok := (fun k_ => (P0_ k_ ∨ w.heap.size ≤ k_))) (okp := (fun k_ => (P0_ k_ ∨ w.heap.size ≤ k_))) ?hr ?hp (fun _ hk => hk) ((show ∀ k_, w.heap.size ≤ k_ → (fun k_ => (P0_ k_ ∨ w.heap.size ≤ k_)) k_ from fun k_ hk => (.inr (Nat.le_trans (q7 (gB HB)) hk))) _ (q17 _)) (Below.refl _ _) (q17 _) (by simp) ?_; (case hd => rfl); (case hg => rfl); (case hr => first | (go_simp; done) | (go_simp; rfl)); (case hp => exact (Reps.none _ _)); intro v284 w3 ho4 hb hg_ hnew_; clear hg_ hnew_; (first | rw [← Ny283.out] at ho4 | (simp only [Int.reduceToNat] at ho4; rw [← Ny283.out] at ho4)); have n0_ := q13 (Kd.V_elder' (gV HO0) (by first | exact q43 ho4 | exact q44 ho4 | exact Kd.S_base ho4) hb); have n1_ := q13 (Kd.N_lower ho4 (q7 (gB HB))); have n2_ := q13 (q12 (gB HB) hb); clear HO0; clear HB; have HO0 := n0_; have HO285 := n1_; have HB := n2_; clear n0_ n1_ n2_; clear hb ho4) | ((with_reducible refine gate_builtin (b := .append) (xs := #[.tmp 5, .tmp 6]) rfl ?_); at_builtin; refine Kd.N_append_rows k69 (w0 := w) w.heap.size rfl (.tmp 5) (.tmp 6) 22 69 (.agg #[(.int .i64 0), (.int .i64 0), (.int .i64 0), (.int .i64 0), (.int .i64 0), (.string ⟨#[]⟩), (.string ⟨#[]⟩), (.string ⟨#[]⟩), (.slice none 0 0)]) 112 rfl Try.underlying22 info69 rfl (by decide) (by omega) v284 y283 l0 _ _ _ (fun k_ => (P0_ k_ ∨ w.heap.size ≤ k_)) (fun k_ => ((fun k_ => (P0_ k_ ∨ w.heap.size ≤ k_))) k_ ∧ some k_ ≠ (v284 : Value).ownBlock) rfl rfl ?aO ?aR (fun _ hk => hk) ?aF ?aB ?aS ?aL ?_; (case aR => exact (by skip; exact Kd.V_F (Kd.V_mono (ok' := (fun k_ => ((fun k_ => (P0_ k_ ∨ w.heap.size ≤ k_))) k_ ∧ some k_ ≠ (v284 : Value).ownBlock)) (HO0.out) (fun k_ hk => ⟨hk.1, hk.2⟩)))); (case aB => exact (gB HB)); (case aF => exact (fun k_ hk => (.inr (Nat.le_trans (q7 (gB HB)) hk)))); (case aO => exact (gN HO285)); (case aS => exact (q7 (gB HB))); (case aL => have := LMc2.out; omega); intro v287 w5 ho hb hg hat; rw [← Ny286.out] at ho; have n0_ := q13 (Kd.V_afterv (ok := (fun k_ => (P0_ k_ ∨ w.heap.size ≤ k_))) (gV HO0) hg hat); have n1_ := q13 (hb); have n2_ := q13 (ho); clear HO0; clear HB; clear HO285; have HO0 := n0_; have HB := n1_; have HO288 := n2_; clear n0_ n1_ n2_; clear ho hb hg hat))
  go_loopg [4] k (fun kq v4 w' => ∃ (x3_1 : List (S69)) (x4_1 : Int), v4 = .int .i64 x4_1 ∧ Aside0 (frisketref36_Own.l0 kq x3_1 x4_1 = some r) ∧ Aside0 (kq ≤ k) ∧ Aside0 (Kd.N k69 69 w' w.heap.size (fun k_ => (P0_ k_ ∨ w.heap.size ≤ k_)) v287 x3_1) ∧ Aside0 (Below w.heap.size w w'))
  case atStart => exact ⟨(y286), (0), (by first | rfl | (simp; done) | (simp [*]; done)), H', ⟨q17 _⟩, ⟨by (with_reducible repeat (first | apply Kd.N_alloc | apply Kd.N_drewN | apply Kd.N_drew)); exact HO288.out⟩, ⟨gB HB⟩⟩
  case round =>
   clear H'
   try clear c2
   try clear p2
   try clear c3
   obtain ⟨x3_1, x4_1, rfl, HA, HK1, HO_3, HB⟩ := hrel
   cases gk with
   | zero => exact absurd HA.out (by simp [frisketref36_Own.l0])
   | succ k1 =>
    have H := HA.out
    clear HA
    simp only [frisketref36_Own.l0] at H
    by_cases c6 : x4_1 < (x3_1.length : Int)
    ·rw [if_pos c6] at H
     have c6b0 : decide (x4_1 < (x3_1.length : Int)) = true := decide_eq_true c6
     clear c6
     obtain ⟨y289, hy289⟩ : ∃ y_ : List Int, y_ = (([] : List Int)) := ⟨_, rfl⟩
     replace H : (if 0 ≤ x4_1 then (if y289.length + ((rd_T69 x3_1 x4_1).f8).length < 17592186044416 then (frisketref36_Own.l0 k1 (x3_1.set (x4_1 : Int).toNat (⟨(rd_T69 x3_1 x4_1).f0, (rd_T69 x3_1 x4_1).f1, (rd_T69 x3_1 x4_1).f2, (rd_T69 x3_1 x4_1).f3, (rd_T69 x3_1 x4_1).f4, (rd_T69 x3_1 x4_1).f5, (rd_T69 x3_1 x4_1).f6, (rd_T69 x3_1 x4_1).f7, (y289 ++ ((rd_T69 x3_1 x4_1).f8))⟩ : S69)) (wrap64 (x4_1 + 1))) else (none)) else (none)) = some r := by first | (rw [hy289]; with_reducible exact H) | (have H2_ := (Option.bind_some _ _).symm.trans H; rw [hy289]; with_reducible exact H2_) | (have H2_ := (Option.bind_some _ _).symm.trans H; with_reducible exact H2_) | with_reducible exact H | (rw [hy289]; exact H) | exact H
     have Ny289 := q13 hy289
     clear hy289
     by_cases c7 : 0 ≤ x4_1
     ·rw [if_pos c7] at H
      have c7b0 : decide (0 ≤ x4_1) = true := decide_eq_true c7
      clear c7
      by_cases c8 : y289.length + ((rd_T69 x3_1 x4_1).f8).length < 17592186044416
      ·rw [if_pos c8] at H
       have LMc8 := q13 c8
       clear c8
       obtain ⟨y293, hy293⟩ : ∃ y_ : List Int, y_ = (y289 ++ ((rd_T69 x3_1 x4_1).f8)) := ⟨_, rfl⟩
       replace H : (frisketref36_Own.l0 k1 (x3_1.set (x4_1 : Int).toNat (⟨(rd_T69 x3_1 x4_1).f0, (rd_T69 x3_1 x4_1).f1, (rd_T69 x3_1 x4_1).f2, (rd_T69 x3_1 x4_1).f3, (rd_T69 x3_1 x4_1).f4, (rd_T69 x3_1 x4_1).f5, (rd_T69 x3_1 x4_1).f6, (rd_T69 x3_1 x4_1).f7, y293⟩ : S69)) (wrap64 (x4_1 + 1))) = some r := by first | (rw [hy293]; with_reducible exact H) | (have H2_ := (Option.bind_some _ _).symm.trans H; rw [hy293]; with_reducible exact H2_) | (have H2_ := (Option.bind_some _ _).symm.trans H; with_reducible exact H2_) | with_reducible exact H | (rw [hy293]; exact H) | exact H
       have Ny293 := q13 hy293
       clear hy293
       obtain ⟨y296, hy296⟩ : ∃ y_ : List (S69), y_ = (x3_1.set (x4_1 : Int).toNat (⟨(rd_T69 x3_1 x4_1).f0, (rd_T69 x3_1 x4_1).f1, (rd_T69 x3_1 x4_1).f2, (rd_T69 x3_1 x4_1).f3, (rd_T69 x3_1 x4_1).f4, (rd_T69 x3_1 x4_1).f5, (rd_T69 x3_1 x4_1).f6, (rd_T69 x3_1 x4_1).f7, y293⟩ : S69)) := ⟨_, rfl⟩
       replace H : (frisketref36_Own.l0 k1 y296 (wrap64 (x4_1 + 1))) = some r := by first | (rw [hy296]; with_reducible exact H) | (have H2_ := (Option.bind_some _ _).symm.trans H; rw [hy296]; with_reducible exact H2_) | (have H2_ := (Option.bind_some _ _).symm.trans H; with_reducible exact H2_) | with_reducible exact H | (rw [hy296]; exact H) | exact H
       have Ny296 := q13 hy296
       clear hy296
       have H' := q13 H
       clear H
       obtain ⟨Ao10, co10, eo10⟩ := Kd.N_slice HO_3.out
       subst eo10
       go_wp2_with (first | ((with_reducible refine gate_dst (N := 16) rfl ?_); refine Kd.R_lit (Kd.int .i64) _ 3 ?hg (N := 16) ?hd (xs := ([] : List Int)) (inner := []) (ok := fun _ => True) (okp := fun _ => True) ?hr ?hp (fun _ hk => hk) trivial (Below.refl _ _) (q17 _) (by simp) ?_; (case hd => rfl); (case hg => rfl); (case hr => first | (go_simp; done) | (go_simp; rfl)); (case hp => exact (Reps.none _ _)); intro v290 w11 ho12 hb hg_ hnew_; clear hg_ hnew_; (first | rw [← Ny289.out] at ho12 | (simp only [Int.reduceToNat] at ho12; rw [← Ny289.out] at ho12)); have n0_ := q13 (Kd.N_elder' (gN HO_3) (q44 ho12) hb); have n1_ := q13 (Kd.R_lower (Kd.R_newM (M := fun k_ => (w.heap.size ≤ k_)) ho12 (q7 (gB HB)) (fun k_ h_ => h_)) (q7 (gB HB))); have n2_ := q13 (q12 (gB HB) hb); clear HO_3; clear HB; have HO_3 := n0_; have HO291 := n1_; have HB := n2_; clear n0_ n1_ n2_; clear hb ho12; have p292 : 0 ≤ (x4_1 : Int) := q15 (by assumption); have q292 : x4_1 < (x3_1.length : Int) := q15 (by assumption); obtain ⟨ad292, A292_8, c292_8, e292, hx292_0, hx292_1, hx292_2, hx292_3, hx292_4, hx292_5, hx292_6, hx292_7, hx292_8, hl292_8, hi292_8⟩ := at_T69 (Kd.N_reads' HO_3.out).2.2 x4_1 p292 q292; cases e292; obtain ⟨ce292, hce292, hMe292, hcc292⟩ := Kd.N_get HO_3.out z69 x4_1 p292 (by first | exact q292 | exact q15 (by assumption) | (have e_ := (Kd.N_reads' HO_3.out).1; omega)); obtain ⟨ua292_8, uc292_8, rfl, ul292_8, ge292_8⟩ := k69_openF hMe292; have hv292_8 := hcc292 8 _ rfl; rw [add_field _ _ 8 (by omega)] at hv292_8; replace hv292_8 := Option.some.inj (hv292_8.symm.trans hx292_8); injection hv292_8 with hva_ hvn_ hvc_; rw [hva_] at ge292_8; rw [hvc_] at ul292_8; have HL292_8 := q13 (show Kd.V (Kd.int .i64) 3 _ w.heap.size _ _ ((rd_T69 x3_1 x4_1).f8) from Kd.V_mk ul292_8 ge292_8); clear hva_ hvn_ hvc_ ge292_8 ul292_8; clear hcc292 hce292; have HR292_8 := q13 hi292_8; have HC292_8 := q13 hl292_8; clear hi292_8 hl292_8; replace p292 := eq_true p292; replace q292 := eq_true q292) | ((with_reducible refine gate_builtin (b := .append) (xs := #[.tmp 16, .tmp 21]) rfl ?_); at_builtin; refine Kd.R_append_rows (Kd.int .i64) (w0 := w) w.heap.size rfl (.tmp 16) (.tmp 21) 67 3 (.int .i64 0) 8 rfl Try.underlying67 info3 rfl (by decide) (by omega) v290 y289 ((rd_T69 x3_1 x4_1).f8) _ _ _ (fun k_ => (w.heap.size ≤ k_)) (fun _ => False) rfl rfl ?aO ?aR (fun _ _ h => h) (fun _ h => h.elim) ?aF ?aB ?aS ?aL ?_; (case aR => repeat (first | exact (by repeat (first | (with_reducible exact HR292_8.out) | (with_reducible refine q18 ?_ _) | (with_reducible refine q19 ?_ _) | (with_reducible refine q20 ?_) | exact HR292_8.out)) | (with_reducible refine q18 ?_ _) | (with_reducible refine q19 ?_ _) | (with_reducible refine q20 ?_))); (case aB => exact (gB HB)); (case aF => exact (fun k_ hk => (Nat.le_trans (q7 (gB HB)) hk))); (case aO => exact (by (with_reducible repeat (first | apply Kd.R_alloc | apply Kd.R_drewN | apply Kd.R_drew)); exact Kd.R_mono HO291.out (fun _ hk => hk.1))); (case aS => exact (q7 (gB HB))); (case aL => have := LMc8.out; omega); intro v294 w13 ho hb hg hat; rw [← Ny293.out] at ho; obtain ⟨Av_, cv_, ev_⟩ := Kd.R_slice ho; subst ev_; have n0_ := q13 (Kd.N_afterv (ok := (fun k_ => (P0_ k_ ∨ w.heap.size ≤ k_))) (gN HO_3) hg hat); have n1_ := q13 (Kd.V_afterv (ok := (fun k_ => (P0_ k_ ∨ w.heap.size ≤ k_) ∧ some k_ ≠ (.slice (some ad292) x3_1.length co10 : Value).ownBlock)) (by (with_reducible repeat (first | apply Kd.V_alloc | apply Kd.V_drewN | apply Kd.V_drew)); exact Kd.V_mono HL292_8.out (fun _ hk => ⟨⟨hk.1.1, hk.2⟩, hk.1.2⟩)) hg hat); have n2_ := q13 (hb); have n3_ := q13 (ho); clear HO_3; clear HL292_8; clear HB; clear HO291; have HO_3 := n0_; have HL292_8 := n1_; have HB := n2_; have HO295 := n3_; clear n0_ n1_ n2_ n3_; clear ho hb hg hat; have p9 : 0 ≤ (x4_1 : Int) := q15 (by assumption); have q9 : (x4_1 : Int) < ((x3_1.length : Int) : Int) := q15 (by assumption); obtain ⟨go9, co9, eo9, gb9, gl9, cl9, HG9⟩ := Kd.N_form HO_3.out (by omega); (first | cases eo9 | (injection eo9 with ea_ en_ ec_; (first | subst ea_ | (injection ea_ with ea_; subst ea_)); subst ec_; clear en_)); have GB9 := q13 gb9; have GG9 := q13 HG9; clear gb9 gl9 HG9; (first | simp only [add_plain] at hx292_0 | skip); (first | simp only [add_plain] at hx292_1 | skip); (first | simp only [add_plain] at hx292_2 | skip); (first | simp only [add_plain] at hx292_3 | skip); (first | simp only [add_plain] at hx292_4 | skip); (first | simp only [add_plain] at hx292_5 | skip); (first | simp only [add_plain] at hx292_6 | skip); (first | simp only [add_plain] at hx292_7 | skip); (first | simp only [add_plain] at hx292_8 | skip); obtain ⟨ce9, hcl9, hM9, hcc9, hfr9⟩ := Kd.N_elem HO_3.out z69 (x4_1 : Int) p9 q9; obtain ⟨ua9_8, uc9_8, rfl, ul9_8, ge9_8⟩ := k69_openF hM9; have hx9_0 : w13.cell? ⟨go9, (x4_1 : Int).toNat * 9, none⟩ = some (.int .i64 ((rd_T69 x3_1 x4_1).f0)) := hcc9 0 _ rfl; have hx9_1 : w13.cell? ⟨go9, (x4_1 : Int).toNat * 9 + 1, none⟩ = some (.int .i64 ((rd_T69 x3_1 x4_1).f1)) := hcc9 1 _ rfl; have hx9_2 : w13.cell? ⟨go9, (x4_1 : Int).toNat * 9 + 2, none⟩ = some (.int .i64 ((rd_T69 x3_1 x4_1).f2)) := hcc9 2 _ rfl; have hx9_3 : w13.cell? ⟨go9, (x4_1 : Int).toNat * 9 + 3, none⟩ = some (.int .i64 ((rd_T69 x3_1 x4_1).f3)) := hcc9 3 _ rfl; have hx9_4 : w13.cell? ⟨go9, (x4_1 : Int).toNat * 9 + 4, none⟩ = some (.int .i64 ((rd_T69 x3_1 x4_1).f4)) := hcc9 4 _ rfl; have hx9_5 : w13.cell? ⟨go9, (x4_1 : Int).toNat * 9 + 5, none⟩ = some (.string ((rd_T69 x3_1 x4_1).f5)) := hcc9 5 _ rfl; have hx9_6 : w13.cell? ⟨go9, (x4_1 : Int).toNat * 9 + 6, none⟩ = some (.string ((rd_T69 x3_1 x4_1).f6)) := hcc9 6 _ rfl; have hx9_7 : w13.cell? ⟨go9, (x4_1 : Int).toNat * 9 + 7, none⟩ = some (.string ((rd_T69 x3_1 x4_1).f7)) := hcc9 7 _ rfl; have hx9_8 : w13.cell? ⟨go9, (x4_1 : Int).toNat * 9 + 8, none⟩ = some (.slice ua9_8 ((rd_T69 x3_1 x4_1).f8).length uc9_8) := hcc9 8 _ rfl; have hf9_0 : w13.frozen? ⟨go9, (x4_1 : Int).toNat * 9, none⟩ = false := hfr9 0; have hf9_1 : w13.frozen? ⟨go9, (x4_1 : Int).toNat * 9 + 1, none⟩ = false := hfr9 1; have hf9_2 : w13.frozen? ⟨go9, (x4_1 : Int).toNat * 9 + 2, none⟩ = false := hfr9 2; have hf9_3 : w13.frozen? ⟨go9, (x4_1 : Int).toNat * 9 + 3, none⟩ = false := hfr9 3; have hf9_4 : w13.frozen? ⟨go9, (x4_1 : Int).toNat * 9 + 4, none⟩ = false := hfr9 4; have hf9_5 : w13.frozen? ⟨go9, (x4_1 : Int).toNat * 9 + 5, none⟩ = false := hfr9 5; have hf9_6 : w13.frozen? ⟨go9, (x4_1 : Int).toNat * 9 + 6, none⟩ = false := hfr9 6; have hf9_7 : w13.frozen? ⟨go9, (x4_1 : Int).toNat * 9 + 7, none⟩ = false := hfr9 7; have hf9_8 : w13.frozen? ⟨go9, (x4_1 : Int).toNat * 9 + 8, none⟩ = false := hfr9 8; clear hcl9 hcc9 hfr9 hM9; replace p9 := eq_true p9; replace q9 := eq_true q9; have HX14 := q13 (show Kd.N k69 69 w13 w.heap.size (fun k_ => (P0_ k_ ∨ w.heap.size ≤ k_)) (.slice (some ⟨go9, 0, none⟩) x3_1.length co10) x3_1 from (by (with_reducible repeat (first | apply Kd.N_alloc | apply Kd.N_drewN | apply Kd.N_drew)); exact Kd.N_mono HO_3.out (fun _ hk => hk.1))); obtain ⟨ce14, hcl14, hM14, hcc14, hfr14⟩ := Kd.N_elem HX14.out z69 (x4_1 : Int) (q15 (by assumption)) (by have h_ : (x4_1 : Int) < ((x3_1.length : Int) : Int) := q15 (by assumption); first | exact h_ | (have e_ := (Kd.N_reads' HO_3.out).1; omega) | simpa using h_); obtain ⟨ua14_8, uc14_8, rfl, ul14_8, ge14_8⟩ := k69_openF hM14; have HP14 := Kd.N_seg HX14.out (x4_1 : Int) (q15 (by assumption)) (by have h_ : (x4_1 : Int) < ((x3_1.length : Int) : Int) := q15 (by assumption); first | exact h_ | (have e_ := (Kd.N_reads' HO_3.out).1; omega) | simpa using h_) (seg := [(.slice Av_ y293.length cv_)]) (j := 8) hcl14 hcc14 (show 9 ≤ 9 from by decide) (x' := (⟨(rd_T69 x3_1 x4_1).f0, (rd_T69 x3_1 x4_1).f1, (rd_T69 x3_1 x4_1).f2, (rd_T69 x3_1 x4_1).f3, (rd_T69 x3_1 x4_1).f4, (rd_T69 x3_1 x4_1).f5, (rd_T69 x3_1 x4_1).f6, (rd_T69 x3_1 x4_1).f7, y293⟩ : S69)) (k69_mkF _ _ (⟨(rd_T69 x3_1 x4_1).f0, (rd_T69 x3_1 x4_1).f1, (rd_T69 x3_1 x4_1).f2, (rd_T69 x3_1 x4_1).f3, (rd_T69 x3_1 x4_1).f4, (rd_T69 x3_1 x4_1).f5, (rd_T69 x3_1 x4_1).f6, (rd_T69 x3_1 x4_1).f7, y293⟩ : S69) (Kd.R_reads' (Kd.R_mono (ok' := (fun k_ => ((fun k_ => (P0_ k_ ∨ w.heap.size ≤ k_))) k_ ∧ k_ ≠ go9)) (Kd.R_apart' (HO295.out) (Kd.N_typed HO_3.out) (by decide)) (fun k_ hk => ⟨(.inr (hk.1)), fun e_ => (hk.2) (by rw [e_]; rfl)⟩))).2.1 (Kd.R_F (Kd.R_mono (ok' := (fun k_ => ((fun k_ => (P0_ k_ ∨ w.heap.size ≤ k_))) k_ ∧ k_ ≠ go9)) (Kd.R_apart' (HO295.out) (Kd.N_typed HO_3.out) (by decide)) (fun k_ hk => ⟨(.inr (hk.1)), fun e_ => (hk.2) (by rw [e_]; rfl)⟩)))) (fun _ hk => hk); have hx14_8 := hcc14 8 _ rfl; (try simp only [show (k69).sz = 9 from rfl, Nat.mul_one, Nat.add_zero] at hx14_8); have hf14_8 := hfr14 8; (try simp only [show (k69).sz = 9 from rfl, Nat.mul_one, Nat.add_zero] at hf14_8); clear hcl14 hcc14 hfr14 hM14) | ((with_reducible refine gate_store (t := 67) (p := 24) rfl ?_); refine store_event (t := 67) (p := 24) (v := ?vo_w15) (w1 := (w13.setCell ⟨go9, (x4_1 : Int).toNat * 9 + 8, none⟩ ((.slice Av_ y293.length cv_)))) ?hg ?ho ?hn ?hr ?_; (case ho => rfl); (case hg => rfl); (case hn => rfl); (case hr => first | (go_simp; done) | (go_simp; rfl)); intro w15 hw; have hg : w13.grownBy w15 (some go9) := (by rw [hw]; exact HP14.2); have hp_ : Kd.N k69 69 w15 w.heap.size (fun k_ => (P0_ k_ ∨ w.heap.size ≤ k_)) (.slice (some ⟨go9, 0, none⟩) x3_1.length co10) y296 := (by rw [hw, Ny296.out]; exact HP14.1); clear HP14; have n0_ := q13 (hp_); have n1_ := q13 (Kd.V_afterv (v := (.slice (some ⟨go9, 0, none⟩) x3_1.length co10)) (v1 := (.slice (some ⟨go9, 0, none⟩) x3_1.length co10)) (ok := (fun k_ => (P0_ k_ ∨ w.heap.size ≤ k_) ∧ some k_ ≠ ((.slice Av_ y293.length cv_) : Value).ownBlock)) (by (with_reducible repeat (first | apply Kd.V_alloc | apply Kd.V_drewN | apply Kd.V_drew)); exact Kd.V_mono HL292_8.out (fun _ hk => ⟨⟨hk.1.1, hk.2⟩, hk.1.2⟩)) hg (.inl rfl)); have n2_ := q13 ((by rw [hw]; exact q6 (HB.out) GB9.out : Below w.heap.size w w15)); clear HO_3; clear HL292_8; clear HB; clear HO295; have HO_3 := n0_; have HL292_8 := n1_; have HB := n2_; clear n0_ n1_ n2_; clear hg hw hp_))
       go_roundg k1
       case measure => have := HK1.out; omega
       case rel => exact ⟨(y296), (wrap64 (x4_1 + 1)), (by first | rfl | (simp; done) | (simp [*]; done)), H', ⟨by have := HK1.out; omega⟩, ⟨by (with_reducible repeat (first | apply Kd.N_alloc | apply Kd.N_drewN | apply Kd.N_drew)); exact HO_3.out⟩, ⟨gB HB⟩⟩
      ·rw [if_neg c8] at H
       exact absurd H (by simp)
     ·rw [if_neg c7] at H
      exact absurd H (by simp)
    ·rw [if_neg c6] at H
     have c6b0 : decide (x4_1 < (x3_1.length : Int)) = false := decide_eq_false c6
     clear c6
     obtain rfl := Option.some.inj H
     obtain ⟨Ao16, co16, eo16⟩ := Kd.N_slice HO_3.out
     subst eo16
     go_wp2
     go_ret
     exact ⟨_, by first | rfl | (simp [errW_none, errW_some] <;> rfl) | (simp [*, errW_none, errW_some] <;> rfl), by (with_reducible repeat (first | apply Kd.N_alloc | apply Kd.N_drewN | apply Kd.N_drew)); exact HO_3.out, gB HB⟩
 ·rw [if_neg c2] at H
  exact absurd H (by simp)

end Go.Proofs.Ytgjmljjnminefaa.QCP
