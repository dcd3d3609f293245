import Derived.Lib.SliceRun
import Derived.Test.YtgjmljjnminefaaQCPx0
import Derived.Test.YtgjmljjnminefaaQCPx9
import Derived.Test.YtgjmljjnminefaaFGrowCP
import Derived.Test.YtgjmljjnminefaaArrEq
import Derived.Test.YtgjmljjnminefaaZip
import Derived.Test.YtgjmljjnminefaaZip2
namespace Go.Proofs.Ytgjmljjnminefaa.QCP
open Go.Proofs.Ytgjmljjnminefaa.Zip2 Go.Proofs.Ytgjmljjnminefaa.Zip Go.RowKit Go.Proofs.YtgjmljjnminefaaW.PrintWords Go.Proofs.YtgjmljjnminefaaW.PrintLast Go.Proofs.YtgjmljjnminefaaW.PrintMore
attribute [local go_sem] max2_int min2_int max_two min_two max_three min_three max_four min_four   -- for this text's walks alone
set_option linter.unusedVariables false
set_option linter.unusedSimpArgs false

def frisketref36_SameMarks.l0 : Nat → List (S69) → List (S69) → Int → Option (Bool)
 | 0, _, _, _ => none
 | k + 1, x0, x1, x5 => if x5 < (x0.length : Int) then (if 0 ≤ x5 then (if x5 < (x1.length : Int) then ((frisketref36_SameMark.f k ((rd_T69 x0 x5).f0) ((rd_T69 x0 x5).f1) ((rd_T69 x0 x5).f2) ((rd_T69 x0 x5).f3) ((rd_T69 x0 x5).f4) ((rd_T69 x0 x5).f5) ((rd_T69 x0 x5).f6) ((rd_T69 x0 x5).f7) ((rd_T69 x0 x5).f8) ((rd_T69 x1 x5).f0) ((rd_T69 x1 x5).f1) ((rd_T69 x1 x5).f2) ((rd_T69 x1 x5).f3) ((rd_T69 x1 x5).f4) ((rd_T69 x1 x5).f5) ((rd_T69 x1 x5).f6) ((rd_T69 x1 x5).f7) ((rd_T69 x1 x5).f8)).bind fun t230 => (if (t230 = true) then (frisketref36_SameMarks.l0 k x0 x1 (wrap64 (x5 + 1))) else (some false))) else (none)) else (none)) else (some true)
def frisketref36_SameMarks.f (k : Nat) (l0 : List (S69)) (l1 : List (S69)) : Option (Bool) := if (l0.length : Int) = (l1.length : Int) then (frisketref36_SameMarks.l0 k l0 l1 0) else (some false)
theorem frisketref36_SameMarks.mono_l : ∀ k, (∀ y0 y1 y2, LeO (frisketref36_SameMarks.l0 k y0 y1 y2) (frisketref36_SameMarks.l0 (k + 1) y0 y1 y2))
 | 0 => fun _ _ _ r h => by simp [frisketref36_SameMarks.l0] at h
 | k + 1 => by
  have ih0 := frisketref36_SameMarks.mono_l k
  ·intro y0 y1 y2
   unfold frisketref36_SameMarks.l0
   repeat' first
   | (with_reducible exact ih0 _ _ _)
   | (with_reducible exact frisketref36_SameMark.mono _ _ _ _ _ _ _ _ _ _ _ _ _ _ _ _ _ _ _)
   | (with_reducible exact LeO.refl _)
   | (with_reducible exact LeO.none _)
   | (with_reducible refine LeO.ite ?_ ?_)
   | (with_reducible refine LeO.bind ?_ (fun _ => ?_))
   | exact ih0 _ _ _
   | exact frisketref36_SameMark.mono _ _ _ _ _ _ _ _ _ _ _ _ _ _ _ _ _ _ _
   | exact LeO.none _
   | refine LeO.ite ?_ ?_
   | refine LeO.bind ?_ (fun _ => ?_)
theorem frisketref36_SameMarks.mono : ∀ a0 a1 k, LeO (frisketref36_SameMarks.f k a0 a1) (frisketref36_SameMarks.f (k + 1) a0 a1) := by
 intro a0 a1 k
 have ih0 := frisketref36_SameMarks.mono_l k
 unfold frisketref36_SameMarks.f
 repeat' first
   | (with_reducible exact ih0 _ _ _)
   | (with_reducible exact frisketref36_SameMark.mono _ _ _ _ _ _ _ _ _ _ _ _ _ _ _ _ _ _ _)
   | (with_reducible exact LeO.refl _)
   | (with_reducible exact LeO.none _)
   | (with_reducible refine LeO.ite ?_ ?_)
   | (with_reducible refine LeO.bind ?_ (fun _ => ?_))
   | exact ih0 _ _ _
   | exact frisketref36_SameMark.mono _ _ _ _ _ _ _ _ _ _ _ _ _ _ _ _ _ _ _
   | exact LeO.none _
   | refine LeO.ite ?_ ?_
   | refine LeO.bind ?_ (fun _ => ?_)
def frisketref36_SameMarks.T6 : Bool × List (List Nat × List Nat) := (true, [([], []), ([], []), ([0, 1], [0, 1]), ([2], [2]), ([], []), ([], []), ([4, 5], [4, 5]), ([6], [6]), ([3, 7], [3, 7]), ([8], [8])])
def frisketref36_SameMarks.B6 : List Nat := [0, 0, 3, 7, 0, 0, 48, 112, 255, 511]
theorem frisketref36_SameMarks.tab6 : rtab .any (opsOf Try.f12 6) = frisketref36_SameMarks.T6 := by kernel_rfl
theorem frisketref36_SameMarks.bits6 : waitsOk frisketref36_SameMarks.T6.2 frisketref36_SameMarks.B6 = true := by kernel_rfl
set_option maxHeartbeats 8000000 in
set_option maxRecDepth 100000 in
theorem frisketref36_SameMarks.calls (k : Nat) (A0 : Option Addr) (c0 : Nat) (l0 : List (S69)) (A1 : Option Addr) (c1 : Nat) (l1 : List (S69)) (r : Bool) (w : World) (hr0 : Kd.C k69 w A0 l0.length l0) (hc0 : l0.length ≤ c0) (hr1 : Kd.C k69 w A1 l1.length l1) (hc1 : l1.length ≤ c1) (h : frisketref36_SameMarks.f k l0 l1 = some r) :
  Calls Try.prog 12 #[.slice A0 l0.length c0, .slice A1 l1.length c1] w fun e w' => e = .returned (.bool r) ∧ Below w.heap.size w w' := by
 have hu69 := Try.underlying69
 have HR0 := q13 hr0
 have HC0 := q13 hc0
 clear hr0 hc0
 have HR1 := q13 hr1
 have HC1 := q13 hc1
 clear hr1 hc1
 have HB := q13 (Below.refl w.heap.size w)
 have H : (if (l0.length : Int) = (l1.length : Int) then (frisketref36_SameMarks.l0 k l0 l1 0) else (some false)) = some r := h
 clear h
 by_cases c3 : (l0.length : Int) = (l1.length : Int)
 ·rw [if_pos c3] at H
  have c3b0 : ((l0.length : Int) == (l1.length : Int)) = true := beq_iff_eq.mpr c3
  have c3b1 : ((l0.length : Int) != (l1.length : Int)) = false := bne_eq_false_iff_eq.mpr c3
  have c3b2 : (l0.length == l1.length) = true := by first | simpa using c3 | (simp at c3 ⊢; omega)
  clear c3
  have H' := q13 H
  clear H
  go_enter Try.func12, Try.ntmps12
  go_wp2
  go_loopg [5] k (fun kq v5 w' => ∃ (x5_1 : Int), v5 = .int .i64 x5_1 ∧ Aside0 (frisketref36_SameMarks.l0 kq l0 l1 x5_1 = some r) ∧ Aside0 (kq ≤ k) ∧ Aside0 (Below w.heap.size w w'))
  case atStart => exact ⟨(0), (by first | rfl | (simp; done) | (simp [*]; done)), H', ⟨q17 _⟩, ⟨gB HB⟩⟩
  case round =>
   clear H'
   try clear c1
   try clear p2
   try clear c3
   try clear c3b0
   try clear c3b1
   try clear c3b2
   obtain ⟨x5_1, rfl, HA, HK1, HB⟩ := hrel
   cases gk with
   | zero => exact absurd HA.out (by simp [frisketref36_SameMarks.l0])
   | succ k1 =>
    have H := HA.out
    clear HA
    simp only [frisketref36_SameMarks.l0] at H
    by_cases c4 : x5_1 < (l0.length : Int)
    ·rw [if_pos c4] at H
     have c4b0 : decide (x5_1 < (l0.length : Int)) = true := decide_eq_true c4
     clear c4
     by_cases c5 : 0 ≤ x5_1
     ·rw [if_pos c5] at H
      have c5b0 : decide (0 ≤ x5_1) = true := decide_eq_true c5
      clear c5
      by_cases c6 : x5_1 < (l1.length : Int)
      ·rw [if_pos c6] at H
       have c6b0 : decide (x5_1 < (l1.length : Int)) = true := decide_eq_true c6
       clear c6
       replace H := Option.bind_eq_some_iff.mp H
       obtain ⟨t230, A70, H⟩ := H
       replace H : (if (t230 = true) then (frisketref36_SameMarks.l0 k1 l0 l1 (wrap64 (x5_1 + 1))) else (some false)) = some r := H
       have A7 := q13 A70
       clear A70
       by_cases c8 : (t230 = true)
       ·subst c8
        have H1 : (frisketref36_SameMarks.l0 k1 l0 l1 (wrap64 (x5_1 + 1))) = some r := by rw [if_pos rfl] at H; exact H
        clear H
        have H := H1
        clear H1
        have H' := q13 H
        clear H
        try go_wp2
        have n0_ := q13 (q5 HB.out)
        clear HB
        have HB := n0_
        clear n0_
        have p228 : 0 ≤ (x5_1 : Int) := q15 (by assumption)
        have q228 : x5_1 < (l0.length : Int) := q15 (by assumption)
        obtain ⟨ad228, A228_8, c228_8, e228, hx228_0, hx228_1, hx228_2, hx228_3, hx228_4, hx228_5, hx228_6, hx228_7, hx228_8, hl228_8, hi228_8⟩ := at_T69 HR0.out x5_1 p228 q228
        have hw228_8 := hx228_8
        have hw228_7 := hx228_7
        have hw228_6 := hx228_6
        have hw228_5 := hx228_5
        have hw228_4 := hx228_4
        have hw228_3 := hx228_3
        have hw228_2 := hx228_2
        have hw228_1 := hx228_1
        have hw228_0 := hx228_0
        cases e228
        replace hx228_0 := cl HB.out hx228_0
        replace hx228_1 := cl HB.out hx228_1
        replace hx228_2 := cl HB.out hx228_2
        replace hx228_3 := cl HB.out hx228_3
        replace hx228_4 := cl HB.out hx228_4
        replace hx228_5 := cl HB.out hx228_5
        replace hx228_6 := cl HB.out hx228_6
        replace hx228_7 := cl HB.out hx228_7
        replace hx228_8 := cl HB.out hx228_8
        have HR228_8 := q13 hi228_8
        have HC228_8 := q13 hl228_8
        clear hi228_8 hl228_8
        replace p228 := eq_true p228
        replace q228 := eq_true q228
        have p229 : 0 ≤ (x5_1 : Int) := q15 (by assumption)
        have q229 : x5_1 < (l1.length : Int) := q15 (by assumption)
        obtain ⟨ad229, A229_8, c229_8, e229, hx229_0, hx229_1, hx229_2, hx229_3, hx229_4, hx229_5, hx229_6, hx229_7, hx229_8, hl229_8, hi229_8⟩ := at_T69 HR1.out x5_1 p229 q229
        have hw229_8 := hx229_8
        have hw229_7 := hx229_7
        have hw229_6 := hx229_6
        have hw229_5 := hx229_5
        have hw229_4 := hx229_4
        have hw229_3 := hx229_3
        have hw229_2 := hx229_2
        have hw229_1 := hx229_1
        have hw229_0 := hx229_0
        cases e229
        replace hx229_0 := cl HB.out hx229_0
        replace hx229_1 := cl HB.out hx229_1
        replace hx229_2 := cl HB.out hx229_2
        replace hx229_3 := cl HB.out hx229_3
        replace hx229_4 := cl HB.out hx229_4
        replace hx229_5 := cl HB.out hx229_5
        replace hx229_6 := cl HB.out hx229_6
        replace hx229_7 := cl HB.out hx229_7
        replace hx229_8 := cl HB.out hx229_8
        have HR229_8 := q13 hi229_8
        have HC229_8 := q13 hl229_8
        clear hi229_8 hl229_8
        replace p229 := eq_true p229
        replace q229 := eq_true q229
        refine start_ (n := 10) (S := fun w' => w'.cell? (ad228.add ((x5_1).toNat * 9)) = some (.int .i64 ((rd_T69 l0 x5_1).f0)) ∧ w'.cell? ⟨(ad228.add ((x5_1).toNat * 9)).block, (ad228.add ((x5_1).toNat * 9)).off + 1, none⟩ = some (.int .i64 ((rd_T69 l0 x5_1).f1)) ∧ w'.cell? ⟨(ad228.add ((x5_1).toNat * 9)).block, (ad228.add ((x5_1).toNat * 9)).off + 2, none⟩ = some (.int .i64 ((rd_T69 l0 x5_1).f2)) ∧ w'.cell? ⟨(ad228.add ((x5_1).toNat * 9)).block, (ad228.add ((x5_1).toNat * 9)).off + 3, none⟩ = some (.int .i64 ((rd_T69 l0 x5_1).f3)) ∧ w'.cell? ⟨(ad228.add ((x5_1).toNat * 9)).block, (ad228.add ((x5_1).toNat * 9)).off + 4, none⟩ = some (.int .i64 ((rd_T69 l0 x5_1).f4)) ∧ w'.cell? ⟨(ad228.add ((x5_1).toNat * 9)).block, (ad228.add ((x5_1).toNat * 9)).off + 5, none⟩ = some (.string ((rd_T69 l0 x5_1).f5)) ∧ w'.cell? ⟨(ad228.add ((x5_1).toNat * 9)).block, (ad228.add ((x5_1).toNat * 9)).off + 6, none⟩ = some (.string ((rd_T69 l0 x5_1).f6)) ∧ w'.cell? ⟨(ad228.add ((x5_1).toNat * 9)).block, (ad228.add ((x5_1).toNat * 9)).off + 7, none⟩ = some (.string ((rd_T69 l0 x5_1).f7)) ∧ w'.cell? ⟨(ad228.add ((x5_1).toNat * 9)).block, (ad228.add ((x5_1).toNat * 9)).off + 8, none⟩ = some (.slice A228_8 ((rd_T69 l0 x5_1).f8).length c228_8) ∧ w'.cell? (ad229.add ((x5_1).toNat * 9)) = some (.int .i64 ((rd_T69 l1 x5_1).f0)) ∧ w'.cell? ⟨(ad229.add ((x5_1).toNat * 9)).block, (ad229.add ((x5_1).toNat * 9)).off + 1, none⟩ = some (.int .i64 ((rd_T69 l1 x5_1).f1)) ∧ w'.cell? ⟨(ad229.add ((x5_1).toNat * 9)).block, (ad229.add ((x5_1).toNat * 9)).off + 2, none⟩ = some (.int .i64 ((rd_T69 l1 x5_1).f2)) ∧ w'.cell? ⟨(ad229.add ((x5_1).toNat * 9)).block, (ad229.add ((x5_1).toNat * 9)).off + 3, none⟩ = some (.int .i64 ((rd_T69 l1 x5_1).f3)) ∧ w'.cell? ⟨(ad229.add ((x5_1).toNat * 9)).block, (ad229.add ((x5_1).toNat * 9)).off + 4, none⟩ = some (.int .i64 ((rd_T69 l1 x5_1).f4)) ∧ w'.cell? ⟨(ad229.add ((x5_1).toNat * 9)).block, (ad229.add ((x5_1).toNat * 9)).off + 5, none⟩ = some (.string ((rd_T69 l1 x5_1).f5)) ∧ w'.cell? ⟨(ad229.add ((x5_1).toNat * 9)).block, (ad229.add ((x5_1).toNat * 9)).off + 6, none⟩ = some (.string ((rd_T69 l1 x5_1).f6)) ∧ w'.cell? ⟨(ad229.add ((x5_1).toNat * 9)).block, (ad229.add ((x5_1).toNat * 9)).off + 7, none⟩ = some (.string ((rd_T69 l1 x5_1).f7)) ∧ w'.cell? ⟨(ad229.add ((x5_1).toNat * 9)).block, (ad229.add ((x5_1).toNat * 9)).off + 8, none⟩ = some (.slice A229_8 ((rd_T69 l1 x5_1).f8).length c229_8)) (ds := []) (Array.replicate 10 false) (by kernel_rfl) rfl rfl ⟨(cl HB.out hw228_0), (cl HB.out hw228_1), (cl HB.out hw228_2), (cl HB.out hw228_3), (cl HB.out hw228_4), (cl HB.out hw228_5), (cl HB.out hw228_6), (cl HB.out hw228_7), (cl HB.out hw228_8), (cl HB.out hw229_0), (cl HB.out hw229_1), (cl HB.out hw229_2), (cl HB.out hw229_3), (cl HB.out hw229_4), (cl HB.out hw229_5), (cl HB.out hw229_6), (cl HB.out hw229_7), (cl HB.out hw229_8)⟩ (fun hHeld => ?_); refine with_tabW frisketref36_SameMarks.tab6 frisketref36_SameMarks.bits6 (fun HT_ HW_ => ?_)
        generalize wr.drew = w9 at HB HR228_8 HR229_8 hx228_0 hx228_1 hx228_2 hx228_3 hx228_4 hx228_5 hx228_6 hx228_7 hx228_8 hx229_0 hx229_1 hx229_2 hx229_3 hx229_4 hx229_5 hx229_6 hx229_7 hx229_8 hHeld ⊢
        refine go_in [0, 1, 2, 4, 5, 6, 3, 7] ?_
        repeat (first | (refine pz (v := ?_) (a' := ?_) HT_ rfl rfl (by kernel_rfl) (fun _ _ _ h => h) (Or.inl ⟨by rfl, ?_⟩) ?_ ?_; rotate_left; (focus intro w'; go_simp; with_reducible rfl); rotate_left; (focus simp only [Act.put, List.setIfInBounds_toArray, List.set_cons_zero, List.set_cons_succ, i64_w, i32_w, u8_w, u8_tm, u8_c, u8_cm]; rfl)) | (refine tz (v := ?_) (a' := ?_) HT_ HW_ rfl rfl hHeld (by kernel_rfl) (fun _ _ _ h => h) (Or.inl ⟨by rfl, ?_⟩) ?_ ?_; rotate_left; (focus rintro w' ⟨s0, s1, s2, s3, s4, s5, s6, s7, s8, s9, s10, s11, s12, s13, s14, s15, s16, s17⟩; go_simp; with_reducible rfl); rotate_left; (focus simp only [Act.put, List.setIfInBounds_toArray, List.set_cons_zero, List.set_cons_succ, i64_w, i32_w, u8_w, u8_tm, u8_c, u8_cm]; rfl)))
        refine go_out ?_
        refine one_ (i := 8) (N := some 25) (fl 10 9 []) rfl rfl (one_of HT_.out (by kernel_rfl)) (by decide) (fun K hK => ?_)
        refine goes_ Try.func31 (by kernel_rfl) rfl #[.agg #[.int .i64 ((rd_T69 l0 x5_1).f0), .int .i64 ((rd_T69 l0 x5_1).f1), .int .i64 ((rd_T69 l0 x5_1).f2), .int .i64 ((rd_T69 l0 x5_1).f3), .int .i64 ((rd_T69 l0 x5_1).f4), .string ((rd_T69 l0 x5_1).f5), .string ((rd_T69 l0 x5_1).f6), .string ((rd_T69 l0 x5_1).f7), .slice A228_8 ((rd_T69 l0 x5_1).f8).length c228_8], .agg #[.int .i64 ((rd_T69 l1 x5_1).f0), .int .i64 ((rd_T69 l1 x5_1).f1), .int .i64 ((rd_T69 l1 x5_1).f2), .int .i64 ((rd_T69 l1 x5_1).f3), .int .i64 ((rd_T69 l1 x5_1).f4), .string ((rd_T69 l1 x5_1).f5), .string ((rd_T69 l1 x5_1).f6), .string ((rd_T69 l1 x5_1).f7), .slice A229_8 ((rd_T69 l1 x5_1).f8).length c229_8]] (by rfl) rfl rfl (by (try simp only [List.map_toArray, List.map_cons, List.map_nil]); first | done | rfl | (simp only [List.length_drop, List.length_take]; rfl)) ?_
        with_reducible refine (frisketref36_SameMark.calls k1 ((rd_T69 l0 x5_1).f0) ((rd_T69 l0 x5_1).f1) ((rd_T69 l0 x5_1).f2) ((rd_T69 l0 x5_1).f3) ((rd_T69 l0 x5_1).f4) ((rd_T69 l0 x5_1).f5) ((rd_T69 l0 x5_1).f6) ((rd_T69 l0 x5_1).f7) _ _ ((rd_T69 l0 x5_1).f8) ((rd_T69 l1 x5_1).f0) ((rd_T69 l1 x5_1).f1) ((rd_T69 l1 x5_1).f2) ((rd_T69 l1 x5_1).f3) ((rd_T69 l1 x5_1).f4) ((rd_T69 l1 x5_1).f5) ((rd_T69 l1 x5_1).f6) ((rd_T69 l1 x5_1).f7) _ _ ((rd_T69 l1 x5_1).f8) true _ ?side1 ?side2 ?side3 ?side4 A7.out).mono ?_
        (case side1 => repeat (first | exact (Kd.C_below HR228_8.out HB.out) | (with_reducible refine q18 ?_ _) | (with_reducible refine q19 ?_ _) | (with_reducible refine q20 ?_)))
        (case side2 => exact HC228_8.out)
        (case side3 => repeat (first | exact (Kd.C_below HR229_8.out HB.out) | (with_reducible refine q18 ?_ _) | (with_reducible refine q19 ?_ _) | (with_reducible refine q20 ?_)))
        (case side4 => exact HC229_8.out)
        rintro e w10 ⟨rfl, hb⟩
        refine ⟨_, rfl, ?_⟩
        have n0_ := q13 (q12 (gB HB) hb)
        clear HB
        have HB := n0_
        clear n0_
        (try clear hb)
        (try clear hb2)
        (try clear hk)
        (try clear hi)
        refine hK.out _ _ ⟨(cl HB.out hw228_0), (cl HB.out hw228_1), (cl HB.out hw228_2), (cl HB.out hw228_3), (cl HB.out hw228_4), (cl HB.out hw228_5), (cl HB.out hw228_6), (cl HB.out hw228_7), (cl HB.out hw228_8), (cl HB.out hw229_0), (cl HB.out hw229_1), (cl HB.out hw229_2), (cl HB.out hw229_3), (cl HB.out hw229_4), (cl HB.out hw229_5), (cl HB.out hw229_6), (cl HB.out hw229_7), (cl HB.out hw229_8)⟩ (fun hHeld => ?_)
        clear hK K
        refine norm_ (a' := ?_) ?_ ?_
        rotate_left
        ·show Act.put _ (some 25) _ = _
         simp only [Act.put, List.setIfInBounds_toArray, List.set_cons_zero, List.set_cons_succ, i64_w, i32_w]
         rfl
        refine go_in [9] ?_
        (refine pz (v := ?_) (a' := ?_) HT_ rfl rfl (by kernel_rfl) (fun _ _ _ h => h) (Or.inl ⟨by rfl, ?_⟩) ?_ ?_; rotate_left; (focus intro w'; go_simp; with_reducible rfl); rotate_left; (focus simp only [Act.put, List.setIfInBounds_toArray, List.set_cons_zero, List.set_cons_succ, i64_w, i32_w, u8_w, u8_tm, u8_c, u8_cm]; rfl))
        refine go_out ?_
        refine done_ (done_of HT_.out (by kernel_rfl)) ?_
        try go_wp2
        go_roundg k1
        case measure => have := HK1.out; omega
        case rel => exact ⟨(wrap64 (x5_1 + 1)), (by first | rfl | (simp; done) | (simp [*]; done)), H', ⟨by have := HK1.out; omega⟩, ⟨gB HB⟩⟩
       ·replace c8 := Bool.eq_false_iff.mpr c8
        subst c8
        have H1 : (some false) = some r := by rw [if_neg (show ¬ (false = true) by decide)] at H; exact H
        clear H
        have H := H1
        clear H1
        obtain rfl := Option.some.inj H
        try go_wp2
        have n0_ := q13 (q5 HB.out)
        clear HB
        have HB := n0_
        clear n0_
        have p228 : 0 ≤ (x5_1 : Int) := q15 (by assumption)
        have q228 : x5_1 < (l0.length : Int) := q15 (by assumption)
        obtain ⟨ad228, A228_8, c228_8, e228, hx228_0, hx228_1, hx228_2, hx228_3, hx228_4, hx228_5, hx228_6, hx228_7, hx228_8, hl228_8, hi228_8⟩ := at_T69 HR0.out x5_1 p228 q228
        have hw228_8 := hx228_8
        have hw228_7 := hx228_7
        have hw228_6 := hx228_6
        have hw228_5 := hx228_5
        have hw228_4 := hx228_4
        have hw228_3 := hx228_3
        have hw228_2 := hx228_2
        have hw228_1 := hx228_1
        have hw228_0 := hx228_0
        cases e228
        replace hx228_0 := cl HB.out hx228_0
        replace hx228_1 := cl HB.out hx228_1
        replace hx228_2 := cl HB.out hx228_2
        replace hx228_3 := cl HB.out hx228_3
        replace hx228_4 := cl HB.out hx228_4
        replace hx228_5 := cl HB.out hx228_5
        replace hx228_6 := cl HB.out hx228_6
        replace hx228_7 := cl HB.out hx228_7
        replace hx228_8 := cl HB.out hx228_8
        have HR228_8 := q13 hi228_8
        have HC228_8 := q13 hl228_8
        clear hi228_8 hl228_8
        replace p228 := eq_true p228
        replace q228 := eq_true q228
        have p229 : 0 ≤ (x5_1 : Int) := q15 (by assumption)
        have q229 : x5_1 < (l1.length : Int) := q15 (by assumption)
        obtain ⟨ad229, A229_8, c229_8, e229, hx229_0, hx229_1, hx229_2, hx229_3, hx229_4, hx229_5, hx229_6, hx229_7, hx229_8, hl229_8, hi229_8⟩ := at_T69 HR1.out x5_1 p229 q229
        have hw229_8 := hx229_8
        have hw229_7 := hx229_7
        have hw229_6 := hx229_6
        have hw229_5 := hx229_5
        have hw229_4 := hx229_4
        have hw229_3 := hx229_3
        have hw229_2 := hx229_2
        have hw229_1 := hx229_1
        have hw229_0 := hx229_0
        cases e229
        replace hx229_0 := cl HB.out hx229_0
        replace hx229_1 := cl HB.out hx229_1
        replace hx229_2 := cl HB.out hx229_2
        replace hx229_3 := cl HB.out hx229_3
        replace hx229_4 := cl HB.out hx229_4
        replace hx229_5 := cl HB.out hx229_5
        replace hx229_6 := cl HB.out hx229_6
        replace hx229_7 := cl HB.out hx229_7
        replace hx229_8 := cl HB.out hx229_8
        have HR229_8 := q13 hi229_8
        have HC229_8 := q13 hl229_8
        clear hi229_8 hl229_8
        replace p229 := eq_true p229
        replace q229 := eq_true q229
        refine start_ (n := 10) (S := fun w' => w'.cell? (ad228.add ((x5_1).toNat * 9)) = some (.int .i64 ((rd_T69 l0 x5_1).f0)) ∧ w'.cell? ⟨(ad228.add ((x5_1).toNat * 9)).block, (ad228.add ((x5_1).toNat * 9)).off + 1, none⟩ = some (.int .i64 ((rd_T69 l0 x5_1).f1)) ∧ w'.cell? ⟨(ad228.add ((x5_1).toNat * 9)).block, (ad228.add ((x5_1).toNat * 9)).off + 2, none⟩ = some (.int .i64 ((rd_T69 l0 x5_1).f2)) ∧ w'.cell? ⟨(ad228.add ((x5_1).toNat * 9)).block, (ad228.add ((x5_1).toNat * 9)).off + 3, none⟩ = some (.int .i64 ((rd_T69 l0 x5_1).f3)) ∧ w'.cell? ⟨(ad228.add ((x5_1).toNat * 9)).block, (ad228.add ((x5_1).toNat * 9)).off + 4, none⟩ = some (.int .i64 ((rd_T69 l0 x5_1).f4)) ∧ w'.cell? ⟨(ad228.add ((x5_1).toNat * 9)).block, (ad228.add ((x5_1).toNat * 9)).off + 5, none⟩ = some (.string ((rd_T69 l0 x5_1).f5)) ∧ w'.cell? ⟨(ad228.add ((x5_1).toNat * 9)).block, (ad228.add ((x5_1).toNat * 9)).off + 6, none⟩ = some (.string ((rd_T69 l0 x5_1).f6)) ∧ w'.cell? ⟨(ad228.add ((x5_1).toNat * 9)).block, (ad228.add ((x5_1).toNat * 9)).off + 7, none⟩ = some (.string ((rd_T69 l0 x5_1).f7)) ∧ w'.cell? ⟨(ad228.add ((x5_1).toNat * 9)).block, (ad228.add ((x5_1).toNat * 9)).off + 8, none⟩ = some (.slice A228_8 ((rd_T69 l0 x5_1).f8).length c228_8) ∧ w'.cell? (ad229.add ((x5_1).toNat * 9)) = some (.int .i64 ((rd_T69 l1 x5_1).f0)) ∧ w'.cell? ⟨(ad229.add ((x5_1).toNat * 9)).block, (ad229.add ((x5_1).toNat * 9)).off + 1, none⟩ = some (.int .i64 ((rd_T69 l1 x5_1).f1)) ∧ w'.cell? ⟨(ad229.add ((x5_1).toNat * 9)).block, (ad229.add ((x5_1).toNat * 9)).off + 2, none⟩ = some (.int .i64 ((rd_T69 l1 x5_1).f2)) ∧ w'.cell? ⟨(ad229.add ((x5_1).toNat * 9)).block, (ad229.add ((x5_1).toNat * 9)).off + 3, none⟩ = some (.int .i64 ((rd_T69 l1 x5_1).f3)) ∧ w'.cell? ⟨(ad229.add ((x5_1).toNat * 9)).block, (ad229.add ((x5_1).toNat * 9)).off + 4, none⟩ = some (.int .i64 ((rd_T69 l1 x5_1).f4)) ∧ w'.cell? ⟨(ad229.add ((x5_1).toNat * 9)).block, (ad229.add ((x5_1).toNat * 9)).off + 5, none⟩ = some (.string ((rd_T69 l1 x5_1).f5)) ∧ w'.cell? ⟨(ad229.add ((x5_1).toNat * 9)).block, (ad229.add ((x5_1).toNat * 9)).off + 6, none⟩ = some (.string ((rd_T69 l1 x5_1).f6)) ∧ w'.cell? ⟨(ad229.add ((x5_1).toNat * 9)).block, (ad229.add ((x5_1).toNat * 9)).off + 7, none⟩ = some (.string ((rd_T69 l1 x5_1).f7)) ∧ w'.cell? ⟨(ad229.add ((x5_1).toNat * 9)).block, (ad229.add ((x5_1).toNat * 9)).off + 8, none⟩ = some (.slice A229_8 ((rd_T69 l1 x5_1).f8).length c229_8)) (ds := []) (Array.replicate 10 false) (by kernel_rfl) rfl rfl ⟨(cl HB.out hw228_0), (cl HB.out hw228_1), (cl HB.out hw228_2), (cl HB.out hw228_3), (cl HB.out hw228_4), (cl HB.out hw228_5), (cl HB.out hw228_6), (cl HB.out hw228_7), (cl HB.out hw228_8), (cl HB.out hw229_0), (cl HB.out hw229_1), (cl HB.out hw229_2), (cl HB.out hw229_3), (cl HB.out hw229_4), (cl HB.out hw229_5), (cl HB.out hw229_6), (cl HB.out hw229_7), (cl HB.out hw229_8)⟩ (fun hHeld => ?_); refine with_tabW frisketref36_SameMarks.tab6 frisketref36_SameMarks.bits6 (fun HT_ HW_ => ?_)
        generalize wr.drew = w11 at HB HR228_8 HR229_8 hx228_0 hx228_1 hx228_2 hx228_3 hx228_4 hx228_5 hx228_6 hx228_7 hx228_8 hx229_0 hx229_1 hx229_2 hx229_3 hx229_4 hx229_5 hx229_6 hx229_7 hx229_8 hHeld ⊢
        refine go_in [0, 1, 2, 4, 5, 6, 3, 7] ?_
        repeat (first | (refine pz (v := ?_) (a' := ?_) HT_ rfl rfl (by kernel_rfl) (fun _ _ _ h => h) (Or.inl ⟨by rfl, ?_⟩) ?_ ?_; rotate_left; (focus intro w'; go_simp; with_reducible rfl); rotate_left; (focus simp only [Act.put, List.setIfInBounds_toArray, List.set_cons_zero, List.set_cons_succ, i64_w, i32_w, u8_w, u8_tm, u8_c, u8_cm]; rfl)) | (refine tz (v := ?_) (a' := ?_) HT_ HW_ rfl rfl hHeld (by kernel_rfl) (fun _ _ _ h => h) (Or.inl ⟨by rfl, ?_⟩) ?_ ?_; rotate_left; (focus rintro w' ⟨s0, s1, s2, s3, s4, s5, s6, s7, s8, s9, s10, s11, s12, s13, s14, s15, s16, s17⟩; go_simp; with_reducible rfl); rotate_left; (focus simp only [Act.put, List.setIfInBounds_toArray, List.set_cons_zero, List.set_cons_succ, i64_w, i32_w, u8_w, u8_tm, u8_c, u8_cm]; rfl)))
        refine go_out ?_
        refine one_ (i := 8) (N := some 25) (fl 10 9 []) rfl rfl (one_of HT_.out (by kernel_rfl)) (by decide) (fun K hK => ?_)
        refine goes_ Try.func31 (by kernel_rfl) rfl #[.agg #[.int .i64 ((rd_T69 l0 x5_1).f0), .int .i64 ((rd_T69 l0 x5_1).f1), .int .i64 ((rd_T69 l0 x5_1).f2), .int .i64 ((rd_T69 l0 x5_1).f3), .int .i64 ((rd_T69 l0 x5_1).f4), .string ((rd_T69 l0 x5_1).f5), .string ((rd_T69 l0 x5_1).f6), .string ((rd_T69 l0 x5_1).f7), .slice A228_8 ((rd_T69 l0 x5_1).f8).length c228_8], .agg #[.int .i64 ((rd_T69 l1 x5_1).f0), .int .i64 ((rd_T69 l1 x5_1).f1), .int .i64 ((rd_T69 l1 x5_1).f2), .int .i64 ((rd_T69 l1 x5_1).f3), .int .i64 ((rd_T69 l1 x5_1).f4), .string ((rd_T69 l1 x5_1).f5), .string ((rd_T69 l1 x5_1).f6), .string ((rd_T69 l1 x5_1).f7), .slice A229_8 ((rd_T69 l1 x5_1).f8).length c229_8]] (by rfl) rfl rfl (by (try simp only [List.map_toArray, List.map_cons, List.map_nil]); first | done | rfl | (simp only [List.length_drop, List.length_take]; rfl)) ?_
        with_reducible refine (frisketref36_SameMark.calls k1 ((rd_T69 l0 x5_1).f0) ((rd_T69 l0 x5_1).f1) ((rd_T69 l0 x5_1).f2) ((rd_T69 l0 x5_1).f3) ((rd_T69 l0 x5_1).f4) ((rd_T69 l0 x5_1).f5) ((rd_T69 l0 x5_1).f6) ((rd_T69 l0 x5_1).f7) _ _ ((rd_T69 l0 x5_1).f8) ((rd_T69 l1 x5_1).f0) ((rd_T69 l1 x5_1).f1) ((rd_T69 l1 x5_1).f2) ((rd_T69 l1 x5_1).f3) ((rd_T69 l1 x5_1).f4) ((rd_T69 l1 x5_1).f5) ((rd_T69 l1 x5_1).f6) ((rd_T69 l1 x5_1).f7) _ _ ((rd_T69 l1 x5_1).f8) false _ ?side1 ?side2 ?side3 ?side4 A7.out).mono ?_
        (case side1 => repeat (first | exact (Kd.C_below HR228_8.out HB.out) | (with_reducible refine q18 ?_ _) | (with_reducible refine q19 ?_ _) | (with_reducible refine q20 ?_)))
        (case side2 => exact HC228_8.out)
        (case side3 => repeat (first | exact (Kd.C_below HR229_8.out HB.out) | (with_reducible refine q18 ?_ _) | (with_reducible refine q19 ?_ _) | (with_reducible refine q20 ?_)))
        (case side4 => exact HC229_8.out)
        rintro e w12 ⟨rfl, hb⟩
        refine ⟨_, rfl, ?_⟩
        have n0_ := q13 (q12 (gB HB) hb)
        clear HB
        have HB := n0_
        clear n0_
        (try clear hb)
        (try clear hb2)
        (try clear hk)
        (try clear hi)
        refine hK.out _ _ ⟨(cl HB.out hw228_0), (cl HB.out hw228_1), (cl HB.out hw228_2), (cl HB.out hw228_3), (cl HB.out hw228_4), (cl HB.out hw228_5), (cl HB.out hw228_6), (cl HB.out hw228_7), (cl HB.out hw228_8), (cl HB.out hw229_0), (cl HB.out hw229_1), (cl HB.out hw229_2), (cl HB.out hw229_3), (cl HB.out hw229_4), (cl HB.out hw229_5), (cl HB.out hw229_6), (cl HB.out hw229_7), (cl HB.out hw229_8)⟩ (fun hHeld => ?_)
        clear hK K
        refine norm_ (a' := ?_) ?_ ?_
        rotate_left
        ·show Act.put _ (some 25) _ = _
         simp only [Act.put, List.setIfInBounds_toArray, List.set_cons_zero, List.set_cons_succ, i64_w, i32_w]
         rfl
        refine go_in [9] ?_
        (refine pz (v := ?_) (a' := ?_) HT_ rfl rfl (by kernel_rfl) (fun _ _ _ h => h) (Or.inl ⟨by rfl, ?_⟩) ?_ ?_; rotate_left; (focus intro w'; go_simp; with_reducible rfl); rotate_left; (focus simp only [Act.put, List.setIfInBounds_toArray, List.set_cons_zero, List.set_cons_succ, i64_w, i32_w, u8_w, u8_tm, u8_c, u8_cm]; rfl))
        refine go_out ?_
        refine done_ (done_of HT_.out (by kernel_rfl)) ?_
        try go_wp2
        go_ret
        exact ⟨by first | rfl | (simp [errW_none, errW_some] <;> rfl) | (simp [*, errW_none, errW_some] <;> rfl), gB HB⟩
      ·rw [if_neg c6] at H
       exact absurd H (by simp)
     ·rw [if_neg c5] at H
      exact absurd H (by simp)
    ·rw [if_neg c4] at H
     have c4b0 : decide (x5_1 < (l0.length : Int)) = false := decide_eq_false c4
     clear c4
     obtain rfl := Option.some.inj H
     go_wp2
     go_ret
     exact ⟨by first | rfl | (simp [errW_none, errW_some] <;> rfl) | (simp [*, errW_none, errW_some] <;> rfl), gB HB⟩
 ·rw [if_neg c3] at H
  have c3b0 : ((l0.length : Int) == (l1.length : Int)) = false := beq_eq_false_iff_ne.mpr c3
  have c3b1 : ((l0.length : Int) != (l1.length : Int)) = true := bne_iff_ne.mpr c3
  have c3b2 : (l0.length == l1.length) = false := by first | simpa using c3 | (simp at c3 ⊢; omega)
  obtain rfl := Option.some.inj H
  go_enter Try.func12, Try.ntmps12
  go_wp2
  go_ret
  exact ⟨by first | rfl | (simp [errW_none, errW_some] <;> rfl) | (simp [*, errW_none, errW_some] <;> rfl), gB HB⟩

def frisketlaw36_row.l0 : Nat → List Int → List (S69) → Int → Option ((List (S69)))
 | 0, _, _, _ => none
 | k + 1, x0, x3, x4 => if x4 < (x0.length : Int) then (if 0 ≤ x4 then (if x3.length < 1256584717458 then (frisketlaw36_row.l0 k x0 (x3 ++ [(⟨1, wrap64 (Int.tmod (rd x0 x4) 3), 0, 0, 10, (⟨#[]⟩ : ByteArray), (⟨#[97]⟩ : ByteArray), (⟨#[]⟩ : ByteArray), ([] : List Int)⟩ : S69)]) (wrap64 (x4 + 1))) else (none)) else (none)) else (some x3)
def frisketlaw36_row.f (k : Nat) (l0 : List Int) : Option ((List (S69))) := frisketlaw36_row.l0 k l0 ([] : List (S69)) 0
theorem frisketlaw36_row.mono_l : ∀ k, (∀ y0 y1 y2, LeO (frisketlaw36_row.l0 k y0 y1 y2) (frisketlaw36_row.l0 (k + 1) y0 y1 y2))
 | 0 => fun _ _ _ r h => by simp [frisketlaw36_row.l0] at h
 | k + 1 => by
  have ih0 := frisketlaw36_row.mono_l k
  ·intro y0 y1 y2
   unfold frisketlaw36_row.l0
   repeat' first
   | (with_reducible exact ih0 _ _ _)
   | (with_reducible exact LeO.refl _)
   | (with_reducible exact LeO.none _)
   | (with_reducible refine LeO.ite ?_ ?_)
   | (with_reducible refine LeO.bind ?_ (fun _ => ?_))
   | exact ih0 _ _ _
   | exact LeO.none _
   | refine LeO.ite ?_ ?_
   | refine LeO.bind ?_ (fun _ => ?_)
theorem frisketlaw36_row.mono : ∀ a0 k, LeO (frisketlaw36_row.f k a0) (frisketlaw36_row.f (k + 1) a0) := by
 intro a0 k
 have ih0 := frisketlaw36_row.mono_l k
 unfold frisketlaw36_row.f
 repeat' first
   | (with_reducible exact ih0 _ _ _)
   | (with_reducible exact LeO.refl _)
   | (with_reducible exact LeO.none _)
   | (with_reducible refine LeO.ite ?_ ?_)
   | (with_reducible refine LeO.bind ?_ (fun _ => ?_))
   | exact ih0 _ _ _
   | exact LeO.none _
   | refine LeO.ite ?_ ?_
   | refine LeO.bind ?_ (fun _ => ?_)
set_option maxHeartbeats 8000000 in
set_option maxRecDepth 100000 in
theorem frisketlaw36_row.calls (k : Nat) (A0 : Option Addr) (c0 : Nat) (l0 : List Int) (r : List (S69)) (w : World) (hr0 : Kd.C (Kd.int .u8) w A0 l0.length l0) (hc0 : l0.length ≤ c0) (h : frisketlaw36_row.f k l0 = some r) :
  Calls Try.prog 15 #[.slice A0 l0.length c0] w fun e w' => ∃ v0_ : Value, e = .returned (v0_) ∧ Kd.S k69 69 w' w.heap.size (fun _ => True) v0_ r ∧ Below w.heap.size w w' := by
 have hu69 := Try.underlying69
 have HR0 := q13 hr0
 have HC0 := q13 hc0
 clear hr0 hc0
 have HB := q13 (Below.refl w.heap.size w)
 have H : (frisketlaw36_row.l0 k l0 ([] : List (S69)) 0) = some r := h
 clear h
 have H' := q13 H
 clear H
 go_enter Try.func15, Try.ntmps15
 go_wp2
 go_loopg [3, 4] k (fun kq v3 v4 w' => ∃ (x3_1 : List (S69)) (x4_1 : Int), v4 = .int .i64 x4_1 ∧ Aside0 (frisketlaw36_row.l0 kq l0 x3_1 x4_1 = some r) ∧ Aside0 (kq ≤ k) ∧ Aside0 (Kd.S k69 69 w' w.heap.size (fun _ => True) v3 x3_1) ∧ Aside0 (Below w.heap.size w w'))
 case atStart => exact ⟨(([] : List (S69))), (0), (by first | rfl | (simp; done) | (simp [*]; done)), H', ⟨q17 _⟩, ⟨by first | exact Kd.S_nil _ _ _ _ _ | exact Kd.N_nil _ _ _ _ _ | exact Kd.V_nil _ _ _ _ _ | exact Kd.Q_nil _ _ _ _ _ | exact Kd.R_nil _ _ _ _ _⟩, ⟨gB HB⟩⟩
 case round =>
  clear H'
  try clear c1
  obtain ⟨x3_1, x4_1, rfl, HA, HK1, HO_3, HB⟩ := hrel
  cases gk with
  | zero => exact absurd HA.out (by simp [frisketlaw36_row.l0])
  | succ k1 =>
   have H := HA.out
   clear HA
   simp only [frisketlaw36_row.l0] at H
   by_cases c2 : x4_1 < (l0.length : Int)
   ·rw [if_pos c2] at H
    have c2b0 : decide (x4_1 < (l0.length : Int)) = true := decide_eq_true c2
    clear c2
    by_cases c3 : 0 ≤ x4_1
    ·rw [if_pos c3] at H
     have c3b0 : decide (0 ≤ x4_1) = true := decide_eq_true c3
     clear c3
     by_cases c4 : x3_1.length < 1256584717458
     ·rw [if_pos c4] at H
      have LMc4 := q13 c4
      clear c4
      obtain ⟨y232, hy232⟩ : ∃ y_ : List (S69), y_ = (x3_1 ++ [(⟨1, wrap64 (Int.tmod (rd l0 x4_1) 3), 0, 0, 10, (⟨#[]⟩ : ByteArray), (⟨#[97]⟩ : ByteArray), (⟨#[]⟩ : ByteArray), ([] : List Int)⟩ : S69)]) := ⟨_, rfl⟩
      replace H : (frisketlaw36_row.l0 k1 l0 y232 (wrap64 (x4_1 + 1))) = some r := by first | (rw [hy232]; with_reducible exact H) | (have H2_ := (Option.bind_some _ _).symm.trans H; rw [hy232]; with_reducible exact H2_) | (have H2_ := (Option.bind_some _ _).symm.trans H; with_reducible exact H2_) | with_reducible exact H | (rw [hy232]; exact H) | exact H
      have Ny232 := q13 hy232
      clear hy232
      have H' := q13 H
      clear H
      have p231 : 0 ≤ (x4_1 : Int) := q15 (by assumption)
      have q231 : x4_1 < (l0.length : Int) := q15 (by assumption)
      obtain ⟨ad231, e231, hx231_0⟩ := Kd.at_int HR0.out x4_1 p231 q231
      cases e231
      replace hx231_0 := cl HB.out hx231_0
      replace p231 := eq_true p231
      replace q231 := eq_true q231
      go_wp2_with (first | ((with_reducible refine gate_builtin (b := .append) (xs := #[.tmp 11, .tmp 19]) rfl ?_); at_builtin; refine Kd.S_append k69 (w0 := w) w.heap.size rfl (.tmp 11) (.tmp 19) 22 69 (.agg #[(.int .i64 0), (.int .i64 0), (.int .i64 0), (.int .i64 0), (.int .i64 0), (.string ⟨#[]⟩), (.string ⟨#[]⟩), (.string ⟨#[]⟩), (.slice none 0 0)]) 112 rfl Try.underlying22 info69 rfl (by decide) (by omega) u3 x3_1 (⟨1, wrap64 (Int.tmod (rd l0 x4_1) 3), 0, 0, 10, (⟨#[]⟩ : ByteArray), (⟨#[97]⟩ : ByteArray), (⟨#[]⟩ : ByteArray), ([] : List Int)⟩ : S69) [.int .i64 1, .int .i64 (wrap64 (Int.tmod (rd l0 x4_1) 3)), .int .i64 0, .int .i64 0, .int .i64 10, .string (⟨#[]⟩ : ByteArray), .string (⟨#[97]⟩ : ByteArray), .string (⟨#[]⟩ : ByteArray), .slice none 0 0] (fun _ => True) (fun _ => False) rfl rfl ?aP (fun k_ hk_ => hk_.elim) ?aF ?aO ?aB ?aS ?aL ?_; (case aP => exact k69_mkM _ _ _ (⟨1, wrap64 (Int.tmod (rd l0 x4_1) 3), 0, 0, 10, (⟨#[]⟩ : ByteArray), (⟨#[97]⟩ : ByteArray), (⟨#[]⟩ : ByteArray), ([] : List Int)⟩ : S69) (Kd.R_nil _ _ _ _ _)); (case aB => exact (gB HB)); (case aF => exact (fun _ _ => trivial)); (case aO => exact (by (with_reducible repeat (first | apply q31 | apply q32 | apply q33)); exact Kd.S_mono HO_3.out (fun k_ hk => ⟨trivial, fun e_ => e_⟩))); (case aS => exact (q7 (gB HB))); (case aL => have := LMc4.out; omega); intro v233 w5 ho hb hg hat; rw [← Ny232.out] at ho; have n0_ := q13 (hb); have n1_ := q13 (ho); clear HB; clear HO_3; have HB := n0_; have HO234 := n1_; clear n0_ n1_; clear ho hb hg hat))
      go_roundg k1
      case measure => have := HK1.out; omega
      case rel => exact ⟨(y232), (wrap64 (x4_1 + 1)), (by first | rfl | (simp; done) | (simp [*]; done)), H', ⟨by have := HK1.out; omega⟩, ⟨by (with_reducible repeat (first | apply q31 | apply q32 | apply q33)); exact HO234.out⟩, ⟨gB HB⟩⟩
     ·rw [if_neg c4] at H
      exact absurd H (by simp)
    ·rw [if_neg c3] at H
     exact absurd H (by simp)
   ·rw [if_neg c2] at H
    have c2b0 : decide (x4_1 < (l0.length : Int)) = false := decide_eq_false c2
    clear c2
    obtain rfl := Option.some.inj H
    go_wp2
    go_ret
    exact ⟨_, by first | rfl | (simp [errW_none, errW_some] <;> rfl) | (simp [*, errW_none, errW_some] <;> rfl), by (with_reducible repeat (first | apply q31 | apply q32 | apply q33)); exact HO_3.out, gB HB⟩

def api_Mark_39.f (l0 : List (S69)) : Option ((List (S69))) := (some (([] : List (S69)) : List (S69))).bind fun y235 => (if y235.length + l0.length < 1256584717458 then (some (y235 ++ l0)) else (none))
set_option maxHeartbeats 8000000 in
set_option maxRecDepth 100000 in
theorem api_Mark_39.calls (P0_ : Nat → Prop) (A0 : Option Addr) (c0 : Nat) (l0 : List (S69)) (r : List (S69)) (w : World) (hs0 : Kd.V k69 69 w w.heap.size (fun k_ => P0_ k_) (.slice A0 l0.length c0) l0) (h : api_Mark_39.f l0 = some r) :
  Calls Try.prog 39 #[.slice A0 l0.length c0] w fun e w' => ∃ v0_ : Value, e = .returned (v0_) ∧ Kd.N k69 69 w' w.heap.size (fun k_ => (P0_ k_ ∨ w.heap.size ≤ k_)) v0_ r ∧ Below w.heap.size w w' := by
  have q22 : ∀ (w : World) (a : Option Addr) (n c n' c' : Nat), (binOp .eql 22 (.slice a n c) (.slice none n' c')).run Try.prog w = .ok (.bool a.isNone) w := fun w a n c n' c' => Lib.run_eql_slice_nil w _ _ a n c n' c' Try.underlying22
  cases A0 with
  | none =>
    have e0 : l0 = [] := by
      have hc := (Kd.V_reads' hs0).2.2
      cases hl : l0 with
      | nil => rfl
      | cons x y => obtain ⟨ad, h1, _⟩ := hc.2.2 (by rw [hl]; exact Nat.succ_pos _); cases h1
    subst e0
    obtain rfl : [] = r := by
      have h2 := h
      simp [api_Mark_39.f] at h2
      exact h2.symm
    clear h hs0
    go_enter Try.func39, Try.ntmps39
    go_wp2
    go_ret
    exact ⟨_, rfl, Kd.N_nil _ _ _ _ _, Below.refl _ _⟩
  | some A0 =>
   have HO0 := q13 (show Kd.V k69 69 w w.heap.size (fun k_ => (P0_ k_ ∨ w.heap.size ≤ k_)) (.slice (some A0) l0.length c0) l0 from Kd.V_mono hs0 (fun k_ hk => .inl hk))
   have HB := q13 (Below.refl w.heap.size w)
   have H : ((some (([] : List (S69)) : List (S69))).bind fun y235 => (if y235.length + l0.length < 1256584717458 then (some (y235 ++ l0)) else (none))) = some r := h
   clear h
   obtain ⟨y235, hy235⟩ : ∃ y_ : List (S69), y_ = (([] : List (S69))) := ⟨_, rfl⟩
   replace H : (if y235.length + l0.length < 1256584717458 then (some (y235 ++ l0)) else (none)) = some r := by first | (rw [hy235]; with_reducible exact H) | (have H2_ := (Option.bind_some _ _).symm.trans H; rw [hy235]; with_reducible exact H2_) | (have H2_ := (Option.bind_some _ _).symm.trans H; with_reducible exact H2_) | with_reducible exact H | (rw [hy235]; exact H) | exact H
   have Ny235 := q13 hy235
   clear hy235
   by_cases c2 : y235.length + l0.length < 1256584717458
   ·rw [if_pos c2] at H
    have LMc2 := q13 c2
    clear c2
    obtain ⟨y238, hy238⟩ : ∃ y_ : List (S69), y_ = (y235 ++ l0) := ⟨_, rfl⟩
    replace H : (some y238) = some r := by first | (rw [hy238]; with_reducible exact H) | (have H2_ := (Option.bind_some _ _).symm.trans H; rw [hy238]; with_reducible exact H2_) | (have H2_ := (Option.bind_some _ _).symm.trans H; with_reducible exact H2_) | with_reducible exact H | (rw [hy238]; exact H) | exact H
    have Ny238 := q13 hy238
    clear hy238
    obtain rfl := Option.some.inj H
    go_enter Try.func39, Try.ntmps39
    go_wp2_with (first | ((with_reducible refine gate_dst (N := 5) rfl ?_); refine Kd.N_lit k69 _ 69 ?hg (N' := 5) ?hd (xs := ([] : List (S69))) (inner := []) (ok := (fun k_ => (P0_ k_ ∨ w.heap.size ≤ k_))) (okp := (fun k_ => (P0_ k_ ∨ w.heap.size ≤ k_))) ?hr ?hp (fun _ hk => hk) ((show ∀ k_, w.heap.size ≤ k_ → (fun k_ => (P0_ k_ ∨ w.heap.size ≤ k_)) k_ from fun k_ hk => (.inr (Nat.le_trans (q7 (gB HB)) hk))) _ (q17 _)) (Below.refl _ _) (q17 _) (by simp) ?_; (case hd => rfl); (case hg => rfl); (case hr => first | (go_simp; done) | (go_simp; rfl)); (case hp => exact (Reps.none _ _)); intro v236 w3 ho4 hb hg_ hnew_; clear hg_ hnew_; (first | rw [← Ny235.out] at ho4 | (simp only [Int.reduceToNat] at ho4; rw [← Ny235.out] at ho4)); have n0_ := q13 (Kd.V_elder' (gV HO0) (by first | exact q43 ho4 | exact q44 ho4 | exact Kd.S_base ho4) hb); have n1_ := q13 (Kd.N_lower ho4 (q7 (gB HB))); have n2_ := q13 (q12 (gB HB) hb); clear HO0; clear HB; have HO0 := n0_; have HO237 := n1_; have HB := n2_; clear n0_ n1_ n2_; clear hb ho4) | ((with_reducible refine gate_builtin (b := .append) (xs := #[.tmp 5, .tmp 6]) rfl ?_); at_builtin; refine Kd.N_append_rows k69 (w0 := w) w.heap.size rfl (.tmp 5) (.tmp 6) 22 69 (.agg #[(.int .i64 0), (.int .i64 0), (.int .i64 0), (.int .i64 0), (.int .i64 0), (.string ⟨#[]⟩), (.string ⟨#[]⟩), (.string ⟨#[]⟩), (.slice none 0 0)]) 112 rfl Try.underlying22 info69 rfl (by decide) (by omega) v236 y235 l0 _ _ _ (fun k_ => (P0_ k_ ∨ w.heap.size ≤ k_)) (fun k_ => ((fun k_ => (P0_ k_ ∨ w.heap.size ≤ k_))) k_ ∧ some k_ ≠ (v236 : Value).ownBlock) rfl rfl ?aO ?aR (fun _ hk => hk) ?aF ?aB ?aS ?aL ?_; (case aR => exact (by skip; exact Kd.V_F (Kd.V_mono (ok' := (fun k_ => ((fun k_ => (P0_ k_ ∨ w.heap.size ≤ k_))) k_ ∧ some k_ ≠ (v236 : Value).ownBlock)) (HO0.out) (fun k_ hk => ⟨hk.1, hk.2⟩)))); (case aB => exact (gB HB)); (case aF => exact (fun k_ hk => (.inr (Nat.le_trans (q7 (gB HB)) hk)))); (case aO => exact (gN HO237)); (case aS => exact (q7 (gB HB))); (case aL => have := LMc2.out; omega); intro v239 w5 ho hb hg hat; rw [← Ny238.out] at ho; have n0_ := q13 (Kd.V_afterv (ok := (fun k_ => (P0_ k_ ∨ w.heap.size ≤ k_))) (gV HO0) hg hat); have n1_ := q13 (hb); have n2_ := q13 (ho); clear HO0; clear HB; clear HO237; have HO0 := n0_; have HB := n1_; have HO240 := n2_; clear n0_ n1_ n2_; clear ho hb hg hat))
    go_ret
    exact ⟨_, by first | rfl | (simp [errW_none, errW_some] <;> rfl) | (simp [*, errW_none, errW_some] <;> rfl), by (with_reducible repeat (first | apply Kd.N_alloc | apply Kd.N_drewN | apply Kd.N_drew)); exact HO240.out, gB HB⟩
   ·rw [if_neg c2] at H
    exact absurd H (by simp)

def slices_Clone_int_int.f (l0 : List Int) : Option (List Int) := (some (([] : List Int) : List Int)).bind fun y241 => (if y241.length + l0.length < 17592186044416 then (some (y241 ++ l0)) else (none))
set_option maxHeartbeats 8000000 in
set_option maxRecDepth 100000 in
theorem slices_Clone_int_int.calls (A0 : Option Addr) (c0 : Nat) (l0 : List Int) (r : List Int) (w : World) (hr0 : Kd.C (Kd.int .i64) w A0 l0.length l0) (hc0 : l0.length ≤ c0) (h : slices_Clone_int_int.f l0 = some r) :
  Calls Try.prog 40 #[.slice A0 l0.length c0] w fun e w' => ∃ v0_ : Value, e = .returned (v0_) ∧ Kd.R (Kd.int .i64) 3 w' w.heap.size (fun _ => True) v0_ r ∧ Below w.heap.size w w' := by
  have q67 : ∀ (w : World) (a : Option Addr) (n c n' c' : Nat), (binOp .eql 67 (.slice a n c) (.slice none n' c')).run Try.prog w = .ok (.bool a.isNone) w := fun w a n c n' c' => Lib.run_eql_slice_nil w _ _ a n c n' c' Try.underlying67
  cases A0 with
  | none =>
    have e0 : l0 = [] := by
      have hc := hr0
      cases hl : l0 with
      | nil => rfl
      | cons x y => obtain ⟨ad, h1, _⟩ := hc.2.2 (by rw [hl]; exact Nat.succ_pos _); cases h1
    subst e0
    obtain rfl : [] = r := by
      have h2 := h
      simp [slices_Clone_int_int.f] at h2
      exact h2.symm
    clear h hr0 hc0
    go_enter Try.func40, Try.ntmps40
    go_wp2
    go_ret
    exact ⟨_, rfl, Kd.R_nil _ _ _ _ _, Below.refl _ _⟩
  | some A0 =>
   have HR0 := q13 hr0
   have HC0 := q13 hc0
   clear hr0 hc0
   have HB := q13 (Below.refl w.heap.size w)
   have H : ((some (([] : List Int) : List Int)).bind fun y241 => (if y241.length + l0.length < 17592186044416 then (some (y241 ++ l0)) else (none))) = some r := h
   clear h
   obtain ⟨y241, hy241⟩ : ∃ y_ : List Int, y_ = (([] : List Int)) := ⟨_, rfl⟩
   replace H : (if y241.length + l0.length < 17592186044416 then (some (y241 ++ l0)) else (none)) = some r := by first | (rw [hy241]; with_reducible exact H) | (have H2_ := (Option.bind_some _ _).symm.trans H; rw [hy241]; with_reducible exact H2_) | (have H2_ := (Option.bind_some _ _).symm.trans H; with_reducible exact H2_) | with_reducible exact H | (rw [hy241]; exact H) | exact H
   have Ny241 := q13 hy241
   clear hy241
   by_cases c2 : y241.length + l0.length < 17592186044416
   ·rw [if_pos c2] at H
    have LMc2 := q13 c2
    clear c2
    obtain ⟨y244, hy244⟩ : ∃ y_ : List Int, y_ = (y241 ++ l0) := ⟨_, rfl⟩
    replace H : (some y244) = some r := by first | (rw [hy244]; with_reducible exact H) | (have H2_ := (Option.bind_some _ _).symm.trans H; rw [hy244]; with_reducible exact H2_) | (have H2_ := (Option.bind_some _ _).symm.trans H; with_reducible exact H2_) | with_reducible exact H | (rw [hy244]; exact H) | exact H
    have Ny244 := q13 hy244
    clear hy244
    obtain rfl := Option.some.inj H
    go_enter Try.func40, Try.ntmps40
    go_wp2_with (first | ((with_reducible refine gate_dst (N := 5) rfl ?_); refine Kd.R_lit (Kd.int .i64) _ 3 ?hg (N := 5) ?hd (xs := ([] : List Int)) (inner := []) (ok := fun _ => True) (okp := fun _ => True) ?hr ?hp (fun _ hk => hk) trivial (Below.refl _ _) (q17 _) (by simp) ?_; (case hd => rfl); (case hg => rfl); (case hr => first | (go_simp; done) | (go_simp; rfl)); (case hp => exact (Reps.none _ _)); intro v242 w3 ho4 hb hg_ hnew_; clear hg_ hnew_; (first | rw [← Ny241.out] at ho4 | (simp only [Int.reduceToNat] at ho4; rw [← Ny241.out] at ho4)); have n0_ := q13 (Kd.R_lower ho4 (q7 (gB HB))); have n1_ := q13 (q12 (gB HB) hb); clear HB; have HO243 := n0_; have HB := n1_; clear n0_ n1_; clear hb ho4) | ((with_reducible refine gate_builtin (b := .append) (xs := #[.tmp 5, .tmp 6]) rfl ?_); at_builtin; refine Kd.R_append_rows (Kd.int .i64) (w0 := w) w.heap.size rfl (.tmp 5) (.tmp 6) 67 3 (.int .i64 0) 8 rfl Try.underlying67 info3 rfl (by decide) (by omega) v242 y241 l0 _ _ _ (fun _ => True) (fun _ => False) rfl rfl ?aO ?aR (fun _ _ h => h) (fun _ h => h.elim) ?aF ?aB ?aS ?aL ?_; (case aR => repeat (first | exact (Kd.C_below HR0.out HB.out) | (with_reducible refine q18 ?_ _) | (with_reducible refine q19 ?_ _) | (with_reducible refine q20 ?_))); (case aB => exact (gB HB)); (case aF => exact (fun _ _ => trivial)); (case aO => exact (gR HO243)); (case aS => exact (q7 (gB HB))); (case aL => have := LMc2.out; omega); intro v245 w5 ho hb hg hat; rw [← Ny244.out] at ho; have n0_ := q13 (hb); have n1_ := q13 (ho); clear HB; clear HO243; have HB := n0_; have HO246 := n1_; clear n0_ n1_; clear ho hb hg hat))
    go_ret
    exact ⟨_, by first | rfl | (simp [errW_none, errW_some] <;> rfl) | (simp [*, errW_none, errW_some] <;> rfl), by (with_reducible repeat (first | apply Kd.R_alloc | apply Kd.R_drewN | apply Kd.R_drew)); exact HO246.out, gB HB⟩
   ·rw [if_neg c2] at H
    exact absurd H (by simp)

def compare_own.l0 : Nat → List (S69) → Int → Int → Option ((List (S69)))
 | 0, _, _, _ => none
 | k + 1, x3, x8, x9 => if x9 < x8 then (if 0 ≤ x9 then (if x9 < (x3.length : Int) then ((slices_Clone_int_int.f ((rd_T69 x3 x9).f8)).bind fun t251 => (compare_own.l0 k (x3.set (x9 : Int).toNat (⟨(rd_T69 x3 x9).f0, (rd_T69 x3 x9).f1, (rd_T69 x3 x9).f2, (rd_T69 x3 x9).f3, (rd_T69 x3 x9).f4, (rd_T69 x3 x9).f5, (rd_T69 x3 x9).f6, (rd_T69 x3 x9).f7, t251⟩ : S69)) x8 (wrap64 (x9 + 1)))) else (none)) else (none)) else (some x3)
def compare_own.f (k : Nat) (l0 : List (S69)) : Option ((List (S69))) := (api_Mark_39.f l0).bind fun t247 => (compare_own.l0 k t247 (t247.length : Int) 0)
theorem compare_own.mono_l : ∀ k, (∀ y0 y1 y2, LeO (compare_own.l0 k y0 y1 y2) (compare_own.l0 (k + 1) y0 y1 y2))
 | 0 => fun _ _ _ r h => by simp [compare_own.l0] at h
 | k + 1 => by
  have ih0 := compare_own.mono_l k
  ·intro y0 y1 y2
   unfold compare_own.l0
   repeat' first
   | (with_reducible exact ih0 _ _ _)
   | (with_reducible exact LeO.refl _)
   | (with_reducible exact LeO.none _)
   | (with_reducible refine LeO.ite ?_ ?_)
   | (with_reducible refine LeO.bind ?_ (fun _ => ?_))
   | exact ih0 _ _ _
   | exact LeO.none _
   | refine LeO.ite ?_ ?_
   | refine LeO.bind ?_ (fun _ => ?_)
theorem compare_own.mono : ∀ a0 k, LeO (compare_own.f k a0) (compare_own.f (k + 1) a0) := by
 intro a0 k
 have ih0 := compare_own.mono_l k
 unfold compare_own.f
 repeat' first
   | (with_reducible exact ih0 _ _ _)
   | (with_reducible exact LeO.refl _)
   | (with_reducible exact LeO.none _)
   | (with_reducible refine LeO.ite ?_ ?_)
   | (with_reducible refine LeO.bind ?_ (fun _ => ?_))
   | exact ih0 _ _ _
   | exact LeO.none _
   | refine LeO.ite ?_ ?_
   | refine LeO.bind ?_ (fun _ => ?_)
set_option maxHeartbeats 8000000 in
set_option maxRecDepth 100000 in
theorem compare_own.calls (k : Nat) (P0_ : Nat → Prop) (A0 : Option Addr) (c0 : Nat) (l0 : List (S69)) (r : List (S69)) (w : World) (hs0 : Kd.V k69 69 w w.heap.size (fun k_ => P0_ k_) (.slice A0 l0.length c0) l0) (h : compare_own.f k l0 = some r) :
  Calls Try.prog 29 #[.slice A0 l0.length c0] w fun e w' => ∃ v0_ : Value, e = .returned (v0_) ∧ Kd.N k69 69 w' w.heap.size (fun k_ => (P0_ k_ ∨ w.heap.size ≤ k_)) v0_ r ∧ Below w.heap.size w w' := by
 have HO0 := q13 (show Kd.V k69 69 w w.heap.size (fun k_ => (P0_ k_ ∨ w.heap.size ≤ k_)) (.slice A0 l0.length c0) l0 from Kd.V_mono hs0 (fun k_ hk => .inl hk))
 have HB := q13 (Below.refl w.heap.size w)
 have H : ((api_Mark_39.f l0).bind fun t247 => (compare_own.l0 k t247 (t247.length : Int) 0)) = some r := h
 clear h
 replace H := Option.bind_eq_some_iff.mp H
 obtain ⟨t247, A20, H⟩ := H
 replace H : (compare_own.l0 k t247 (t247.length : Int) 0) = some r := H
 have A2 := q13 A20
 clear A20
 have H' := q13 H
 clear H
 go_enter Try.func29, Try.ntmps29
 go_wp2_with (first | ((with_reducible refine gate_callee (f := 39) rfl ?_); refine goesL_ (some 6) rfl rfl Try.func39 (by kernel_rfl) rfl #[.slice A0 l0.length c0] rfl (by (try simp only [List.map_toArray, List.map_cons, List.map_nil]); first | done | rfl | (simp only [List.length_drop, List.length_take]; rfl)) ?_; (with_reducible refine (api_Mark_39.calls (fun k_ => (P0_ k_ ∨ w.heap.size ≤ k_)) _ _ l0 t247 _ ?side1 A2.out).mono ?_); (case side1 => exact HO0.out); rintro e w3 ⟨v248, rfl, ho0, hb⟩; refine ⟨_, rfl, ?_⟩; have n0_ := q13 (Kd.V_elder' (gV HO0) (by first | exact q43 ho0 | exact q44 ho0 | exact Kd.S_base ho0) hb); have n1_ := q13 (Kd.N_lower (Kd.N_mono (ok' := fun k_ => (P0_ k_ ∨ w.heap.size ≤ k_)) ho0 (fun k_ hk_ => Or.elim hk_ (fun hs_ => hs_) (fun hn_ => (.inr (Nat.le_trans (q7 (gB HB)) hn_))))) (q7 (gB HB))); have n2_ := q13 (q12 (gB HB) hb); clear HO0; clear HB; have HO0 := n0_; have HO249 := n1_; have HB := n2_; clear n0_ n1_ n2_; (try clear hb); (try clear hb2); (try clear hk); (try clear hi); (try clear ho0); obtain ⟨Ao4, co4, eo4⟩ := Kd.N_slice HO249.out; subst eo4))
 go_loopg [9] k (fun kq v9 w' => ∃ (x3_1 : List (S69)) (x9_1 : Int), v9 = .int .i64 x9_1 ∧ Aside0 (compare_own.l0 kq x3_1 (t247.length : Int) x9_1 = some r) ∧ Aside0 (kq ≤ k) ∧ Aside0 (Kd.N k69 69 w' w.heap.size (fun k_ => (P0_ k_ ∨ w.heap.size ≤ k_)) (.slice Ao4 t247.length co4) x3_1) ∧ Aside0 (Below w.heap.size w w'))
 case atStart => exact ⟨(t247), (0), (by first | rfl | (simp; done) | (simp [*]; done)), H', ⟨q17 _⟩, ⟨by (with_reducible repeat (first | apply Kd.N_alloc | apply Kd.N_drewN | apply Kd.N_drew)); exact HO249.out⟩, ⟨gB HB⟩⟩
 case round =>
  clear H'
  try clear c2
  try clear p2
  try clear c3
  obtain ⟨x3_1, x9_1, rfl, HA, HK1, HO_3, HB⟩ := hrel
  have hl3_1 := (Kd.N_reads' HO_3.out).1
  rw [hl3_1] at HO_3
  (try simp only [hl3_1])
  cases gk with
  | zero => exact absurd HA.out (by simp [compare_own.l0])
  | succ k1 =>
   have H := HA.out
   clear HA
   simp only [compare_own.l0] at H
   by_cases c5 : x9_1 < (t247.length : Int)
   ·rw [if_pos c5] at H
    have c5b0 : decide (x9_1 < (t247.length : Int)) = true := decide_eq_true c5
    clear c5
    by_cases c6 : 0 ≤ x9_1
    ·rw [if_pos c6] at H
     have c6b0 : decide (0 ≤ x9_1) = true := decide_eq_true c6
     clear c6
     by_cases c7 : x9_1 < (x3_1.length : Int)
     ·rw [if_pos c7] at H
      have c7b0 : decide (x9_1 < (x3_1.length : Int)) = true := decide_eq_true c7
      clear c7
      replace H := Option.bind_eq_some_iff.mp H
      obtain ⟨t251, A80, H⟩ := H
      replace H : (compare_own.l0 k1 (x3_1.set (x9_1 : Int).toNat (⟨(rd_T69 x3_1 x9_1).f0, (rd_T69 x3_1 x9_1).f1, (rd_T69 x3_1 x9_1).f2, (rd_T69 x3_1 x9_1).f3, (rd_T69 x3_1 x9_1).f4, (rd_T69 x3_1 x9_1).f5, (rd_T69 x3_1 x9_1).f6, (rd_T69 x3_1 x9_1).f7, t251⟩ : S69)) (t247.length : Int) (wrap64 (x9_1 + 1))) = some r := H
      have A8 := q13 A80
      clear A80
      obtain ⟨y254, hy254⟩ : ∃ y_ : List (S69), y_ = (x3_1.set (x9_1 : Int).toNat (⟨(rd_T69 x3_1 x9_1).f0, (rd_T69 x3_1 x9_1).f1, (rd_T69 x3_1 x9_1).f2, (rd_T69 x3_1 x9_1).f3, (rd_T69 x3_1 x9_1).f4, (rd_T69 x3_1 x9_1).f5, (rd_T69 x3_1 x9_1).f6, (rd_T69 x3_1 x9_1).f7, t251⟩ : S69)) := ⟨_, rfl⟩
      replace H : (compare_own.l0 k1 y254 (t247.length : Int) (wrap64 (x9_1 + 1))) = some r := by first | (rw [hy254]; with_reducible exact H) | (have H2_ := (Option.bind_some _ _).symm.trans H; rw [hy254]; with_reducible exact H2_) | (have H2_ := (Option.bind_some _ _).symm.trans H; with_reducible exact H2_) | with_reducible exact H | (rw [hy254]; exact H) | exact H
      have Ny254 := q13 hy254
      clear hy254
      have H' := q13 H
      clear H
      have p250 : 0 ≤ (x9_1 : Int) := q15 (by assumption)
      have q250 : x9_1 < (x3_1.length : Int) := q15 (by assumption)
      obtain ⟨ad250, A250_8, c250_8, e250, hx250_0, hx250_1, hx250_2, hx250_3, hx250_4, hx250_5, hx250_6, hx250_7, hx250_8, hl250_8, hi250_8⟩ := at_T69 (Kd.N_reads' HO_3.out).2.2 x9_1 p250 q250
      cases e250
      obtain ⟨ce250, hce250, hMe250, hcc250⟩ := Kd.N_get HO_3.out z69 x9_1 p250 (by first | exact q250 | exact q15 (by assumption) | (have e_ := (Kd.N_reads' HO_3.out).1; omega))
      obtain ⟨ua250_8, uc250_8, rfl, ul250_8, ge250_8⟩ := k69_openF hMe250
      have hv250_8 := hcc250 8 _ rfl
      rw [add_field _ _ 8 (by omega)] at hv250_8
      replace hv250_8 := Option.some.inj (hv250_8.symm.trans hx250_8)
      injection hv250_8 with hva_ hvn_ hvc_
      rw [hva_] at ge250_8
      rw [hvc_] at ul250_8
      have HL250_8 := q13 (show Kd.V (Kd.int .i64) 3 _ w.heap.size _ _ ((rd_T69 x3_1 x9_1).f8) from Kd.V_mk ul250_8 ge250_8)
      clear hva_ hvn_ hvc_ ge250_8 ul250_8
      clear hcc250 hce250
      have HR250_8 := q13 hi250_8
      have HC250_8 := q13 hl250_8
      clear hi250_8 hl250_8
      replace p250 := eq_true p250
      replace q250 := eq_true q250
      go_wp2_with (first | ((with_reducible refine gate_callee (f := 40) rfl ?_); refine goesL_ (some 19) rfl rfl Try.func40 (by kernel_rfl) rfl #[.slice A250_8 ((rd_T69 x3_1 x9_1).f8).length c250_8] rfl (by (try simp only [List.map_toArray, List.map_cons, List.map_nil]); first | done | rfl | (simp only [List.length_drop, List.length_take]; rfl)) ?_; (with_reducible refine (slices_Clone_int_int.calls _ _ ((rd_T69 x3_1 x9_1).f8) t251 _ ?side1 ?side2 A8.out).mono ?_); (case side1 => repeat (first | exact (by repeat (first | (with_reducible exact HR250_8.out) | (with_reducible refine q18 ?_ _) | (with_reducible refine q19 ?_ _) | (with_reducible refine q20 ?_) | exact HR250_8.out)) | (with_reducible refine q18 ?_ _) | (with_reducible refine q19 ?_ _) | (with_reducible refine q20 ?_))); (case side2 => exact HC250_8.out); rintro e w10 ⟨v252, rfl, ho0, hb⟩; obtain ⟨Av_, cv_, ev_⟩ := Kd.R_slice ho0; subst ev_; refine ⟨_, rfl, ?_⟩; have n0_ := q13 (Kd.N_elder' (gN HO_3) (q44 ho0) hb); have n1_ := q13 (Kd.V_elder' (gV HL250_8) (q44 ho0) hb); have n2_ := q13 (Kd.R_lower (Kd.R_newM (M := fun k_ => (w.heap.size ≤ k_)) ho0 (q7 (gB HB)) (fun k_ h_ => h_)) (q7 (gB HB))); have n3_ := q13 (Kd.C_below (by repeat (first | (with_reducible exact HR250_8.out) | (with_reducible refine q18 ?_ _) | (with_reducible refine q19 ?_ _) | (with_reducible refine q20 ?_) | exact HR250_8.out)) hb); have n4_ := q13 (q12 (gB HB) hb); clear HO_3; clear HL250_8; clear HR250_8; clear HB; have HO_3 := n0_; have HL250_8 := n1_; have HO253 := n2_; have HR250_8 := n3_; have HB := n4_; clear n0_ n1_ n2_ n3_ n4_; (try clear hb); (try clear hb2); (try clear hk); (try clear hi); (try clear ho0); have p9 : 0 ≤ (x9_1 : Int) := q15 (by assumption); have q9 : (x9_1 : Int) < ((x3_1.length : Int) : Int) := q15 (by assumption); obtain ⟨go9, co9, eo9, gb9, gl9, cl9, HG9⟩ := Kd.N_form HO_3.out (by omega); (first | cases eo9 | (injection eo9 with ea_ en_ ec_; (first | subst ea_ | (injection ea_ with ea_; subst ea_)); subst ec_; clear en_)); have GB9 := q13 gb9; have GG9 := q13 HG9; clear gb9 gl9 HG9; (first | simp only [add_plain] at hx250_0 | skip); (first | simp only [add_plain] at hx250_1 | skip); (first | simp only [add_plain] at hx250_2 | skip); (first | simp only [add_plain] at hx250_3 | skip); (first | simp only [add_plain] at hx250_4 | skip); (first | simp only [add_plain] at hx250_5 | skip); (first | simp only [add_plain] at hx250_6 | skip); (first | simp only [add_plain] at hx250_7 | skip); (first | simp only [add_plain] at hx250_8 | skip); obtain ⟨ce9, hcl9, hM9, hcc9, hfr9⟩ := Kd.N_elem HO_3.out z69 (x9_1 : Int) p9 q9; obtain ⟨ua9_8, uc9_8, rfl, ul9_8, ge9_8⟩ := k69_openF hM9; have hx9_0 : w10.cell? ⟨go9, (x9_1 : Int).toNat * 9, none⟩ = some (.int .i64 ((rd_T69 x3_1 x9_1).f0)) := hcc9 0 _ rfl; have hx9_1 : w10.cell? ⟨go9, (x9_1 : Int).toNat * 9 + 1, none⟩ = some (.int .i64 ((rd_T69 x3_1 x9_1).f1)) := hcc9 1 _ rfl; have hx9_2 : w10.cell? ⟨go9, (x9_1 : Int).toNat * 9 + 2, none⟩ = some (.int .i64 ((rd_T69 x3_1 x9_1).f2)) := hcc9 2 _ rfl; have hx9_3 : w10.cell? ⟨go9, (x9_1 : Int).toNat * 9 + 3, none⟩ = some (.int .i64 ((rd_T69 x3_1 x9_1).f3)) := hcc9 3 _ rfl; have hx9_4 : w10.cell? ⟨go9, (x9_1 : Int).toNat * 9 + 4, none⟩ = some (.int .i64 ((rd_T69 x3_1 x9_1).f4)) := hcc9 4 _ rfl; have hx9_5 : w10.cell? ⟨go9, (x9_1 : Int).toNat * 9 + 5, none⟩ = some (.string ((rd_T69 x3_1 x9_1).f5)) := hcc9 5 _ rfl; have hx9_6 : w10.cell? ⟨go9, (x9_1 : Int).toNat * 9 + 6, none⟩ = some (.string ((rd_T69 x3_1 x9_1).f6)) := hcc9 6 _ rfl; have hx9_7 : w10.cell? ⟨go9, (x9_1 : Int).toNat * 9 + 7, none⟩ = some (.string ((rd_T69 x3_1 x9_1).f7)) := hcc9 7 _ rfl; have hx9_8 : w10.cell? ⟨go9, (x9_1 : Int).toNat * 9 + 8, none⟩ = some (.slice ua9_8 ((rd_T69 x3_1 x9_1).f8).length uc9_8) := hcc9 8 _ rfl; have hf9_0 : w10.frozen? ⟨go9, (x9_1 : Int).toNat * 9, none⟩ = false := hfr9 0; have hf9_1 : w10.frozen? ⟨go9, (x9_1 : Int).toNat * 9 + 1, none⟩ = false := hfr9 1; have hf9_2 : w10.frozen? ⟨go9, (x9_1 : Int).toNat * 9 + 2, none⟩ = false := hfr9 2; have hf9_3 : w10.frozen? ⟨go9, (x9_1 : Int).toNat * 9 + 3, none⟩ = false := hfr9 3; have hf9_4 : w10.frozen? ⟨go9, (x9_1 : Int).toNat * 9 + 4, none⟩ = false := hfr9 4; have hf9_5 : w10.frozen? ⟨go9, (x9_1 : Int).toNat * 9 + 5, none⟩ = false := hfr9 5; have hf9_6 : w10.frozen? ⟨go9, (x9_1 : Int).toNat * 9 + 6, none⟩ = false := hfr9 6; have hf9_7 : w10.frozen? ⟨go9, (x9_1 : Int).toNat * 9 + 7, none⟩ = false := hfr9 7; have hf9_8 : w10.frozen? ⟨go9, (x9_1 : Int).toNat * 9 + 8, none⟩ = false := hfr9 8; clear hcl9 hcc9 hfr9 hM9; replace p9 := eq_true p9; replace q9 := eq_true q9; have HX11 := q13 (show Kd.N k69 69 w10 w.heap.size (fun k_ => (P0_ k_ ∨ w.heap.size ≤ k_)) (.slice (some ⟨go9, 0, none⟩) x3_1.length co4) x3_1 from (by (with_reducible repeat (first | apply Kd.N_alloc | apply Kd.N_drewN | apply Kd.N_drew)); exact Kd.N_mono HO_3.out (fun _ hk => hk.1))); obtain ⟨ce11, hcl11, hM11, hcc11, hfr11⟩ := Kd.N_elem HX11.out z69 (x9_1 : Int) (q15 (by assumption)) (by have h_ : (x9_1 : Int) < ((x3_1.length : Int) : Int) := q15 (by assumption); first | exact h_ | (have e_ := (Kd.N_reads' HO_3.out).1; omega) | simpa using h_); obtain ⟨ua11_8, uc11_8, rfl, ul11_8, ge11_8⟩ := k69_openF hM11; have HP11 := Kd.N_seg HX11.out (x9_1 : Int) (q15 (by assumption)) (by have h_ : (x9_1 : Int) < ((x3_1.length : Int) : Int) := q15 (by assumption); first | exact h_ | (have e_ := (Kd.N_reads' HO_3.out).1; omega) | simpa using h_) (seg := [(.slice Av_ t251.length cv_)]) (j := 8) hcl11 hcc11 (show 9 ≤ 9 from by decide) (x' := (⟨(rd_T69 x3_1 x9_1).f0, (rd_T69 x3_1 x9_1).f1, (rd_T69 x3_1 x9_1).f2, (rd_T69 x3_1 x9_1).f3, (rd_T69 x3_1 x9_1).f4, (rd_T69 x3_1 x9_1).f5, (rd_T69 x3_1 x9_1).f6, (rd_T69 x3_1 x9_1).f7, t251⟩ : S69)) (k69_mkF _ _ (⟨(rd_T69 x3_1 x9_1).f0, (rd_T69 x3_1 x9_1).f1, (rd_T69 x3_1 x9_1).f2, (rd_T69 x3_1 x9_1).f3, (rd_T69 x3_1 x9_1).f4, (rd_T69 x3_1 x9_1).f5, (rd_T69 x3_1 x9_1).f6, (rd_T69 x3_1 x9_1).f7, t251⟩ : S69) (Kd.R_reads' (Kd.R_mono (ok' := (fun k_ => ((fun k_ => (P0_ k_ ∨ w.heap.size ≤ k_))) k_ ∧ k_ ≠ go9)) (Kd.R_apart' (HO253.out) (Kd.N_typed HO_3.out) (by decide)) (fun k_ hk => ⟨(.inr (hk.1.1)), fun e_ => (hk.2) (by rw [e_]; rfl)⟩))).2.1 (Kd.R_F (Kd.R_mono (ok' := (fun k_ => ((fun k_ => (P0_ k_ ∨ w.heap.size ≤ k_))) k_ ∧ k_ ≠ go9)) (Kd.R_apart' (HO253.out) (Kd.N_typed HO_3.out) (by decide)) (fun k_ hk => ⟨(.inr (hk.1.1)), fun e_ => (hk.2) (by rw [e_]; rfl)⟩)))) (fun _ hk => hk); have hx11_8 := hcc11 8 _ rfl; (try simp only [show (k69).sz = 9 from rfl, Nat.mul_one, Nat.add_zero] at hx11_8); have hf11_8 := hfr11 8; (try simp only [show (k69).sz = 9 from rfl, Nat.mul_one, Nat.add_zero] at hf11_8); clear hcl11 hcc11 hfr11 hM11) | ((with_reducible refine gate_store (t := 67) (p := 21) rfl ?_); refine store_event (t := 67) (p := 21) (v := ?vo_w12) (w1 := (w10.setCell ⟨go9, (x9_1 : Int).toNat * 9 + 8, none⟩ ((.slice Av_ t251.length cv_)))) ?hg ?ho ?hn ?hr ?_; (case ho => rfl); (case hg => rfl); (case hn => rfl); (case hr => first | (go_simp; done) | (go_simp; rfl)); intro w12 hw; have hg : w10.grownBy w12 (some go9) := (by rw [hw]; exact HP11.2); have hp_ : Kd.N k69 69 w12 w.heap.size (fun k_ => (P0_ k_ ∨ w.heap.size ≤ k_)) (.slice (some ⟨go9, 0, none⟩) x3_1.length co4) y254 := (by rw [hw, Ny254.out]; exact HP11.1); clear HP11; have n0_ := q13 (hp_); have n1_ := q13 (Kd.V_afterv (v := (.slice (some ⟨go9, 0, none⟩) x3_1.length co4)) (v1 := (.slice (some ⟨go9, 0, none⟩) x3_1.length co4)) (ok := (fun k_ => (P0_ k_ ∨ w.heap.size ≤ k_) ∧ some k_ ≠ ((.slice Av_ t251.length cv_) : Value).ownBlock)) (by (with_reducible repeat (first | apply Kd.V_alloc | apply Kd.V_drewN | apply Kd.V_drew)); exact Kd.V_mono HL250_8.out (fun _ hk => ⟨⟨hk.1.1, hk.2⟩, hk.1.2⟩)) hg (.inl rfl)); have n2_ := q13 ((by rw [hw]; exact q6 (HB.out) GB9.out : Below w.heap.size w w12)); clear HO_3; clear HL250_8; clear HB; clear HO253; have HO_3 := n0_; have HL250_8 := n1_; have HB := n2_; clear n0_ n1_ n2_; clear hg hw hp_))
      (try simp only [← hl3_1])
      go_roundg k1
      case measure => have := HK1.out; omega
      case rel => exact ⟨(y254), (wrap64 (x9_1 + 1)), (by first | rfl | (simp; done) | (simp [*]; done)), H', ⟨by have := HK1.out; omega⟩, ⟨by (try simp only [hl3_1]); (with_reducible repeat (first | apply Kd.N_alloc | apply Kd.N_drewN | apply Kd.N_drew)); exact HO_3.out⟩, ⟨gB HB⟩⟩
     ·rw [if_neg c7] at H
      exact absurd H (by simp)
    ·rw [if_neg c6] at H
     exact absurd H (by simp)
   ·rw [if_neg c5] at H
    have c5b0 : decide (x9_1 < (t247.length : Int)) = false := decide_eq_false c5
    (try have c5b1 : decide (x9_1 < (x3_1.length : Int)) = false := by rw [← hl3_1]; exact c5b0)
    clear c5
    obtain rfl := Option.some.inj H
    go_wp2
    go_ret
    exact ⟨_, by first | rfl | (simp [errW_none, errW_some] <;> rfl) | (simp [*, errW_none, errW_some] <;> rfl), by (with_reducible repeat (first | apply Kd.N_alloc | apply Kd.N_drewN | apply Kd.N_drew)); exact HO_3.out, gB HB⟩

end Go.Proofs.Ytgjmljjnminefaa.QCP
