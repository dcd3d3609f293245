import Derived.Lib.SliceRun
import Derived.Test.YtgjmljjnminefaaQCompareAppliesx0
import Derived.Test.YtgjmljjnminefaaQCompareAppliesx9
import Derived.Test.YtgjmljjnminefaaArrEq
import Derived.Test.YtgjmljjnminefaaZip
import Derived.Test.YtgjmljjnminefaaZip2
namespace Go.Proofs.Ytgjmljjnminefaa.QCompareApplies
open Go.Proofs.Ytgjmljjnminefaa.Zip2 Go.Proofs.Ytgjmljjnminefaa.Zip Go.RowKit Go.Proofs.YtgjmljjnminefaaW.PrintWords Go.Proofs.YtgjmljjnminefaaW.PrintLast Go.Proofs.YtgjmljjnminefaaW.PrintMore
attribute [local go_sem] max2_int min2_int max_two min_two max_three min_three max_four min_four   -- for this text's walks alone
set_option linter.unusedVariables false
set_option linter.unusedSimpArgs false

def frisketref36_SameMarks.l0 : Nat → List (S69) → List (S69) → Int → Option (Bool)
 | 0, _, _, _ => none
 | k + 1, x0, x1, x5 => if x5 < (x0.length : Int) then (if 0 ≤ x5 then (if x5 < (x1.length : Int) then ((frisketref36_SameMark.f k ((rd_T69 x0 x5).f0) ((rd_T69 x0 x5).f1) ((rd_T69 x0 x5).f2) ((rd_T69 x0 x5).f3) ((rd_T69 x0 x5).f4) ((rd_T69 x0 x5).f5) ((rd_T69 x0 x5).f6) ((rd_T69 x0 x5).f7) ((rd_T69 x0 x5).f8) ((rd_T69 x1 x5).f0) ((rd_T69 x1 x5).f1) ((rd_T69 x1 x5).f2) ((rd_T69 x1 x5).f3) ((rd_T69 x1 x5).f4) ((rd_T69 x1 x5).f5) ((rd_T69 x1 x5).f6) ((rd_T69 x1 x5).f7) ((rd_T69 x1 x5).f8)).bind fun t235 => (if (t235 = true) then (frisketref36_SameMarks.l0 k x0 x1 (wrap64 (x5 + 1))) else (some false))) else (none)) else (none)) else (some true)
def frisketref36_SameMarks.f (k : Nat) (l0 : List (S69)) (l1 : List (S69)) : Option (Bool) := if (l0.length : Int) = (l1.length : Int) then (frisketref36_SameMarks.l0 k l0 l1 0) else (some false)
theorem frisketref36_SameMarks.mono_l : ∀ k, (∀ y0 y1 y2, LeO (frisketref36_SameMarks.l0 k y0 y1 y2) (frisketref36_SameMarks.l0 (k + 1) y0 y1 y2))
 | 0 => fun _ _ _ r h => by simp [frisketref36_SameMarks.l0] at h
 | k + 1 => by
  have ih0 := frisketref36_SameMarks.mono_l k
  ·intro y0 y1 y2
   unfold frisketref36_SameMarks.l0
   repeat' first
   | (with_reducible exact ih0 _ _ _)
   | (with_reducible exact frisketref36_SameMark.mono _ _ _ _ _ _ _ _ _ _ _ _ _ _ _ _ _ _ _)
   | (with_reducible exact LeO.refl _)
   | (with_reducible exact LeO.none _)
   | (with_reducible refine LeO.ite ?_ ?_)
   | (with_reducible refine LeO.bind ?_ (fun _ => ?_))
   | exact ih0 _ _ _
   | exact frisketref36_SameMark.mono _ _ _ _ _ _ _ _ _ _ _ _ _ _ _ _ _ _ _
   | exact LeO.none _
   | refine LeO.ite ?_ ?_
   | refine LeO.bind ?_ (fun _ => ?_)
theorem frisketref36_SameMarks.mono : ∀ a0 a1 k, LeO (frisketref36_SameMarks.f k a0 a1) (frisketref36_SameMarks.f (k + 1) a0 a1) := by
 intro a0 a1 k
 have ih0 := frisketref36_SameMarks.mono_l k
 unfold frisketref36_SameMarks.f
 repeat' first
   | (with_reducible exact ih0 _ _ _)
   | (with_reducible exact frisketref36_SameMark.mono _ _ _ _ _ _ _ _ _ _ _ _ _ _ _ _ _ _ _)
   | (with_reducible exact LeO.refl _)
   | (with_reducible exact LeO.none _)
   | (with_reducible refine LeO.ite ?_ ?_)
   | (with_reducible refine LeO.bind ?_ (fun _ => ?_))
   | exact ih0 _ _ _
   | exact frisketref36_SameMark.mono _ _ _ _ _ _ _ _ _ _ _ _ _ _ _ _ _ _ _
   | exact LeO.none _
   | refine LeO.ite ?_ ?_
   | refine LeO.bind ?_ (fun _ => ?_)
def frisketref36_SameMarks.T6 : Bool × List (List Nat × List Nat) := (true, [([], []), ([], []), ([0, 1], [0, 1]), ([2], [2]), ([], []), ([], []), ([4, 5], [4, 5]), ([6], [6]), ([3, 7], [3, 7]), ([8], [8])])
def frisketref36_SameMarks.B6 : List Nat := [0, 0, 3, 7, 0, 0, 48, 112, 255, 511]
theorem frisketref36_SameMarks.tab6 : rtab .any (opsOf Try.f12 6) = frisketref36_SameMarks.T6 := by kernel_rfl
theorem frisketref36_SameMarks.bits6 : waitsOk frisketref36_SameMarks.T6.2 frisketref36_SameMarks.B6 = true := by kernel_rfl
set_option maxHeartbeats 8000000 in
set_option maxRecDepth 100000 in
theorem frisketref36_SameMarks.calls (k : Nat) (A0 : Option Addr) (c0 : Nat) (l0 : List (S69)) (A1 : Option Addr) (c1 : Nat) (l1 : List (S69)) (r : Bool) (w : World) (hr0 : Kd.C k69 w A0 l0.length l0) (hc0 : l0.length ≤ c0) (hr1 : Kd.C k69 w A1 l1.length l1) (hc1 : l1.length ≤ c1) (h : frisketref36_SameMarks.f k l0 l1 = some r) :
  Calls Try.prog 12 #[.slice A0 l0.length c0, .slice A1 l1.length c1] w fun e w' => e = .returned (.bool r) ∧ Below w.heap.size w w' := by
 have hu69 := Try.underlying69
 have HR0 := q13 hr0
 have HC0 := q13 hc0
 clear hr0 hc0
 have HR1 := q13 hr1
 have HC1 := q13 hc1
 clear hr1 hc1
 have HB := q13 (Below.refl w.heap.size w)
 have H : (if (l0.length : Int) = (l1.length : Int) then (frisketref36_SameMarks.l0 k l0 l1 0) else (some false)) = some r := h
 clear h
 by_cases c3 : (l0.length : Int) = (l1.length : Int)
 ·rw [if_pos c3] at H
  have c3b0 : ((l0.length : Int) == (l1.length : Int)) = true := beq_iff_eq.mpr c3
  have c3b1 : ((l0.length : Int) != (l1.length : Int)) = false := bne_eq_false_iff_eq.mpr c3
  have c3b2 : (l0.length == l1.length) = true := by first | simpa using c3 | (simp at c3 ⊢; omega)
  clear c3
  have H' := q13 H
  clear H
  go_enter Try.func12, Try.ntmps12
  go_wp2
  go_loopg [5] k (fun kq v5 w' => ∃ (x5_1 : Int), v5 = .int .i64 x5_1 ∧ Aside0 (frisketref36_SameMarks.l0 kq l0 l1 x5_1 = some r) ∧ Aside0 (kq ≤ k) ∧ Aside0 (Below w.heap.size w w'))
  case atStart => exact ⟨(0), (by first | rfl | (simp; done) | (simp [*]; done)), H', ⟨q17 _⟩, ⟨gB HB⟩⟩
  case round =>
   clear H'
   try clear c1
   try clear p2
   try clear c3
   try clear c3b0
   try clear c3b1
   try clear c3b2
   obtain ⟨x5_1, rfl, HA, HK1, HB⟩ := hrel
   cases gk with
   | zero => exact absurd HA.out (by simp [frisketref36_SameMarks.l0])
   | succ k1 =>
    have H := HA.out
    clear HA
    simp only [frisketref36_SameMarks.l0] at H
    by_cases c4 : x5_1 < (l0.length : Int)
    ·rw [if_pos c4] at H
     have c4b0 : decide (x5_1 < (l0.length : Int)) = true := decide_eq_true c4
     clear c4
     by_cases c5 : 0 ≤ x5_1
     ·rw [if_pos c5] at H
      have c5b0 : decide (0 ≤ x5_1) = true := decide_eq_true c5
      clear c5
      by_cases c6 : x5_1 < (l1.length : Int)
      ·rw [if_pos c6] at H
       have c6b0 : decide (x5_1 < (l1.length : Int)) = true := decide_eq_true c6
       clear c6
       replace H := Option.bind_eq_some_iff.mp H
       obtain ⟨t235, A70, H⟩ := H
       replace H : (if (t235 = true) then (frisketref36_SameMarks.l0 k1 l0 l1 (wrap64 (x5_1 + 1))) else (some false)) = some r := H
       have A7 := q13 A70
       clear A70
       by_cases c8 : (t235 = true)
       ·subst c8
        have H1 : (frisketref36_SameMarks.l0 k1 l0 l1 (wrap64 (x5_1 + 1))) = some r := by rw [if_pos rfl] at H; exact H
        clear H
        have H := H1
        clear H1
        have H' := q13 H
        clear H
        try go_wp2
        have n0_ := q13 (q5 HB.out)
        clear HB
        have HB := n0_
        clear n0_
        have p233 : 0 ≤ (x5_1 : Int) := q15 (by assumption)
        have q233 : x5_1 < (l0.length : Int) := q15 (by assumption)
        obtain ⟨ad233, A233_8, c233_8, e233, hx233_0, hx233_1, hx233_2, hx233_3, hx233_4, hx233_5, hx233_6, hx233_7, hx233_8, hl233_8, hi233_8⟩ := at_T69 HR0.out x5_1 p233 q233
        have hw233_8 := hx233_8
        have hw233_7 := hx233_7
        have hw233_6 := hx233_6
        have hw233_5 := hx233_5
        have hw233_4 := hx233_4
        have hw233_3 := hx233_3
        have hw233_2 := hx233_2
        have hw233_1 := hx233_1
        have hw233_0 := hx233_0
        cases e233
        replace hx233_0 := cl HB.out hx233_0
        replace hx233_1 := cl HB.out hx233_1
        replace hx233_2 := cl HB.out hx233_2
        replace hx233_3 := cl HB.out hx233_3
        replace hx233_4 := cl HB.out hx233_4
        replace hx233_5 := cl HB.out hx233_5
        replace hx233_6 := cl HB.out hx233_6
        replace hx233_7 := cl HB.out hx233_7
        replace hx233_8 := cl HB.out hx233_8
        have HR233_8 := q13 hi233_8
        have HC233_8 := q13 hl233_8
        clear hi233_8 hl233_8
        replace p233 := eq_true p233
        replace q233 := eq_true q233
        have p234 : 0 ≤ (x5_1 : Int) := q15 (by assumption)
        have q234 : x5_1 < (l1.length : Int) := q15 (by assumption)
        obtain ⟨ad234, A234_8, c234_8, e234, hx234_0, hx234_1, hx234_2, hx234_3, hx234_4, hx234_5, hx234_6, hx234_7, hx234_8, hl234_8, hi234_8⟩ := at_T69 HR1.out x5_1 p234 q234
        have hw234_8 := hx234_8
        have hw234_7 := hx234_7
        have hw234_6 := hx234_6
        have hw234_5 := hx234_5
        have hw234_4 := hx234_4
        have hw234_3 := hx234_3
        have hw234_2 := hx234_2
        have hw234_1 := hx234_1
        have hw234_0 := hx234_0
        cases e234
        replace hx234_0 := cl HB.out hx234_0
        replace hx234_1 := cl HB.out hx234_1
        replace hx234_2 := cl HB.out hx234_2
        replace hx234_3 := cl HB.out hx234_3
        replace hx234_4 := cl HB.out hx234_4
        replace hx234_5 := cl HB.out hx234_5
        replace hx234_6 := cl HB.out hx234_6
        replace hx234_7 := cl HB.out hx234_7
        replace hx234_8 := cl HB.out hx234_8
        have HR234_8 := q13 hi234_8
        have HC234_8 := q13 hl234_8
        clear hi234_8 hl234_8
        replace p234 := eq_true p234
        replace q234 := eq_true q234
        refine start_ (n := 10) (S := fun w' => w'.cell? (ad233.add ((x5_1).toNat * 9)) = some (.int .i64 ((rd_T69 l0 x5_1).f0)) ∧ w'.cell? ⟨(ad233.add ((x5_1).toNat * 9)).block, (ad233.add ((x5_1).toNat * 9)).off + 1, none⟩ = some (.int .i64 ((rd_T69 l0 x5_1).f1)) ∧ w'.cell? ⟨(ad233.add ((x5_1).toNat * 9)).block, (ad233.add ((x5_1).toNat * 9)).off + 2, none⟩ = some (.int .i64 ((rd_T69 l0 x5_1).f2)) ∧ w'.cell? ⟨(ad233.add ((x5_1).toNat * 9)).block, (ad233.add ((x5_1).toNat * 9)).off + 3, none⟩ = some (.int .i64 ((rd_T69 l0 x5_1).f3)) ∧ w'.cell? ⟨(ad233.add ((x5_1).toNat * 9)).block, (ad233.add ((x5_1).toNat * 9)).off + 4, none⟩ = some (.int .i64 ((rd_T69 l0 x5_1).f4)) ∧ w'.cell? ⟨(ad233.add ((x5_1).toNat * 9)).block, (ad233.add ((x5_1).toNat * 9)).off + 5, none⟩ = some (.string ((rd_T69 l0 x5_1).f5)) ∧ w'.cell? ⟨(ad233.add ((x5_1).toNat * 9)).block, (ad233.add ((x5_1).toNat * 9)).off + 6, none⟩ = some (.string ((rd_T69 l0 x5_1).f6)) ∧ w'.cell? ⟨(ad233.add ((x5_1).toNat * 9)).block, (ad233.add ((x5_1).toNat * 9)).off + 7, none⟩ = some (.string ((rd_T69 l0 x5_1).f7)) ∧ w'.cell? ⟨(ad233.add ((x5_1).toNat * 9)).block, (ad233.add ((x5_1).toNat * 9)).off + 8, none⟩ = some (.slice A233_8 ((rd_T69 l0 x5_1).f8).length c233_8) ∧ w'.cell? (ad234.add ((x5_1).toNat * 9)) = some (.int .i64 ((rd_T69 l1 x5_1).f0)) ∧ w'.cell? ⟨(ad234.add ((x5_1).toNat * 9)).block, (ad234.add ((x5_1).toNat * 9)).off + 1, none⟩ = some (.int .i64 ((rd_T69 l1 x5_1).f1)) ∧ w'.cell? ⟨(ad234.add ((x5_1).toNat * 9)).block, (ad234.add ((x5_1).toNat * 9)).off + 2, none⟩ = some (.int .i64 ((rd_T69 l1 x5_1).f2)) ∧ w'.cell? ⟨(ad234.add ((x5_1).toNat * 9)).block, (ad234.add ((x5_1).toNat * 9)).off + 3, none⟩ = some (.int .i64 ((rd_T69 l1 x5_1).f3)) ∧ w'.cell? ⟨(ad234.add ((x5_1).toNat * 9)).block, (ad234.add ((x5_1).toNat * 9)).off + 4, none⟩ = some (.int .i64 ((rd_T69 l1 x5_1).f4)) ∧ w'.cell? ⟨(ad234.add ((x5_1).toNat * 9)).block, (ad234.add ((x5_1).toNat * 9)).off + 5, none⟩ = some (.string ((rd_T69 l1 x5_1).f5)) ∧ w'.cell? ⟨(ad234.add ((x5_1).toNat * 9)).block, (ad234.add ((x5_1).toNat * 9)).off + 6, none⟩ = some (.string ((rd_T69 l1 x5_1).f6)) ∧ w'.cell? ⟨(ad234.add ((x5_1).toNat * 9)).block, (ad234.add ((x5_1).toNat * 9)).off + 7, none⟩ = some (.string ((rd_T69 l1 x5_1).f7)) ∧ w'.cell? ⟨(ad234.add ((x5_1).toNat * 9)).block, (ad234.add ((x5_1).toNat * 9)).off + 8, none⟩ = some (.slice A234_8 ((rd_T69 l1 x5_1).f8).length c234_8)) (ds := []) (Array.replicate 10 false) (by kernel_rfl) rfl rfl ⟨(cl HB.out hw233_0), (cl HB.out hw233_1), (cl HB.out hw233_2), (cl HB.out hw233_3), (cl HB.out hw233_4), (cl HB.out hw233_5), (cl HB.out hw233_6), (cl HB.out hw233_7), (cl HB.out hw233_8), (cl HB.out hw234_0), (cl HB.out hw234_1), (cl HB.out hw234_2), (cl HB.out hw234_3), (cl HB.out hw234_4), (cl HB.out hw234_5), (cl HB.out hw234_6), (cl HB.out hw234_7), (cl HB.out hw234_8)⟩ (fun hHeld => ?_); refine with_tabW frisketref36_SameMarks.tab6 frisketref36_SameMarks.bits6 (fun HT_ HW_ => ?_)
        generalize wr.drew = w9 at HB HR233_8 HR234_8 hx233_0 hx233_1 hx233_2 hx233_3 hx233_4 hx233_5 hx233_6 hx233_7 hx233_8 hx234_0 hx234_1 hx234_2 hx234_3 hx234_4 hx234_5 hx234_6 hx234_7 hx234_8 hHeld ⊢
        refine go_in [0, 1, 2, 4, 5, 6, 3, 7] ?_
        repeat (first | (refine pz (v := ?_) (a' := ?_) HT_ rfl rfl (by kernel_rfl) (fun _ _ _ h => h) (Or.inl ⟨by rfl, ?_⟩) ?_ ?_; rotate_left; (focus intro w'; go_simp; with_reducible rfl); rotate_left; (focus simp only [Act.put, List.setIfInBounds_toArray, List.set_cons_zero, List.set_cons_succ, i64_w, i32_w, u8_w, u8_tm, u8_c, u8_cm]; rfl)) | (refine tz (v := ?_) (a' := ?_) HT_ HW_ rfl rfl hHeld (by kernel_rfl) (fun _ _ _ h => h) (Or.inl ⟨by rfl, ?_⟩) ?_ ?_; rotate_left; (focus rintro w' ⟨s0, s1, s2, s3, s4, s5, s6, s7, s8, s9, s10, s11, s12, s13, s14, s15, s16, s17⟩; go_simp; with_reducible rfl); rotate_left; (focus simp only [Act.put, List.setIfInBounds_toArray, List.set_cons_zero, List.set_cons_succ, i64_w, i32_w, u8_w, u8_tm, u8_c, u8_cm]; rfl)))
        refine go_out ?_
        refine one_ (i := 8) (N := some 25) (fl 10 9 []) rfl rfl (one_of HT_.out (by kernel_rfl)) (by decide) (fun K hK => ?_)
        refine goes_ Try.func31 (by kernel_rfl) rfl #[.agg #[.int .i64 ((rd_T69 l0 x5_1).f0), .int .i64 ((rd_T69 l0 x5_1).f1), .int .i64 ((rd_T69 l0 x5_1).f2), .int .i64 ((rd_T69 l0 x5_1).f3), .int .i64 ((rd_T69 l0 x5_1).f4), .string ((rd_T69 l0 x5_1).f5), .string ((rd_T69 l0 x5_1).f6), .string ((rd_T69 l0 x5_1).f7), .slice A233_8 ((rd_T69 l0 x5_1).f8).length c233_8], .agg #[.int .i64 ((rd_T69 l1 x5_1).f0), .int .i64 ((rd_T69 l1 x5_1).f1), .int .i64 ((rd_T69 l1 x5_1).f2), .int .i64 ((rd_T69 l1 x5_1).f3), .int .i64 ((rd_T69 l1 x5_1).f4), .string ((rd_T69 l1 x5_1).f5), .string ((rd_T69 l1 x5_1).f6), .string ((rd_T69 l1 x5_1).f7), .slice A234_8 ((rd_T69 l1 x5_1).f8).length c234_8]] (by rfl) rfl rfl (by (try simp only [List.map_toArray, List.map_cons, List.map_nil]); first | done | rfl | (simp only [List.length_drop, List.length_take]; rfl)) ?_
        with_reducible refine (frisketref36_SameMark.calls k1 ((rd_T69 l0 x5_1).f0) ((rd_T69 l0 x5_1).f1) ((rd_T69 l0 x5_1).f2) ((rd_T69 l0 x5_1).f3) ((rd_T69 l0 x5_1).f4) ((rd_T69 l0 x5_1).f5) ((rd_T69 l0 x5_1).f6) ((rd_T69 l0 x5_1).f7) _ _ ((rd_T69 l0 x5_1).f8) ((rd_T69 l1 x5_1).f0) ((rd_T69 l1 x5_1).f1) ((rd_T69 l1 x5_1).f2) ((rd_T69 l1 x5_1).f3) ((rd_T69 l1 x5_1).f4) ((rd_T69 l1 x5_1).f5) ((rd_T69 l1 x5_1).f6) ((rd_T69 l1 x5_1).f7) _ _ ((rd_T69 l1 x5_1).f8) true _ ?side1 ?side2 ?side3 ?side4 A7.out).mono ?_
        (case side1 => repeat (first | exact (Kd.C_below HR233_8.out HB.out) | (with_reducible refine q18 ?_ _) | (with_reducible refine q19 ?_ _) | (with_reducible refine q20 ?_)))
        (case side2 => exact HC233_8.out)
        (case side3 => repeat (first | exact (Kd.C_below HR234_8.out HB.out) | (with_reducible refine q18 ?_ _) | (with_reducible refine q19 ?_ _) | (with_reducible refine q20 ?_)))
        (case side4 => exact HC234_8.out)
        rintro e w10 ⟨rfl, hb⟩
        refine ⟨_, rfl, ?_⟩
        have n0_ := q13 (q12 (gB HB) hb)
        clear HB
        have HB := n0_
        clear n0_
        (try clear hb)
        (try clear hb2)
        (try clear hk)
        (try clear hi)
        refine hK.out _ _ ⟨(cl HB.out hw233_0), (cl HB.out hw233_1), (cl HB.out hw233_2), (cl HB.out hw233_3), (cl HB.out hw233_4), (cl HB.out hw233_5), (cl HB.out hw233_6), (cl HB.out hw233_7), (cl HB.out hw233_8), (cl HB.out hw234_0), (cl HB.out hw234_1), (cl HB.out hw234_2), (cl HB.out hw234_3), (cl HB.out hw234_4), (cl HB.out hw234_5), (cl HB.out hw234_6), (cl HB.out hw234_7), (cl HB.out hw234_8)⟩ (fun hHeld => ?_)
        clear hK K
        refine norm_ (a' := ?_) ?_ ?_
        rotate_left
        ·show Act.put _ (some 25) _ = _
         simp only [Act.put, List.setIfInBounds_toArray, List.set_cons_zero, List.set_cons_succ, i64_w, i32_w]
         rfl
        refine go_in [9] ?_
        (refine pz (v := ?_) (a' := ?_) HT_ rfl rfl (by kernel_rfl) (fun _ _ _ h => h) (Or.inl ⟨by rfl, ?_⟩) ?_ ?_; rotate_left; (focus intro w'; go_simp; with_reducible rfl); rotate_left; (focus simp only [Act.put, List.setIfInBounds_toArray, List.set_cons_zero, List.set_cons_succ, i64_w, i32_w, u8_w, u8_tm, u8_c, u8_cm]; rfl))
        refine go_out ?_
        refine done_ (done_of HT_.out (by kernel_rfl)) ?_
        try go_wp2
        go_roundg k1
        case measure => have := HK1.out; omega
        case rel => exact ⟨(wrap64 (x5_1 + 1)), (by first | rfl | (simp; done) | (simp [*]; done)), H', ⟨by have := HK1.out; omega⟩, ⟨gB HB⟩⟩
       ·replace c8 := Bool.eq_false_iff.mpr c8
        subst c8
        have H1 : (some false) = some r := by rw [if_neg (show ¬ (false = true) by decide)] at H; exact H
        clear H
        have H := H1
        clear H1
        obtain rfl := Option.some.inj H
        try go_wp2
        have n0_ := q13 (q5 HB.out)
        clear HB
        have HB := n0_
        clear n0_
        have p233 : 0 ≤ (x5_1 : Int) := q15 (by assumption)
        have q233 : x5_1 < (l0.length : Int) := q15 (by assumption)
        obtain ⟨ad233, A233_8, c233_8, e233, hx233_0, hx233_1, hx233_2, hx233_3, hx233_4, hx233_5, hx233_6, hx233_7, hx233_8, hl233_8, hi233_8⟩ := at_T69 HR0.out x5_1 p233 q233
        have hw233_8 := hx233_8
        have hw233_7 := hx233_7
        have hw233_6 := hx233_6
        have hw233_5 := hx233_5
        have hw233_4 := hx233_4
        have hw233_3 := hx233_3
        have hw233_2 := hx233_2
        have hw233_1 := hx233_1
        have hw233_0 := hx233_0
        cases e233
        replace hx233_0 := cl HB.out hx233_0
        replace hx233_1 := cl HB.out hx233_1
        replace hx233_2 := cl HB.out hx233_2
        replace hx233_3 := cl HB.out hx233_3
        replace hx233_4 := cl HB.out hx233_4
        replace hx233_5 := cl HB.out hx233_5
        replace hx233_6 := cl HB.out hx233_6
        replace hx233_7 := cl HB.out hx233_7
        replace hx233_8 := cl HB.out hx233_8
        have HR233_8 := q13 hi233_8
        have HC233_8 := q13 hl233_8
        clear hi233_8 hl233_8
        replace p233 := eq_true p233
        replace q233 := eq_true q233
        have p234 : 0 ≤ (x5_1 : Int) := q15 (by assumption)
        have q234 : x5_1 < (l1.length : Int) := q15 (by assumption)
        obtain ⟨ad234, A234_8, c234_8, e234, hx234_0, hx234_1, hx234_2, hx234_3, hx234_4, hx234_5, hx234_6, hx234_7, hx234_8, hl234_8, hi234_8⟩ := at_T69 HR1.out x5_1 p234 q234
        have hw234_8 := hx234_8
        have hw234_7 := hx234_7
        have hw234_6 := hx234_6
        have hw234_5 := hx234_5
        have hw234_4 := hx234_4
        have hw234_3 := hx234_3
        have hw234_2 := hx234_2
        have hw234_1 := hx234_1
        have hw234_0 := hx234_0
        cases e234
        replace hx234_0 := cl HB.out hx234_0
        replace hx234_1 := cl HB.out hx234_1
        replace hx234_2 := cl HB.out hx234_2
        replace hx234_3 := cl HB.out hx234_3
        replace hx234_4 := cl HB.out hx234_4
        replace hx234_5 := cl HB.out hx234_5
        replace hx234_6 := cl HB.out hx234_6
        replace hx234_7 := cl HB.out hx234_7
        replace hx234_8 := cl HB.out hx234_8
        have HR234_8 := q13 hi234_8
        have HC234_8 := q13 hl234_8
        clear hi234_8 hl234_8
        replace p234 := eq_true p234
        replace q234 := eq_true q234
        refine start_ (n := 10) (S := fun w' => w'.cell? (ad233.add ((x5_1).toNat * 9)) = some (.int .i64 ((rd_T69 l0 x5_1).f0)) ∧ w'.cell? ⟨(ad233.add ((x5_1).toNat * 9)).block, (ad233.add ((x5_1).toNat * 9)).off + 1, none⟩ = some (.int .i64 ((rd_T69 l0 x5_1).f1)) ∧ w'.cell? ⟨(ad233.add ((x5_1).toNat * 9)).block, (ad233.add ((x5_1).toNat * 9)).off + 2, none⟩ = some (.int .i64 ((rd_T69 l0 x5_1).f2)) ∧ w'.cell? ⟨(ad233.add ((x5_1).toNat * 9)).block, (ad233.add ((x5_1).toNat * 9)).off + 3, none⟩ = some (.int .i64 ((rd_T69 l0 x5_1).f3)) ∧ w'.cell? ⟨(ad233.add ((x5_1).toNat * 9)).block, (ad233.add ((x5_1).toNat * 9)).off + 4, none⟩ = some (.int .i64 ((rd_T69 l0 x5_1).f4)) ∧ w'.cell? ⟨(ad233.add ((x5_1).toNat * 9)).block, (ad233.add ((x5_1).toNat * 9)).off + 5, none⟩ = some (.string ((rd_T69 l0 x5_1).f5)) ∧ w'.cell? ⟨(ad233.add ((x5_1).toNat * 9)).block, (ad233.add ((x5_1).toNat * 9)).off + 6, none⟩ = some (.string ((rd_T69 l0 x5_1).f6)) ∧ w'.cell? ⟨(ad233.add ((x5_1).toNat * 9)).block, (ad233.add ((x5_1).toNat * 9)).off + 7, none⟩ = some (.string ((rd_T69 l0 x5_1).f7)) ∧ w'.cell? ⟨(ad233.add ((x5_1).toNat * 9)).block, (ad233.add ((x5_1).toNat * 9)).off + 8, none⟩ = some (.slice A233_8 ((rd_T69 l0 x5_1).f8).length c233_8) ∧ w'.cell? (ad234.add ((x5_1).toNat * 9)) = some (.int .i64 ((rd_T69 l1 x5_1).f0)) ∧ w'.cell? ⟨(ad234.add ((x5_1).toNat * 9)).block, (ad234.add ((x5_1).toNat * 9)).off + 1, none⟩ = some (.int .i64 ((rd_T69 l1 x5_1).f1)) ∧ w'.cell? ⟨(ad234.add ((x5_1).toNat * 9)).block, (ad234.add ((x5_1).toNat * 9)).off + 2, none⟩ = some (.int .i64 ((rd_T69 l1 x5_1).f2)) ∧ w'.cell? ⟨(ad234.add ((x5_1).toNat * 9)).block, (ad234.add ((x5_1).toNat * 9)).off + 3, none⟩ = some (.int .i64 ((rd_T69 l1 x5_1).f3)) ∧ w'.cell? ⟨(ad234.add ((x5_1).toNat * 9)).block, (ad234.add ((x5_1).toNat * 9)).off + 4, none⟩ = some (.int .i64 ((rd_T69 l1 x5_1).f4)) ∧ w'.cell? ⟨(ad234.add ((x5_1).toNat * 9)).block, (ad234.add ((x5_1).toNat * 9)).off + 5, none⟩ = some (.string ((rd_T69 l1 x5_1).f5)) ∧ w'.cell? ⟨(ad234.add ((x5_1).toNat * 9)).block, (ad234.add ((x5_1).toNat * 9)).off + 6, none⟩ = some (.string ((rd_T69 l1 x5_1).f6)) ∧ w'.cell? ⟨(ad234.add ((x5_1).toNat * 9)).block, (ad234.add ((x5_1).toNat * 9)).off + 7, none⟩ = some (.string ((rd_T69 l1 x5_1).f7)) ∧ w'.cell? ⟨(ad234.add ((x5_1).toNat * 9)).block, (ad234.add ((x5_1).toNat * 9)).off + 8, none⟩ = some (.slice A234_8 ((rd_T69 l1 x5_1).f8).length c234_8)) (ds := []) (Array.replicate 10 false) (by kernel_rfl) rfl rfl ⟨(cl HB.out hw233_0), (cl HB.out hw233_1), (cl HB.out hw233_2), (cl HB.out hw233_3), (cl HB.out hw233_4), (cl HB.out hw233_5), (cl HB.out hw233_6), (cl HB.out hw233_7), (cl HB.out hw233_8), (cl HB.out hw234_0), (cl HB.out hw234_1), (cl HB.out hw234_2), (cl HB.out hw234_3), (cl HB.out hw234_4), (cl HB.out hw234_5), (cl HB.out hw234_6), (cl HB.out hw234_7), (cl HB.out hw234_8)⟩ (fun hHeld => ?_); refine with_tabW frisketref36_SameMarks.tab6 frisketref36_SameMarks.bits6 (fun HT_ HW_ => ?_)
        generalize wr.drew = w11 at HB HR233_8 HR234_8 hx233_0 hx233_1 hx233_2 hx233_3 hx233_4 hx233_5 hx233_6 hx233_7 hx233_8 hx234_0 hx234_1 hx234_2 hx234_3 hx234_4 hx234_5 hx234_6 hx234_7 hx234_8 hHeld ⊢
        refine go_in [0, 1, 2, 4, 5, 6, 3, 7] ?_
        repeat (first | (refine pz (v := ?_) (a' := ?_) HT_ rfl rfl (by kernel_rfl) (fun _ _ _ h => h) (Or.inl ⟨by rfl, ?_⟩) ?_ ?_; rotate_left; (focus intro w'; go_simp; with_reducible rfl); rotate_left; (focus simp only [Act.put, List.setIfInBounds_toArray, List.set_cons_zero, List.set_cons_succ, i64_w, i32_w, u8_w, u8_tm, u8_c, u8_cm]; rfl)) | (refine tz (v := ?_) (a' := ?_) HT_ HW_ rfl rfl hHeld (by kernel_rfl) (fun _ _ _ h => h) (Or.inl ⟨by rfl, ?_⟩) ?_ ?_; rotate_left; (focus rintro w' ⟨s0, s1, s2, s3, s4, s5, s6, s7, s8, s9, s10, s11, s12, s13, s14, s15, s16, s17⟩; go_simp; with_reducible rfl); rotate_left; (focus simp only [Act.put, List.setIfInBounds_toArray, List.set_cons_zero, List.set_cons_succ, i64_w, i32_w, u8_w, u8_tm, u8_c, u8_cm]; rfl)))
        refine go_out ?_
        refine one_ (i := 8) (N := some 25) (fl 10 9 []) rfl rfl (one_of HT_.out (by kernel_rfl)) (by decide) (fun K hK => ?_)
        refine goes_ Try.func31 (by kernel_rfl) rfl #[.agg #[.int .i64 ((rd_T69 l0 x5_1).f0), .int .i64 ((rd_T69 l0 x5_1).f1), .int .i64 ((rd_T69 l0 x5_1).f2), .int .i64 ((rd_T69 l0 x5_1).f3), .int .i64 ((rd_T69 l0 x5_1).f4), .string ((rd_T69 l0 x5_1).f5), .string ((rd_T69 l0 x5_1).f6), .string ((rd_T69 l0 x5_1).f7), .slice A233_8 ((rd_T69 l0 x5_1).f8).length c233_8], .agg #[.int .i64 ((rd_T69 l1 x5_1).f0), .int .i64 ((rd_T69 l1 x5_1).f1), .int .i64 ((rd_T69 l1 x5_1).f2), .int .i64 ((rd_T69 l1 x5_1).f3), .int .i64 ((rd_T69 l1 x5_1).f4), .string ((rd_T69 l1 x5_1).f5), .string ((rd_T69 l1 x5_1).f6), .string ((rd_T69 l1 x5_1).f7), .slice A234_8 ((rd_T69 l1 x5_1).f8).length c234_8]] (by rfl) rfl rfl (by (try simp only [List.map_toArray, List.map_cons, List.map_nil]); first | done | rfl | (simp only [List.length_drop, List.length_take]; rfl)) ?_
        with_reducible refine (frisketref36_SameMark.calls k1 ((rd_T69 l0 x5_1).f0) ((rd_T69 l0 x5_1).f1) ((rd_T69 l0 x5_1).f2) ((rd_T69 l0 x5_1).f3) ((rd_T69 l0 x5_1).f4) ((rd_T69 l0 x5_1).f5) ((rd_T69 l0 x5_1).f6) ((rd_T69 l0 x5_1).f7) _ _ ((rd_T69 l0 x5_1).f8) ((rd_T69 l1 x5_1).f0) ((rd_T69 l1 x5_1).f1) ((rd_T69 l1 x5_1).f2) ((rd_T69 l1 x5_1).f3) ((rd_T69 l1 x5_1).f4) ((rd_T69 l1 x5_1).f5) ((rd_T69 l1 x5_1).f6) ((rd_T69 l1 x5_1).f7) _ _ ((rd_T69 l1 x5_1).f8) false _ ?side1 ?side2 ?side3 ?side4 A7.out).mono ?_
        (case side1 => repeat (first | exact (Kd.C_below HR233_8.out HB.out) | (with_reducible refine q18 ?_ _) | (with_reducible refine q19 ?_ _) | (with_reducible refine q20 ?_)))
        (case side2 => exact HC233_8.out)
        (case side3 => repeat (first | exact (Kd.C_below HR234_8.out HB.out) | (with_reducible refine q18 ?_ _) | (with_reducible refine q19 ?_ _) | (with_reducible refine q20 ?_)))
        (case side4 => exact HC234_8.out)
        rintro e w12 ⟨rfl, hb⟩
        refine ⟨_, rfl, ?_⟩
        have n0_ := q13 (q12 (gB HB) hb)
        clear HB
        have HB := n0_
        clear n0_
        (try clear hb)
        (try clear hb2)
        (try clear hk)
        (try clear hi)
        refine hK.out _ _ ⟨(cl HB.out hw233_0), (cl HB.out hw233_1), (cl HB.out hw233_2), (cl HB.out hw233_3), (cl HB.out hw233_4), (cl HB.out hw233_5), (cl HB.out hw233_6), (cl HB.out hw233_7), (cl HB.out hw233_8), (cl HB.out hw234_0), (cl HB.out hw234_1), (cl HB.out hw234_2), (cl HB.out hw234_3), (cl HB.out hw234_4), (cl HB.out hw234_5), (cl HB.out hw234_6), (cl HB.out hw234_7), (cl HB.out hw234_8)⟩ (fun hHeld => ?_)
        clear hK K
        refine norm_ (a' := ?_) ?_ ?_
        rotate_left
        ·show Act.put _ (some 25) _ = _
         simp only [Act.put, List.setIfInBounds_toArray, List.set_cons_zero, List.set_cons_succ, i64_w, i32_w]
         rfl
        refine go_in [9] ?_
        (refine pz (v := ?_) (a' := ?_) HT_ rfl rfl (by kernel_rfl) (fun _ _ _ h => h) (Or.inl ⟨by rfl, ?_⟩) ?_ ?_; rotate_left; (focus intro w'; go_simp; with_reducible rfl); rotate_left; (focus simp only [Act.put, List.setIfInBounds_toArray, List.set_cons_zero, List.set_cons_succ, i64_w, i32_w, u8_w, u8_tm, u8_c, u8_cm]; rfl))
        refine go_out ?_
        refine done_ (done_of HT_.out (by kernel_rfl)) ?_
        try go_wp2
        go_ret
        exact ⟨by first | rfl | (simp [errW_none, errW_some] <;> rfl) | (simp [*, errW_none, errW_some] <;> rfl), gB HB⟩
      ·rw [if_neg c6] at H
       exact absurd H (by simp)
     ·rw [if_neg c5] at H
      exact absurd H (by simp)
    ·rw [if_neg c4] at H
     have c4b0 : decide (x5_1 < (l0.length : Int)) = false := decide_eq_false c4
     clear c4
     obtain rfl := Option.some.inj H
     go_wp2
     go_ret
     exact ⟨by first | rfl | (simp [errW_none, errW_some] <;> rfl) | (simp [*, errW_none, errW_some] <;> rfl), gB HB⟩
 ·rw [if_neg c3] at H
  have c3b0 : ((l0.length : Int) == (l1.length : Int)) = false := beq_eq_false_iff_ne.mpr c3
  have c3b1 : ((l0.length : Int) != (l1.length : Int)) = true := bne_iff_ne.mpr c3
  have c3b2 : (l0.length == l1.length) = false := by first | simpa using c3 | (simp at c3 ⊢; omega)
  obtain rfl := Option.some.inj H
  go_enter Try.func12, Try.ntmps12
  go_wp2
  go_ret
  exact ⟨by first | rfl | (simp [errW_none, errW_some] <;> rfl) | (simp [*, errW_none, errW_some] <;> rfl), gB HB⟩

def frisketref36_Same.f (k : Nat) (a0_0 : Int) (l0_1 : List (S69)) (a1_0 : Int) (l1_1 : List (S69)) : Option (Bool) := if a0_0 = a1_0 then ((frisketref36_SameMarks.f k l0_1 l1_1).bind fun t238 => (some t238)) else (some false)
theorem frisketref36_Same.mono : ∀ a0 a1 a2 a3 k, LeO (frisketref36_Same.f k a0 a1 a2 a3) (frisketref36_Same.f (k + 1) a0 a1 a2 a3) := by
 intro a0 a1 a2 a3 k
 unfold frisketref36_Same.f
 repeat' first
   | (with_reducible exact frisketref36_SameMarks.mono _ _ _)
   | (with_reducible exact LeO.refl _)
   | (with_reducible exact LeO.none _)
   | (with_reducible refine LeO.ite ?_ ?_)
   | (with_reducible refine LeO.bind ?_ (fun _ => ?_))
   | exact frisketref36_SameMarks.mono _ _ _
   | exact LeO.none _
   | refine LeO.ite ?_ ?_
   | refine LeO.bind ?_ (fun _ => ?_)
set_option maxHeartbeats 8000000 in
set_option maxRecDepth 100000 in
theorem frisketref36_Same.calls (k : Nat) (a0_0 : Int) (A0_1 : Option Addr) (c0_1 : Nat) (l0_1 : List (S69)) (a1_0 : Int) (A1_1 : Option Addr) (c1_1 : Nat) (l1_1 : List (S69)) (r : Bool) (w : World) (hr0_1 : Kd.C k69 w A0_1 l0_1.length l0_1) (hc0_1 : l0_1.length ≤ c0_1) (hr1_1 : Kd.C k69 w A1_1 l1_1.length l1_1) (hc1_1 : l1_1.length ≤ c1_1) (h : frisketref36_Same.f k a0_0 l0_1 a1_0 l1_1 = some r) :
  Calls Try.prog 14 #[.agg #[.int .i64 a0_0, .slice A0_1 l0_1.length c0_1], .agg #[.int .i64 a1_0, .slice A1_1 l1_1.length c1_1]] w fun e w' => e = .returned (.bool r) ∧ Below w.heap.size w w' := by
 have hu35 := Try.underlying35
 have HR0_1 := q13 hr0_1
 have HC0_1 := q13 hc0_1
 clear hr0_1 hc0_1
 have HR1_1 := q13 hr1_1
 have HC1_1 := q13 hc1_1
 clear hr1_1 hc1_1
 have HB := q13 (Below.refl w.heap.size w)
 have H : (if a0_0 = a1_0 then ((frisketref36_SameMarks.f k l0_1 l1_1).bind fun t238 => (some t238)) else (some false)) = some r := h
 clear h
 by_cases c3 : a0_0 = a1_0
 ·rw [if_pos c3] at H
  have c3b0 : (a0_0 == a1_0) = true := beq_iff_eq.mpr c3
  have c3b1 : (a0_0 != a1_0) = false := bne_eq_false_iff_eq.mpr c3
  clear c3
  replace H := Option.bind_eq_some_iff.mp H
  obtain ⟨t238, A40, H⟩ := H
  replace H : (some t238) = some r := H
  have A4 := q13 A40
  clear A40
  obtain rfl := Option.some.inj H
  go_enter Try.func14, Try.ntmps14
  go_wp2_with (first | ((with_reducible refine gate_dst (N := 2) rfl ?_); refine box_event ?hg (N := 2) ?hd (cs := #[.int .i64 a0_0, .slice A0_1 l0_1.length c0_1]) (t := 35) ?hr ?_; (case hd => rfl); (case hg => rfl); (case hr => first | (go_simp; done) | (go_simp; rfl)); intro gb236 hg w5 hbox hb; have n0_ := q13 (q12 (gB HB) hb); have n1_ := q13 (hbox); have n2_ := q13 ((by rw [hg]; exact (q7 (gB HB)) : w.heap.size ≤ gb236)); have n3_ := q13 ((by rw [hg]; exact (q7 (gB HB)) : w.heap.size ≤ gb236)); clear HB; have HB := n0_; have BK236 := n1_; have GW236 := n2_; have GE236 := n3_; clear n0_ n1_ n2_ n3_; clear hb hbox hg) | ((with_reducible refine gate_dst (N := 3) rfl ?_); refine box_event ?hg (N := 3) ?hd (cs := #[.int .i64 a1_0, .slice A1_1 l1_1.length c1_1]) (t := 35) ?hr ?_; (case hd => rfl); (case hg => rfl); (case hr => first | (go_simp; done) | (go_simp; rfl)); intro gb237 hg w6 hbox hb; have n0_ := q13 (q8 (g := gb236) (o := .cells #[.int .i64 a0_0, .slice A0_1 l0_1.length c0_1] 35 (0, 0)) (gK BK236) hb); have n1_ := q13 (q12 (by repeat (first | (with_reducible first | exact HB.out | apply q3 | apply q4 | apply q5 | refine q6 ?_ GE236.out) | exact HB.out)) hb); have n2_ := q13 (hbox); have n3_ := q13 ((by rw [hg]; exact (q7 (by repeat (first | (with_reducible first | exact HB.out | apply q3 | apply q4 | apply q5 | refine q6 ?_ GE236.out) | exact HB.out))) : w.heap.size ≤ gb237)); have n4_ := q13 ((by rw [hg]; exact (q7 (by repeat (first | (with_reducible first | exact HB.out | apply q3 | apply q4 | apply q5 | refine q6 ?_ GE236.out) | exact HB.out))) : w.heap.size ≤ gb237)); have n5_ := q13 ((by rw [hg]; exact Nat.ne_of_lt (blk_lt (g := gb236) (o := .cells #[.int .i64 a0_0, .slice A0_1 l0_1.length c0_1] 35 (0, 0)) (gK BK236)) : gb236 ≠ gb237)); have n6_ := q13 ((by rw [hg]; exact Nat.ne_of_gt (blk_lt (g := gb236) (o := .cells #[.int .i64 a0_0, .slice A0_1 l0_1.length c0_1] 35 (0, 0)) (gK BK236)) : gb237 ≠ gb236)); clear BK236; clear HB; have BK236 := n0_; have HB := n1_; have BK237 := n2_; have GW237 := n3_; have GE237 := n4_; have NB236_237 := n5_; have NB237_236 := n6_; clear n0_ n1_ n2_ n3_ n4_ n5_ n6_; clear hb hbox hg; have hnb7 := NB236_237.out; have hnc7 := NB237_236.out; have hcz8_0 : w6.cell? ⟨gb236, 0, none⟩ = some (.int .i64 a0_0) := (q9 BK236.out 0).trans rfl; have hcz8_1 : w6.cell? ⟨gb236, 1, none⟩ = some (.slice A0_1 l0_1.length c0_1) := (q9 BK236.out 1).trans rfl; have hfz8_0 := q11 BK236.out 0; have hfz8_1 := q11 BK236.out 1; have hcz9_0 : w6.cell? ⟨gb237, 0, none⟩ = some (.int .i64 a1_0) := (q9 BK237.out 0).trans rfl; have hcz9_1 : w6.cell? ⟨gb237, 1, none⟩ = some (.slice A1_1 l1_1.length c1_1) := (q9 BK237.out 1).trans rfl; have hfz9_0 := q11 BK237.out 0; have hfz9_1 := q11 BK237.out 1) | (go_at_call 12; (with_reducible refine (frisketref36_SameMarks.calls k _ _ l0_1 _ _ l1_1 t238 _ ?side1 ?side2 ?side3 ?side4 A4.out).mono ?_); (case side1 => repeat (first | exact (Kd.C_below HR0_1.out HB.out) | (with_reducible refine q18 ?_ _) | (with_reducible refine q19 ?_ _) | (with_reducible refine q20 ?_))); (case side2 => exact HC0_1.out); (case side3 => repeat (first | exact (Kd.C_below HR1_1.out HB.out) | (with_reducible refine q18 ?_ _) | (with_reducible refine q19 ?_ _) | (with_reducible refine q20 ?_))); (case side4 => exact HC1_1.out); rintro e w10 ⟨rfl, hb⟩; have n0_ := q13 (q8 (g := gb236) (o := .cells #[.int .i64 a0_0, .slice A0_1 l0_1.length c0_1] 35 (0, 0)) (gK BK236) hb); have n1_ := q13 (q8 (g := gb237) (o := .cells #[.int .i64 a1_0, .slice A1_1 l1_1.length c1_1] 35 (0, 0)) (gK BK237) hb); have n2_ := q13 (q12 (by repeat (first | (with_reducible first | exact HB.out | apply q3 | apply q4 | apply q5 | refine q6 ?_ GE236.out | refine q6 ?_ GE237.out) | exact HB.out)) hb); clear BK236; clear BK237; clear HB; have BK236 := n0_; have BK237 := n1_; have HB := n2_; clear n0_ n1_ n2_; (try clear hb); (try clear hb2); (try clear hk); (try clear hi)))
  go_ret
  exact ⟨by first | rfl | (simp [errW_none, errW_some] <;> rfl) | (simp [*, errW_none, errW_some] <;> rfl), by repeat (first | (with_reducible first | exact HB.out | apply q3 | apply q4 | apply q5 | refine q6 ?_ GE236.out | refine q6 ?_ GE237.out) | exact HB.out)⟩
 ·rw [if_neg c3] at H
  have c3b0 : (a0_0 == a1_0) = false := beq_eq_false_iff_ne.mpr c3
  have c3b1 : (a0_0 != a1_0) = true := bne_iff_ne.mpr c3
  obtain rfl := Option.some.inj H
  go_enter Try.func14, Try.ntmps14
  go_wp2_with (first | ((with_reducible refine gate_dst (N := 2) rfl ?_); refine box_event ?hg (N := 2) ?hd (cs := #[.int .i64 a0_0, .slice A0_1 l0_1.length c0_1]) (t := 35) ?hr ?_; (case hd => rfl); (case hg => rfl); (case hr => first | (go_simp; done) | (go_simp; rfl)); intro gb236 hg w11 hbox hb; have n0_ := q13 (q12 (gB HB) hb); have n1_ := q13 (hbox); have n2_ := q13 ((by rw [hg]; exact (q7 (gB HB)) : w.heap.size ≤ gb236)); have n3_ := q13 ((by rw [hg]; exact (q7 (gB HB)) : w.heap.size ≤ gb236)); clear HB; have HB := n0_; have BK236 := n1_; have GW236 := n2_; have GE236 := n3_; clear n0_ n1_ n2_ n3_; clear hb hbox hg) | ((with_reducible refine gate_dst (N := 3) rfl ?_); refine box_event ?hg (N := 3) ?hd (cs := #[.int .i64 a1_0, .slice A1_1 l1_1.length c1_1]) (t := 35) ?hr ?_; (case hd => rfl); (case hg => rfl); (case hr => first | (go_simp; done) | (go_simp; rfl)); intro gb237 hg w12 hbox hb; have n0_ := q13 (q8 (g := gb236) (o := .cells #[.int .i64 a0_0, .slice A0_1 l0_1.length c0_1] 35 (0, 0)) (gK BK236) hb); have n1_ := q13 (q12 (by repeat (first | (with_reducible first | exact HB.out | apply q3 | apply q4 | apply q5 | refine q6 ?_ GE236.out) | exact HB.out)) hb); have n2_ := q13 (hbox); have n3_ := q13 ((by rw [hg]; exact (q7 (by repeat (first | (with_reducible first | exact HB.out | apply q3 | apply q4 | apply q5 | refine q6 ?_ GE236.out) | exact HB.out))) : w.heap.size ≤ gb237)); have n4_ := q13 ((by rw [hg]; exact (q7 (by repeat (first | (with_reducible first | exact HB.out | apply q3 | apply q4 | apply q5 | refine q6 ?_ GE236.out) | exact HB.out))) : w.heap.size ≤ gb237)); have n5_ := q13 ((by rw [hg]; exact Nat.ne_of_lt (blk_lt (g := gb236) (o := .cells #[.int .i64 a0_0, .slice A0_1 l0_1.length c0_1] 35 (0, 0)) (gK BK236)) : gb236 ≠ gb237)); have n6_ := q13 ((by rw [hg]; exact Nat.ne_of_gt (blk_lt (g := gb236) (o := .cells #[.int .i64 a0_0, .slice A0_1 l0_1.length c0_1] 35 (0, 0)) (gK BK236)) : gb237 ≠ gb236)); clear BK236; clear HB; have BK236 := n0_; have HB := n1_; have BK237 := n2_; have GW237 := n3_; have GE237 := n4_; have NB236_237 := n5_; have NB237_236 := n6_; clear n0_ n1_ n2_ n3_ n4_ n5_ n6_; clear hb hbox hg; have hnb13 := NB236_237.out; have hnc13 := NB237_236.out; have hcz14_0 : w12.cell? ⟨gb236, 0, none⟩ = some (.int .i64 a0_0) := (q9 BK236.out 0).trans rfl; have hcz14_1 : w12.cell? ⟨gb236, 1, none⟩ = some (.slice A0_1 l0_1.length c0_1) := (q9 BK236.out 1).trans rfl; have hfz14_0 := q11 BK236.out 0; have hfz14_1 := q11 BK236.out 1; have hcz15_0 : w12.cell? ⟨gb237, 0, none⟩ = some (.int .i64 a1_0) := (q9 BK237.out 0).trans rfl; have hcz15_1 : w12.cell? ⟨gb237, 1, none⟩ = some (.slice A1_1 l1_1.length c1_1) := (q9 BK237.out 1).trans rfl; have hfz15_0 := q11 BK237.out 0; have hfz15_1 := q11 BK237.out 1))
  go_ret
  exact ⟨by first | rfl | (simp [errW_none, errW_some] <;> rfl) | (simp [*, errW_none, errW_some] <;> rfl), by repeat (first | (with_reducible first | exact HB.out | apply q3 | apply q4 | apply q5 | refine q6 ?_ GE236.out | refine q6 ?_ GE237.out) | exact HB.out)⟩

end Go.Proofs.Ytgjmljjnminefaa.QCompareApplies
