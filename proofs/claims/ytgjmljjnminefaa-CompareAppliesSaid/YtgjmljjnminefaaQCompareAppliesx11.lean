import Derived.Lib.SliceRun
import Derived.Test.YtgjmljjnminefaaQCompareAppliesx0
import Derived.Test.YtgjmljjnminefaaQCompareAppliesx10
import Derived.Test.YtgjmljjnminefaaArrEq
import Derived.Test.YtgjmljjnminefaaZip
import Derived.Test.YtgjmljjnminefaaZip2
namespace Go.Proofs.Ytgjmljjnminefaa.QCompareApplies
open Go.Proofs.Ytgjmljjnminefaa.Zip2 Go.Proofs.Ytgjmljjnminefaa.Zip Go.RowKit Go.Proofs.YtgjmljjnminefaaW.PrintWords Go.Proofs.YtgjmljjnminefaaW.PrintLast Go.Proofs.YtgjmljjnminefaaW.PrintMore
attribute [local go_sem] max2_int min2_int max_two min_two max_three min_three max_four min_four   -- for this text's walks alone
set_option linter.unusedVariables false
set_option linter.unusedSimpArgs false

def frisketref36_SamePages.l0 : Nat → List (S35) → List (S35) → Int → Option (Bool)
 | 0, _, _, _ => none
 | k + 1, x0, x1, x5 => if x5 < (x0.length : Int) then (if 0 ≤ x5 then (if x5 < (x1.length : Int) then ((frisketref36_Same.f k ((rd_T35 x0 x5).f0) ((rd_T35 x0 x5).f1) ((rd_T35 x1 x5).f0) ((rd_T35 x1 x5).f1)).bind fun t241 => (if (t241 = true) then (frisketref36_SamePages.l0 k x0 x1 (wrap64 (x5 + 1))) else (some false))) else (none)) else (none)) else (some true)
def frisketref36_SamePages.f (k : Nat) (l0 : List (S35)) (l1 : List (S35)) : Option (Bool) := if (l0.length : Int) = (l1.length : Int) then (frisketref36_SamePages.l0 k l0 l1 0) else (some false)
theorem frisketref36_SamePages.mono_l : ∀ k, (∀ y0 y1 y2, LeO (frisketref36_SamePages.l0 k y0 y1 y2) (frisketref36_SamePages.l0 (k + 1) y0 y1 y2))
 | 0 => fun _ _ _ r h => by simp [frisketref36_SamePages.l0] at h
 | k + 1 => by
  have ih0 := frisketref36_SamePages.mono_l k
  ·intro y0 y1 y2
   unfold frisketref36_SamePages.l0
   repeat' first
   | (with_reducible exact ih0 _ _ _)
   | (with_reducible exact frisketref36_Same.mono _ _ _ _ _)
   | (with_reducible exact LeO.refl _)
   | (with_reducible exact LeO.none _)
   | (with_reducible refine LeO.ite ?_ ?_)
   | (with_reducible refine LeO.bind ?_ (fun _ => ?_))
   | exact ih0 _ _ _
   | exact frisketref36_Same.mono _ _ _ _ _
   | exact LeO.none _
   | refine LeO.ite ?_ ?_
   | refine LeO.bind ?_ (fun _ => ?_)
theorem frisketref36_SamePages.mono : ∀ a0 a1 k, LeO (frisketref36_SamePages.f k a0 a1) (frisketref36_SamePages.f (k + 1) a0 a1) := by
 intro a0 a1 k
 have ih0 := frisketref36_SamePages.mono_l k
 unfold frisketref36_SamePages.f
 repeat' first
   | (with_reducible exact ih0 _ _ _)
   | (with_reducible exact frisketref36_Same.mono _ _ _ _ _)
   | (with_reducible exact LeO.refl _)
   | (with_reducible exact LeO.none _)
   | (with_reducible refine LeO.ite ?_ ?_)
   | (with_reducible refine LeO.bind ?_ (fun _ => ?_))
   | exact ih0 _ _ _
   | exact frisketref36_Same.mono _ _ _ _ _
   | exact LeO.none _
   | refine LeO.ite ?_ ?_
   | refine LeO.bind ?_ (fun _ => ?_)
def frisketref36_SamePages.T6 : Bool × List (List Nat × List Nat) := (true, [([], []), ([], []), ([0, 1], [0, 1]), ([2], [2]), ([], []), ([], []), ([4, 5], [4, 5]), ([6], [6]), ([3, 7], [3, 7]), ([8], [8])])
def frisketref36_SamePages.B6 : List Nat := [0, 0, 3, 7, 0, 0, 48, 112, 255, 511]
theorem frisketref36_SamePages.tab6 : rtab .any (opsOf Try.f10 6) = frisketref36_SamePages.T6 := by kernel_rfl
theorem frisketref36_SamePages.bits6 : waitsOk frisketref36_SamePages.T6.2 frisketref36_SamePages.B6 = true := by kernel_rfl
set_option maxHeartbeats 8000000 in
set_option maxRecDepth 100000 in
theorem frisketref36_SamePages.calls (k : Nat) (A0 : Option Addr) (c0 : Nat) (l0 : List (S35)) (A1 : Option Addr) (c1 : Nat) (l1 : List (S35)) (r : Bool) (w : World) (hr0 : Kd.C k35 w A0 l0.length l0) (hc0 : l0.length ≤ c0) (hr1 : Kd.C k35 w A1 l1.length l1) (hc1 : l1.length ≤ c1) (h : frisketref36_SamePages.f k l0 l1 = some r) :
  Calls Try.prog 10 #[.slice A0 l0.length c0, .slice A1 l1.length c1] w fun e w' => e = .returned (.bool r) ∧ Below w.heap.size w w' := by
 have hu35 := Try.underlying35
 have HR0 := q13 hr0
 have HC0 := q13 hc0
 clear hr0 hc0
 have HR1 := q13 hr1
 have HC1 := q13 hc1
 clear hr1 hc1
 have HB := q13 (Below.refl w.heap.size w)
 have H : (if (l0.length : Int) = (l1.length : Int) then (frisketref36_SamePages.l0 k l0 l1 0) else (some false)) = some r := h
 clear h
 by_cases c3 : (l0.length : Int) = (l1.length : Int)
 ·rw [if_pos c3] at H
  have c3b0 : ((l0.length : Int) == (l1.length : Int)) = true := beq_iff_eq.mpr c3
  have c3b1 : ((l0.length : Int) != (l1.length : Int)) = false := bne_eq_false_iff_eq.mpr c3
  have c3b2 : (l0.length == l1.length) = true := by first | simpa using c3 | (simp at c3 ⊢; omega)
  clear c3
  have H' := q13 H
  clear H
  go_enter Try.func10, Try.ntmps10
  go_wp2
  go_loopg [5] k (fun kq v5 w' => ∃ (x5_1 : Int), v5 = .int .i64 x5_1 ∧ Aside0 (frisketref36_SamePages.l0 kq l0 l1 x5_1 = some r) ∧ Aside0 (kq ≤ k) ∧ Aside0 (Below w.heap.size w w'))
  case atStart => exact ⟨(0), (by first | rfl | (simp; done) | (simp [*]; done)), H', ⟨q17 _⟩, ⟨gB HB⟩⟩
  case round =>
   clear H'
   try clear c1
   try clear p2
   try clear c3
   try clear c3b0
   try clear c3b1
   try clear c3b2
   obtain ⟨x5_1, rfl, HA, HK1, HB⟩ := hrel
   cases gk with
   | zero => exact absurd HA.out (by simp [frisketref36_SamePages.l0])
   | succ k1 =>
    have H := HA.out
    clear HA
    simp only [frisketref36_SamePages.l0] at H
    by_cases c4 : x5_1 < (l0.length : Int)
    ·rw [if_pos c4] at H
     have c4b0 : decide (x5_1 < (l0.length : Int)) = true := decide_eq_true c4
     clear c4
     by_cases c5 : 0 ≤ x5_1
     ·rw [if_pos c5] at H
      have c5b0 : decide (0 ≤ x5_1) = true := decide_eq_true c5
      clear c5
      by_cases c6 : x5_1 < (l1.length : Int)
      ·rw [if_pos c6] at H
       have c6b0 : decide (x5_1 < (l1.length : Int)) = true := decide_eq_true c6
       clear c6
       replace H := Option.bind_eq_some_iff.mp H
       obtain ⟨t241, A70, H⟩ := H
       replace H : (if (t241 = true) then (frisketref36_SamePages.l0 k1 l0 l1 (wrap64 (x5_1 + 1))) else (some false)) = some r := H
       have A7 := q13 A70
       clear A70
       by_cases c8 : (t241 = true)
       ·subst c8
        have H1 : (frisketref36_SamePages.l0 k1 l0 l1 (wrap64 (x5_1 + 1))) = some r := by rw [if_pos rfl] at H; exact H
        clear H
        have H := H1
        clear H1
        have H' := q13 H
        clear H
        try go_wp2
        have n0_ := q13 (q5 HB.out)
        clear HB
        have HB := n0_
        clear n0_
        have p239 : 0 ≤ (x5_1 : Int) := q15 (by assumption)
        have q239 : x5_1 < (l0.length : Int) := q15 (by assumption)
        obtain ⟨ad239, A239_1, c239_1, e239, hx239_0, hx239_1, hl239_1, hi239_1⟩ := at_T35 HR0.out x5_1 p239 q239
        have hw239_1 := hx239_1
        have hw239_0 := hx239_0
        cases e239
        replace hx239_0 := cl HB.out hx239_0
        replace hx239_1 := cl HB.out hx239_1
        have HR239_1 := q13 hi239_1
        have HC239_1 := q13 hl239_1
        clear hi239_1 hl239_1
        replace p239 := eq_true p239
        replace q239 := eq_true q239
        have p240 : 0 ≤ (x5_1 : Int) := q15 (by assumption)
        have q240 : x5_1 < (l1.length : Int) := q15 (by assumption)
        obtain ⟨ad240, A240_1, c240_1, e240, hx240_0, hx240_1, hl240_1, hi240_1⟩ := at_T35 HR1.out x5_1 p240 q240
        have hw240_1 := hx240_1
        have hw240_0 := hx240_0
        cases e240
        replace hx240_0 := cl HB.out hx240_0
        replace hx240_1 := cl HB.out hx240_1
        have HR240_1 := q13 hi240_1
        have HC240_1 := q13 hl240_1
        clear hi240_1 hl240_1
        replace p240 := eq_true p240
        replace q240 := eq_true q240
        refine start_ (n := 10) (S := fun w' => w'.cell? (ad239.add ((x5_1).toNat * 2)) = some (.int .i64 ((rd_T35 l0 x5_1).f0)) ∧ w'.cell? ⟨(ad239.add ((x5_1).toNat * 2)).block, (ad239.add ((x5_1).toNat * 2)).off + 1, none⟩ = some (.slice A239_1 ((rd_T35 l0 x5_1).f1).length c239_1) ∧ w'.cell? (ad240.add ((x5_1).toNat * 2)) = some (.int .i64 ((rd_T35 l1 x5_1).f0)) ∧ w'.cell? ⟨(ad240.add ((x5_1).toNat * 2)).block, (ad240.add ((x5_1).toNat * 2)).off + 1, none⟩ = some (.slice A240_1 ((rd_T35 l1 x5_1).f1).length c240_1)) (ds := []) (Array.replicate 10 false) (by kernel_rfl) rfl rfl ⟨(cl HB.out hw239_0), (cl HB.out hw239_1), (cl HB.out hw240_0), (cl HB.out hw240_1)⟩ (fun hHeld => ?_); refine with_tabW frisketref36_SamePages.tab6 frisketref36_SamePages.bits6 (fun HT_ HW_ => ?_)
        generalize wr.drew = w9 at HB HR239_1 HR240_1 hx239_0 hx239_1 hx240_0 hx240_1 hHeld ⊢
        refine go_in [0, 1, 2, 4, 5, 6, 3, 7] ?_
        repeat (first | (refine pz (v := ?_) (a' := ?_) HT_ rfl rfl (by kernel_rfl) (fun _ _ _ h => h) (Or.inl ⟨by rfl, ?_⟩) ?_ ?_; rotate_left; (focus intro w'; go_simp; with_reducible rfl); rotate_left; (focus simp only [Act.put, List.setIfInBounds_toArray, List.set_cons_zero, List.set_cons_succ, i64_w, i32_w, u8_w, u8_tm, u8_c, u8_cm, u8_two]; rfl)) | (refine tz (v := ?_) (a' := ?_) HT_ HW_ rfl rfl hHeld (by kernel_rfl) (fun _ _ _ h => h) (Or.inl ⟨by rfl, ?_⟩) ?_ ?_; rotate_left; (focus rintro w' ⟨s0, s1, s2, s3⟩; go_simp; with_reducible rfl); rotate_left; (focus simp only [Act.put, List.setIfInBounds_toArray, List.set_cons_zero, List.set_cons_succ, i64_w, i32_w, u8_w, u8_tm, u8_c, u8_cm, u8_two]; rfl)))
        refine go_out ?_
        refine one_ (i := 8) (N := some 25) (fl 10 9 []) rfl rfl (one_of HT_.out (by kernel_rfl)) (by decide) (fun K hK => ?_)
        refine goes_ Try.func14 (by kernel_rfl) rfl #[.agg #[.int .i64 ((rd_T35 l0 x5_1).f0), .slice A239_1 ((rd_T35 l0 x5_1).f1).length c239_1], .agg #[.int .i64 ((rd_T35 l1 x5_1).f0), .slice A240_1 ((rd_T35 l1 x5_1).f1).length c240_1]] (by rfl) rfl rfl (by (try simp only [List.map_toArray, List.map_cons, List.map_nil]); first | done | rfl | (simp only [List.length_drop, List.length_take]; rfl)) ?_
        with_reducible refine (frisketref36_Same.calls k1 ((rd_T35 l0 x5_1).f0) _ _ ((rd_T35 l0 x5_1).f1) ((rd_T35 l1 x5_1).f0) _ _ ((rd_T35 l1 x5_1).f1) true _ ?side1 ?side2 ?side3 ?side4 A7.out).mono ?_
        (case side1 => repeat (first | exact (Kd.C_below HR239_1.out HB.out) | (with_reducible refine q18 ?_ _) | (with_reducible refine q19 ?_ _) | (with_reducible refine q20 ?_)))
        (case side2 => exact HC239_1.out)
        (case side3 => repeat (first | exact (Kd.C_below HR240_1.out HB.out) | (with_reducible refine q18 ?_ _) | (with_reducible refine q19 ?_ _) | (with_reducible refine q20 ?_)))
        (case side4 => exact HC240_1.out)
        rintro e w10 ⟨rfl, hb⟩
        refine ⟨_, rfl, ?_⟩
        have n0_ := q13 (q12 (gB HB) hb)
        clear HB
        have HB := n0_
        clear n0_
        (try clear hb)
        (try clear hb2)
        (try clear hk)
        (try clear hi)
        refine hK.out _ _ ⟨(cl HB.out hw239_0), (cl HB.out hw239_1), (cl HB.out hw240_0), (cl HB.out hw240_1)⟩ (fun hHeld => ?_)
        clear hK K
        refine norm_ (a' := ?_) ?_ ?_
        rotate_left
        ·show Act.put _ (some 25) _ = _
         simp only [Act.put, List.setIfInBounds_toArray, List.set_cons_zero, List.set_cons_succ, i64_w, i32_w]
         rfl
        refine go_in [9] ?_
        (refine pz (v := ?_) (a' := ?_) HT_ rfl rfl (by kernel_rfl) (fun _ _ _ h => h) (Or.inl ⟨by rfl, ?_⟩) ?_ ?_; rotate_left; (focus intro w'; go_simp; with_reducible rfl); rotate_left; (focus simp only [Act.put, List.setIfInBounds_toArray, List.set_cons_zero, List.set_cons_succ, i64_w, i32_w, u8_w, u8_tm, u8_c, u8_cm, u8_two]; rfl))
        refine go_out ?_
        refine done_ (done_of HT_.out (by kernel_rfl)) ?_
        try go_wp2
        go_roundg k1
        case measure => have := HK1.out; omega
        case rel => exact ⟨(wrap64 (x5_1 + 1)), (by first | rfl | (simp; done) | (simp [*]; done)), H', ⟨by have := HK1.out; omega⟩, ⟨gB HB⟩⟩
       ·replace c8 := Bool.eq_false_iff.mpr c8
        subst c8
        have H1 : (some false) = some r := by rw [if_neg (show ¬ (false = true) by decide)] at H; exact H
        clear H
        have H := H1
        clear H1
        obtain rfl := Option.some.inj H
        try go_wp2
        have n0_ := q13 (q5 HB.out)
        clear HB
        have HB := n0_
        clear n0_
        have p239 : 0 ≤ (x5_1 : Int) := q15 (by assumption)
        have q239 : x5_1 < (l0.length : Int) := q15 (by assumption)
        obtain ⟨ad239, A239_1, c239_1, e239, hx239_0, hx239_1, hl239_1, hi239_1⟩ := at_T35 HR0.out x5_1 p239 q239
        have hw239_1 := hx239_1
        have hw239_0 := hx239_0
        cases e239
        replace hx239_0 := cl HB.out hx239_0
        replace hx239_1 := cl HB.out hx239_1
        have HR239_1 := q13 hi239_1
        have HC239_1 := q13 hl239_1
        clear hi239_1 hl239_1
        replace p239 := eq_true p239
        replace q239 := eq_true q239
        have p240 : 0 ≤ (x5_1 : Int) := q15 (by assumption)
        have q240 : x5_1 < (l1.length : Int) := q15 (by assumption)
        obtain ⟨ad240, A240_1, c240_1, e240, hx240_0, hx240_1, hl240_1, hi240_1⟩ := at_T35 HR1.out x5_1 p240 q240
        have hw240_1 := hx240_1
        have hw240_0 := hx240_0
        cases e240
        replace hx240_0 := cl HB.out hx240_0
        replace hx240_1 := cl HB.out hx240_1
        have HR240_1 := q13 hi240_1
        have HC240_1 := q13 hl240_1
        clear hi240_1 hl240_1
        replace p240 := eq_true p240
        replace q240 := eq_true q240
        refine start_ (n := 10) (S := fun w' => w'.cell? (ad239.add ((x5_1).toNat * 2)) = some (.int .i64 ((rd_T35 l0 x5_1).f0)) ∧ w'.cell? ⟨(ad239.add ((x5_1).toNat * 2)).block, (ad239.add ((x5_1).toNat * 2)).off + 1, none⟩ = some (.slice A239_1 ((rd_T35 l0 x5_1).f1).length c239_1) ∧ w'.cell? (ad240.add ((x5_1).toNat * 2)) = some (.int .i64 ((rd_T35 l1 x5_1).f0)) ∧ w'.cell? ⟨(ad240.add ((x5_1).toNat * 2)).block, (ad240.add ((x5_1).toNat * 2)).off + 1, none⟩ = some (.slice A240_1 ((rd_T35 l1 x5_1).f1).length c240_1)) (ds := []) (Array.replicate 10 false) (by kernel_rfl) rfl rfl ⟨(cl HB.out hw239_0), (cl HB.out hw239_1), (cl HB.out hw240_0), (cl HB.out hw240_1)⟩ (fun hHeld => ?_); refine with_tabW frisketref36_SamePages.tab6 frisketref36_SamePages.bits6 (fun HT_ HW_ => ?_)
        generalize wr.drew = w11 at HB HR239_1 HR240_1 hx239_0 hx239_1 hx240_0 hx240_1 hHeld ⊢
        refine go_in [0, 1, 2, 4, 5, 6, 3, 7] ?_
        repeat (first | (refine pz (v := ?_) (a' := ?_) HT_ rfl rfl (by kernel_rfl) (fun _ _ _ h => h) (Or.inl ⟨by rfl, ?_⟩) ?_ ?_; rotate_left; (focus intro w'; go_simp; with_reducible rfl); rotate_left; (focus simp only [Act.put, List.setIfInBounds_toArray, List.set_cons_zero, List.set_cons_succ, i64_w, i32_w, u8_w, u8_tm, u8_c, u8_cm, u8_two]; rfl)) | (refine tz (v := ?_) (a' := ?_) HT_ HW_ rfl rfl hHeld (by kernel_rfl) (fun _ _ _ h => h) (Or.inl ⟨by rfl, ?_⟩) ?_ ?_; rotate_left; (focus rintro w' ⟨s0, s1, s2, s3⟩; go_simp; with_reducible rfl); rotate_left; (focus simp only [Act.put, List.setIfInBounds_toArray, List.set_cons_zero, List.set_cons_succ, i64_w, i32_w, u8_w, u8_tm, u8_c, u8_cm, u8_two]; rfl)))
        refine go_out ?_
        refine one_ (i := 8) (N := some 25) (fl 10 9 []) rfl rfl (one_of HT_.out (by kernel_rfl)) (by decide) (fun K hK => ?_)
        refine goes_ Try.func14 (by kernel_rfl) rfl #[.agg #[.int .i64 ((rd_T35 l0 x5_1).f0), .slice A239_1 ((rd_T35 l0 x5_1).f1).length c239_1], .agg #[.int .i64 ((rd_T35 l1 x5_1).f0), .slice A240_1 ((rd_T35 l1 x5_1).f1).length c240_1]] (by rfl) rfl rfl (by (try simp only [List.map_toArray, List.map_cons, List.map_nil]); first | done | rfl | (simp only [List.length_drop, List.length_take]; rfl)) ?_
        with_reducible refine (frisketref36_Same.calls k1 ((rd_T35 l0 x5_1).f0) _ _ ((rd_T35 l0 x5_1).f1) ((rd_T35 l1 x5_1).f0) _ _ ((rd_T35 l1 x5_1).f1) false _ ?side1 ?side2 ?side3 ?side4 A7.out).mono ?_
        (case side1 => repeat (first | exact (Kd.C_below HR239_1.out HB.out) | (with_reducible refine q18 ?_ _) | (with_reducible refine q19 ?_ _) | (with_reducible refine q20 ?_)))
        (case side2 => exact HC239_1.out)
        (case side3 => repeat (first | exact (Kd.C_below HR240_1.out HB.out) | (with_reducible refine q18 ?_ _) | (with_reducible refine q19 ?_ _) | (with_reducible refine q20 ?_)))
        (case side4 => exact HC240_1.out)
        rintro e w12 ⟨rfl, hb⟩
        refine ⟨_, rfl, ?_⟩
        have n0_ := q13 (q12 (gB HB) hb)
        clear HB
        have HB := n0_
        clear n0_
        (try clear hb)
        (try clear hb2)
        (try clear hk)
        (try clear hi)
        refine hK.out _ _ ⟨(cl HB.out hw239_0), (cl HB.out hw239_1), (cl HB.out hw240_0), (cl HB.out hw240_1)⟩ (fun hHeld => ?_)
        clear hK K
        refine norm_ (a' := ?_) ?_ ?_
        rotate_left
        ·show Act.put _ (some 25) _ = _
         simp only [Act.put, List.setIfInBounds_toArray, List.set_cons_zero, List.set_cons_succ, i64_w, i32_w]
         rfl
        refine go_in [9] ?_
        (refine pz (v := ?_) (a' := ?_) HT_ rfl rfl (by kernel_rfl) (fun _ _ _ h => h) (Or.inl ⟨by rfl, ?_⟩) ?_ ?_; rotate_left; (focus intro w'; go_simp; with_reducible rfl); rotate_left; (focus simp only [Act.put, List.setIfInBounds_toArray, List.set_cons_zero, List.set_cons_succ, i64_w, i32_w, u8_w, u8_tm, u8_c, u8_cm, u8_two]; rfl))
        refine go_out ?_
        refine done_ (done_of HT_.out (by kernel_rfl)) ?_
        try go_wp2
        go_ret
        exact ⟨by first | rfl | (simp [errW_none, errW_some] <;> rfl) | (simp [*, errW_none, errW_some] <;> rfl), gB HB⟩
      ·rw [if_neg c6] at H
       exact absurd H (by simp)
     ·rw [if_neg c5] at H
      exact absurd H (by simp)
    ·rw [if_neg c4] at H
     have c4b0 : decide (x5_1 < (l0.length : Int)) = false := decide_eq_false c4
     clear c4
     obtain rfl := Option.some.inj H
     go_wp2
     go_ret
     exact ⟨by first | rfl | (simp [errW_none, errW_some] <;> rfl) | (simp [*, errW_none, errW_some] <;> rfl), gB HB⟩
 ·rw [if_neg c3] at H
  have c3b0 : ((l0.length : Int) == (l1.length : Int)) = false := beq_eq_false_iff_ne.mpr c3
  have c3b1 : ((l0.length : Int) != (l1.length : Int)) = true := bne_iff_ne.mpr c3
  have c3b2 : (l0.length == l1.length) = false := by first | simpa using c3 | (simp at c3 ⊢; omega)
  obtain rfl := Option.some.inj H
  go_enter Try.func10, Try.ntmps10
  go_wp2
  go_ret
  exact ⟨by first | rfl | (simp [errW_none, errW_some] <;> rfl) | (simp [*, errW_none, errW_some] <;> rfl), gB HB⟩

mutual
def frisketlaw36_numbered.l0 : Nat → List Int → List (S24) → Int → Option ((List (S24)))
 | 0, _, _, _ => none
 | k + 1, x0, x3, x4 => if x4 < (x0.length : Int) then (if 0 ≤ x4 then (frisketlaw36_numbered.l1 k x0 x3 x4 0 (wrap64 (Int.tmod (rd x0 x4) 5)) ([] : List (S69))) else (none)) else (some x3)
def frisketlaw36_numbered.l1 : Nat → List Int → List (S24) → Int → Int → Int → List (S69) → Option ((List (S24)))
 | 0, _, _, _, _, _, _ => none
 | k + 1, x0, x3, x4, x6, x244000, x244001 => if 0 ≤ x4 then (if x4 < (x0.length : Int) then (if x6 < (((Int.tdiv (rd x0 x4) 5) % 256) % 3) then (if x244001.length < 1256584717458 then (frisketlaw36_numbered.l1 k x0 x3 x4 (wrap64 (x6 + 1)) x244000 (x244001 ++ [(⟨x244000, wrap64 (x6 * (((Int.tdiv (rd x0 x4) 15) % 256) % 2)), 0, 0, 10, (⟨#[]⟩ : ByteArray), (⟨#[97]⟩ : ByteArray), (⟨#[]⟩ : ByteArray), ([] : List Int)⟩ : S69)])) else (none)) else (if x3.length < 4398046511104 then (frisketlaw36_numbered.l0 k x0 (x3 ++ [(⟨x244000, x244001⟩ : S24)]) (wrap64 (x4 + 1))) else (none))) else (none)) else (none)
end
def frisketlaw36_numbered.f (k : Nat) (l0 : List Int) : Option ((List (S24))) := frisketlaw36_numbered.l0 k l0 ([] : List (S24)) 0
theorem frisketlaw36_numbered.mono_l : ∀ k, (∀ y0 y1 y2, LeO (frisketlaw36_numbered.l0 k y0 y1 y2) (frisketlaw36_numbered.l0 (k + 1) y0 y1 y2)) ∧ (∀ y0 y1 y2 y3 y4 y5, LeO (frisketlaw36_numbered.l1 k y0 y1 y2 y3 y4 y5) (frisketlaw36_numbered.l1 (k + 1) y0 y1 y2 y3 y4 y5))
 | 0 => ⟨fun _ _ _ r h => by simp [frisketlaw36_numbered.l0] at h, fun _ _ _ _ _ _ r h => by simp [frisketlaw36_numbered.l1] at h⟩
 | k + 1 => by
  obtain ⟨ih0, ih1⟩ := frisketlaw36_numbered.mono_l k
  refine ⟨?_, ?_⟩
  ·intro y0 y1 y2
   unfold frisketlaw36_numbered.l0
   repeat' first
   | (with_reducible exact ih0 _ _ _)
   | (with_reducible exact ih1 _ _ _ _ _ _)
   | (with_reducible exact LeO.refl _)
   | (with_reducible exact LeO.none _)
   | (with_reducible refine LeO.ite ?_ ?_)
   | (with_reducible refine LeO.bind ?_ (fun _ => ?_))
   | exact ih0 _ _ _
   | exact ih1 _ _ _ _ _ _
   | exact LeO.none _
   | refine LeO.ite ?_ ?_
   | refine LeO.bind ?_ (fun _ => ?_)
  ·intro y0 y1 y2 y3 y4 y5
   unfold frisketlaw36_numbered.l1
   repeat' first
   | (with_reducible exact ih0 _ _ _)
   | (with_reducible exact ih1 _ _ _ _ _ _)
   | (with_reducible exact LeO.refl _)
   | (with_reducible exact LeO.none _)
   | (with_reducible refine LeO.ite ?_ ?_)
   | (with_reducible refine LeO.bind ?_ (fun _ => ?_))
   | exact ih0 _ _ _
   | exact ih1 _ _ _ _ _ _
   | exact LeO.none _
   | refine LeO.ite ?_ ?_
   | refine LeO.bind ?_ (fun _ => ?_)
theorem frisketlaw36_numbered.mono : ∀ a0 k, LeO (frisketlaw36_numbered.f k a0) (frisketlaw36_numbered.f (k + 1) a0) := by
 intro a0 k
 obtain ⟨ih0, ih1⟩ := frisketlaw36_numbered.mono_l k
 unfold frisketlaw36_numbered.f
 repeat' first
   | (with_reducible exact ih0 _ _ _)
   | (with_reducible exact ih1 _ _ _ _ _ _)
   | (with_reducible exact LeO.refl _)
   | (with_reducible exact LeO.none _)
   | (with_reducible refine LeO.ite ?_ ?_)
   | (with_reducible refine LeO.bind ?_ (fun _ => ?_))
   | exact ih0 _ _ _
   | exact ih1 _ _ _ _ _ _
   | exact LeO.none _
   | refine LeO.ite ?_ ?_
   | refine LeO.bind ?_ (fun _ => ?_)
def frisketlaw36_numbered.T9 : Bool × List (List Nat × List Nat) := (true, [([], []), ([0], [0]), ([], []), ([2], [2]), ([], []), ([], []), ([], []), ([5, 6], [5, 6]), ([7], [7]), ([8], [8]), ([9], [9]), ([10], [10]), ([4, 11], [4, 11]), ([3, 12], [3, 12]), ([13], [13]), ([1, 14], [1, 14]), ([0, 1, 2, 3, 4, 5, 6, 7, 8, 9, 10, 11, 12, 13, 14, 15], []), ([16, 15, 15, 0, 1, 2, 3, 4, 5, 6, 7, 8, 9, 10, 11, 12, 13, 14, 15], [15, 16])])
def frisketlaw36_numbered.B9 : List Nat := [0, 1, 0, 4, 0, 0, 0, 96, 224, 480, 992, 2016, 4080, 8188, 16380, 32767, 65535, 131071]
theorem frisketlaw36_numbered.tab9 : rtab .any (opsOf Try.f22 9) = frisketlaw36_numbered.T9 := by kernel_rfl
theorem frisketlaw36_numbered.bits9 : waitsOk frisketlaw36_numbered.T9.2 frisketlaw36_numbered.B9 = true := by kernel_rfl
set_option maxHeartbeats 8000000 in
set_option maxRecDepth 100000 in
theorem frisketlaw36_numbered.calls (k : Nat) (A0 : Option Addr) (c0 : Nat) (l0 : List Int) (r : List (S24)) (w : World) (hr0 : Kd.C (Kd.int .u8) w A0 l0.length l0) (hc0 : l0.length ≤ c0) (h : frisketlaw36_numbered.f k l0 = some r) :
  Calls Try.prog 22 #[.slice A0 l0.length c0] w fun e w' => ∃ v0_ : Value, e = .returned (v0_) ∧ Kd.R k24 24 w' w.heap.size (fun _ => True) v0_ r ∧ Below w.heap.size w w' := by
 have hu24 := Try.underlying24
 have hu69 := Try.underlying69
 have HR0 := q13 hr0
 have HC0 := q13 hc0
 clear hr0 hc0
 have HB := q13 (Below.refl w.heap.size w)
 have H : (frisketlaw36_numbered.l0 k l0 ([] : List (S24)) 0) = some r := h
 clear h
 have H' := q13 H
 clear H
 go_enter Try.func22, Try.ntmps22
 go_wp2
 go_loopg [3, 4] k (fun kq v3 v4 w' => ∃ (x3_1 : List (S24)) (x4_1 : Int), v4 = .int .i64 x4_1 ∧ Aside0 (frisketlaw36_numbered.l0 kq l0 x3_1 x4_1 = some r) ∧ Aside0 (kq ≤ k) ∧ Aside0 (Kd.R k24 24 w' w.heap.size (fun _ => True) v3 x3_1) ∧ Aside0 (Below w.heap.size w w'))
 case atStart => exact ⟨(([] : List (S24))), (0), (by first | rfl | (simp; done) | (simp [*]; done)), H', ⟨q17 _⟩, ⟨by first | exact Kd.R_nil _ _ _ _ _ | exact Kd.N_nil _ _ _ _ _ | exact Kd.V_nil _ _ _ _ _ | exact Kd.Q_nil _ _ _ _ _ | exact Kd.S_nil _ _ _ _ _⟩, ⟨gB HB⟩⟩
 case round =>
  clear H'
  obtain ⟨x3_1, x4_1, rfl, HA, HK1, HO_3, HB⟩ := hrel
  cases gk with
  | zero => exact absurd HA.out (by simp [frisketlaw36_numbered.l0])
  | succ k1 =>
   have H := HA.out
   clear HA
   simp only [frisketlaw36_numbered.l0] at H
   by_cases c2 : x4_1 < (l0.length : Int)
   ·rw [if_pos c2] at H
    have c2b0 : decide (x4_1 < (l0.length : Int)) = true := decide_eq_true c2
    clear c2
    by_cases c3 : 0 ≤ x4_1
    ·rw [if_pos c3] at H
     have c3b0 : decide (0 ≤ x4_1) = true := decide_eq_true c3
     clear c3
     have H' := q13 H
     clear H
     have p242 : 0 ≤ (x4_1 : Int) := q15 (by assumption)
     have q242 : x4_1 < (l0.length : Int) := q15 (by assumption)
     obtain ⟨ad242, e242, hx242_0⟩ := Kd.at_int HR0.out x4_1 p242 q242
     cases e242
     replace hx242_0 := cl HB.out hx242_0
     replace p242 := eq_true p242
     replace q242 := eq_true q242
     go_wp2_with (first | ((with_reducible refine gate_dst (N := 5) rfl ?_); refine box_event ?hg (N := 5) ?hd (cs := #[.int .i64 0, .slice none 0 0]) (t := 24) ?hr ?_; (case hd => rfl); (case hg => rfl); (case hr => first | (go_simp; done) | (go_simp; rfl)); intro gb243 hg w4 hbox hb; have n0_ := q13 (Kd.R_below (Kd.R_elderB (gR HO_3) gb243 (Nat.le_of_eq hg.symm)) hb); have n1_ := q13 (q12 (gB HB) hb); have n2_ := q13 (hbox); have n3_ := q13 ((by rw [hg]; exact (q7 (gB HB)) : w.heap.size ≤ gb243)); have n4_ := q13 ((by rw [hg]; exact (q7 (gB HB)) : w.heap.size ≤ gb243)); clear HO_3; clear HB; have HO_3 := n0_; have HB := n1_; have BK243 := n2_; have GW243 := n3_; have GE243 := n4_; clear n0_ n1_ n2_ n3_ n4_; clear hb hbox hg; have hcz5_0 : w4.cell? ⟨gb243, 0, none⟩ = some (.int .i64 0) := (q9 BK243.out 0).trans rfl; have hcz5_1 : w4.cell? ⟨gb243, 1, none⟩ = some (.slice none 0 0) := (q9 BK243.out 1).trans rfl; have hfz5_0 := q11 BK243.out 0; have hfz5_1 := q11 BK243.out 1))
     go_loopg [6] k1 (fun kq v6 w' => ∃ (x6_2 : Int) (x244001_2 : List (S69)) (u244001 : Value), v6 = .int .i64 x6_2 ∧ Aside0 (frisketlaw36_numbered.l1 kq l0 x3_1 x4_1 x6_2 (wrap64 (Int.tmod (rd l0 x4_1) 5)) x244001_2 = some r) ∧ Aside0 (kq ≤ k1) ∧ Aside0 (Kd.R k24 24 w' w.heap.size (fun k_ => some k_ ≠ (u244001 : Value).ownBlock ∧ k_ ≠ gb243) u3 x3_1) ∧ Aside0 (Kd.S k69 69 w' w.heap.size (fun _ => True) u244001 x244001_2) ∧ Aside0 (w'.heap[gb243]? = some (.cells #[.int .i64 (wrap64 (Int.tmod (rd l0 x4_1) 5)), u244001] 24 (0, 0))) ∧ Aside0 (Below w.heap.size w w'))
     case atStart => exact ⟨(0), (([] : List (S69))), (.slice none 0 0), (by first | rfl | (simp; done) | (simp [*]; done)), H', ⟨q17 _⟩, ⟨by (with_reducible repeat (first | apply Kd.R_alloc | apply Kd.R_drewN | apply Kd.R_drew)); exact Kd.R_mono (Kd.R_far (p := ⟨gb243, 1, none⟩) (Kd.R_far (p := ⟨gb243, 0, none⟩) (Kd.R_mono HO_3.out (fun k_ hk => (⟨hk, hk.2⟩ : _ ∧ k_ ≠ gb243))) (fun _ hk => hk.2) (.int .i64 (wrap64 (Int.tmod (rd l0 x4_1) 5)))) (fun _ hk => hk.2) (.slice none 0 0)) (fun _ hk => ⟨(by simp [Value.ownBlock]), hk.1.2⟩)⟩, ⟨by first | exact Kd.S_nil _ _ _ _ _ | exact Kd.N_nil _ _ _ _ _ | exact Kd.V_nil _ _ _ _ _ | exact Kd.Q_nil _ _ _ _ _ | exact Kd.R_nil _ _ _ _ _⟩, ⟨by (with_reducible repeat (first | refine q0 ?_ _ | refine q1 ?_ | refine q2 ?_ _)); refine blk_put (cs := #[.int .i64 (wrap64 (Int.tmod (rd l0 x4_1) 5)), .slice none 0 0]) ?_ 1 _ rfl; (with_reducible repeat (first | refine q0 ?_ _ | refine q1 ?_ | refine q2 ?_ _)); refine blk_put (cs := #[.int .i64 0, .slice none 0 0]) ?_ 0 _ rfl; (with_reducible repeat (first | refine q0 ?_ _ | refine q1 ?_ | refine q2 ?_ _)); exact BK243.out⟩, ⟨by repeat (first | (with_reducible first | exact HB.out | apply q3 | apply q4 | apply q5 | refine q6 ?_ GE243.out) | exact HB.out)⟩⟩
     case round =>
      clear H'
      try clear c2
      try clear c2b0
      try clear p2
      try clear q2
      try clear hx2
      try clear c3
      try clear c3b0
      try clear hx242_0
      try clear p242
      try clear q242
      obtain ⟨x6_2, x244001_2, u244001, rfl, HA, HK2, HO_3, HO_244001, BK243, HB⟩ := hrel
      cases gk with
      | zero => exact absurd HA.out (by simp [frisketlaw36_numbered.l1])
      | succ k2 =>
       have H := HA.out
       clear HA
       simp only [frisketlaw36_numbered.l1] at H
       by_cases c6 : 0 ≤ x4_1
       ·rw [if_pos c6] at H
        have c6b0 : decide (0 ≤ x4_1) = true := decide_eq_true c6
        clear c6
        by_cases c7 : x4_1 < (l0.length : Int)
        ·rw [if_pos c7] at H
         have c7b0 : decide (x4_1 < (l0.length : Int)) = true := decide_eq_true c7
         clear c7
         by_cases c8 : x6_2 < (((Int.tdiv (rd l0 x4_1) 5) % 256) % 3)
         ·rw [if_pos c8] at H
          have c8b0 : decide (x6_2 < (((Int.tdiv (rd l0 x4_1) 5) % 256) % 3)) = true := decide_eq_true c8
          clear c8
          by_cases c9 : x244001_2.length < 1256584717458
          ·rw [if_pos c9] at H
           have LMc9 := q13 c9
           clear c9
           obtain ⟨y246, hy246⟩ : ∃ y_ : List (S69), y_ = (x244001_2 ++ [(⟨(wrap64 (Int.tmod (rd l0 x4_1) 5)), wrap64 (x6_2 * (((Int.tdiv (rd l0 x4_1) 15) % 256) % 2)), 0, 0, 10, (⟨#[]⟩ : ByteArray), (⟨#[97]⟩ : ByteArray), (⟨#[]⟩ : ByteArray), ([] : List Int)⟩ : S69)]) := ⟨_, rfl⟩
           replace H : (frisketlaw36_numbered.l1 k2 l0 x3_1 x4_1 (wrap64 (x6_2 + 1)) (wrap64 (Int.tmod (rd l0 x4_1) 5)) y246) = some r := by first | (rw [hy246]; with_reducible exact H) | (have H2_ := (Option.bind_some _ _).symm.trans H; rw [hy246]; with_reducible exact H2_) | (have H2_ := (Option.bind_some _ _).symm.trans H; with_reducible exact H2_) | with_reducible exact H | (rw [hy246]; exact H) | exact H
           have Ny246 := q13 hy246
           clear hy246
           have H' := q13 H
           clear H
           have p244 : 0 ≤ (x4_1 : Int) := q15 (by assumption)
           have q244 : x4_1 < (l0.length : Int) := q15 (by assumption)
           obtain ⟨ad244, e244, hx244_0⟩ := Kd.at_int HR0.out x4_1 p244 q244
           obtain rfl : ad242 = ad244 := (by injection e244)
           replace hx244_0 := cl HB.out hx244_0
           replace p244 := eq_true p244
           replace q244 := eq_true q244
           try go_wp2
           have n0_ := q13 (Kd.R_drew HO_3.out)
           have n1_ := q13 (q33 HO_244001.out)
           have n2_ := q13 (q1 BK243.out)
           have n3_ := q13 (q5 HB.out)
           clear HO_3
           clear HO_244001
           clear BK243
           clear HB
           have HO_3 := n0_
           have HO_244001 := n1_
           have BK243 := n2_
           have HB := n3_
           clear n0_ n1_ n2_ n3_
           have p245 : 0 ≤ (x4_1 : Int) := q15 (by assumption)
           have q245 : x4_1 < (l0.length : Int) := q15 (by assumption)
           obtain ⟨ad245, e245, hx245_0⟩ := Kd.at_int HR0.out x4_1 p245 q245
           have hw245_0 := hx245_0
           obtain rfl : ad242 = ad245 := (by injection e245)
           replace hx245_0 := cl HB.out hx245_0
           replace p245 := eq_true p245
           replace q245 := eq_true q245
           refine start_ (n := 18) (S := fun w' => w'.cell? ⟨gb243, 0, none⟩ = some (.int .i64 (wrap64 (Int.tmod (rd l0 x4_1) 5))) ∧ w'.cell? ⟨gb243, 1, none⟩ = some (u244001) ∧ w'.cell? (ad242.add (x4_1).toNat) = some (.int .u8 (rd l0 x4_1))) (ds := [17]) (Array.replicate 18 false) (by kernel_rfl) rfl rfl ⟨(q9 BK243.out 0).trans rfl, (q9 BK243.out 1).trans rfl, (cl HB.out hw245_0)⟩ (fun hHeld => ?_); refine with_tabW frisketlaw36_numbered.tab9 frisketlaw36_numbered.bits9 (fun HT_ HW_ => ?_)
           generalize wr.drew = w10 at HO_3 HO_244001 BK243 HB hx245_0 hHeld ⊢
           refine go_in [0, 2, 4, 5, 6, 7, 1, 3, 8, 9, 10, 11, 12, 13] ?_
           repeat (first | (refine pz (v := ?_) (a' := ?_) HT_ rfl rfl (by kernel_rfl) (fun _ _ _ h => h) (Or.inl ⟨by rfl, ?_⟩) ?_ ?_; rotate_left; (focus intro w'; go_simp; with_reducible rfl); rotate_left; (focus simp only [Act.put, List.setIfInBounds_toArray, List.set_cons_zero, List.set_cons_succ, i64_w, i32_w, u8_w, u8_tm, u8_c, u8_cm, u8_two]; rfl)) | (refine tz (v := ?_) (a' := ?_) HT_ HW_ rfl rfl hHeld (by kernel_rfl) (fun _ _ _ h => h) (Or.inl ⟨by rfl, ?_⟩) ?_ ?_; rotate_left; (focus rintro w' ⟨s0, s1, s2⟩; go_simp; with_reducible rfl); rotate_left; (focus simp only [Act.put, List.setIfInBounds_toArray, List.set_cons_zero, List.set_cons_succ, i64_w, i32_w, u8_w, u8_tm, u8_c, u8_cm, u8_two]; rfl)))
           refine go_out ?_
           refine one_ (i := 14) (N := some 45) (fl 18 15 []) rfl rfl (one_of HT_.out (by kernel_rfl)) (by decide) (fun K hK => ?_)
           refine value_ (w1 := ?_) (v := ?_) (by rfl) rfl ?_ ?_
           rotate_left 2
           ·go_simp
            constructor
            ·rfl
            ·rfl
           refine hK.out _ _ ⟨(q9 (q2 BK243.out _) 0).trans rfl, (q9 (q2 BK243.out _) 1).trans rfl, (World.cell?_alloc_lt _ _ _ (q14 _ _ ((cl HB.out hw245_0)))).trans ((cl HB.out hw245_0))⟩ (fun hHeld => ?_)
           clear hK K
           refine norm_ (a' := ?_) ?_ ?_
           rotate_left
           ·show Act.put _ (some 45) _ = _
            simp only [Act.put, List.setIfInBounds_toArray, List.set_cons_zero, List.set_cons_succ, i64_w, i32_w]
            rfl
           refine one_ (i := 15) (N := some 46) (fl 18 16 []) rfl rfl (one_of HT_.out (by kernel_rfl)) (by decide) (fun K hK => ?_)
           rw [show Int.tdiv (rd l0 x4_1) 15 % 2 = Int.tdiv (rd l0 x4_1) 15 % 256 % 2 from by omega]
           refine Kd.S_append_step k69 (w0 := w) w.heap.size (by rfl) (.tmp 32) (.tmp 45) 22 69 (.agg #[(.int .i64 0), (.int .i64 0), (.int .i64 0), (.int .i64 0), (.int .i64 0), (.string ⟨#[]⟩), (.string ⟨#[]⟩), (.string ⟨#[]⟩), (.slice none 0 0)]) 112 rfl Try.underlying22 info69 rfl (by decide) (by omega) u244001 x244001_2 (⟨(wrap64 (Int.tmod (rd l0 x4_1) 5)), wrap64 (x6_2 * (((Int.tdiv (rd l0 x4_1) 15) % 256) % 2)), 0, 0, 10, (⟨#[]⟩ : ByteArray), (⟨#[97]⟩ : ByteArray), (⟨#[]⟩ : ByteArray), ([] : List Int)⟩ : S69) [.int .i64 (wrap64 (Int.tmod (rd l0 x4_1) 5)), .int .i64 (wrap64 (x6_2 * (((Int.tdiv (rd l0 x4_1) 15) % 256) % 2))), .int .i64 0, .int .i64 0, .int .i64 10, .string (⟨#[]⟩ : ByteArray), .string (⟨#[97]⟩ : ByteArray), .string (⟨#[]⟩ : ByteArray), .slice none 0 0] (fun _ => True) (fun _ => False) rfl rfl ?aP (fun k_ hk_ => hk_.elim) ?aF ?aO ?aB ?aS ?aL ?_
           (case aP => exact k69_mkM _ _ _ (⟨(wrap64 (Int.tmod (rd l0 x4_1) 5)), wrap64 (x6_2 * (((Int.tdiv (rd l0 x4_1) 15) % 256) % 2)), 0, 0, 10, (⟨#[]⟩ : ByteArray), (⟨#[97]⟩ : ByteArray), (⟨#[]⟩ : ByteArray), ([] : List Int)⟩ : S69) (Kd.R_nil _ _ _ _ _))
           (case aB => exact (by repeat (first | (with_reducible first | exact HB.out | apply q3 | apply q4 | apply q5 | refine q6 ?_ GE243.out) | exact HB.out)))
           (case aF => exact (fun _ _ => trivial))
           (case aO => exact (by (with_reducible repeat (first | apply q31 | apply q32 | apply q33)); exact Kd.S_mono HO_244001.out (fun k_ hk => ⟨trivial, fun e_ => e_⟩)))
           (case aS => exact (q7 (by repeat (first | (with_reducible first | exact HB.out | apply q3 | apply q4 | apply q5 | refine q6 ?_ GE243.out) | exact HB.out))))
           (case aL => have := LMc9.out; omega)
           intro v247 w11 ho hb hg hat
           rw [← Ny246.out] at ho
           have n0_ := q13 (Kd.R_after (ok := (fun k_ => k_ ≠ gb243)) (by (with_reducible repeat (first | apply Kd.R_alloc | apply Kd.R_drewN | apply Kd.R_drew)); exact Kd.R_mono HO_3.out (fun _ hk => ⟨hk.2, hk.1⟩)) hg hat)
           have n1_ := q13 (blk_grown (g := gb243) (o := .cells #[.int .i64 (wrap64 (Int.tmod (rd l0 x4_1) 5)), u244001] 24 (0, 0)) (gK BK243) hg (Kd.S_ne HO_244001.out BK243.out (by decide)))
           have n2_ := q13 (hb)
           have n3_ := q13 (ho)
           clear HO_3
           clear BK243
           clear HB
           clear HO_244001
           have HO_3 := n0_
           have BK243 := n1_
           have HB := n2_
           have HO248 := n3_
           clear n0_ n1_ n2_ n3_
           clear ho hb hg hat
           obtain ⟨Ao12, co12, eo12⟩ := Kd.S_slice HO248.out
           (first | subst eo12 | (injection eo12 with f1_ f2_ f3_; have f4_ := f1_.symm; have f5_ := f3_.symm; clear f1_ f2_ f3_; subst f4_; subst f5_))
           refine hK.out _ _ ⟨(q9 BK243.out 0).trans rfl, (q9 BK243.out 1).trans rfl, (cl HB.out hw245_0)⟩ (fun hHeld => ?_)
           clear hK K
           refine norm_ (a' := ?_) ?_ ?_
           rotate_left
           ·show Act.put _ (some 46) _ = _
            simp only [Act.put, List.setIfInBounds_toArray, List.set_cons_zero, List.set_cons_succ, i64_w, i32_w]
            rfl
           refine go_in [16] ?_
           (refine pz (v := ?_) (a' := ?_) HT_ rfl rfl (by kernel_rfl) (fun _ _ _ h => h) (Or.inl ⟨by rfl, ?_⟩) ?_ ?_; rotate_left; (focus intro w'; go_simp; with_reducible rfl); rotate_left; (focus simp only [Act.put, List.setIfInBounds_toArray, List.set_cons_zero, List.set_cons_succ, i64_w, i32_w, u8_w, u8_tm, u8_c, u8_cm, u8_two]; rfl))
           refine go_out ?_
           refine last_ (i := 17) (N := none) (fl 18 18 []) rfl rfl (one_of HT_.out (by kernel_rfl)) (by decide) (fun K hK => ?_)
           have hs13 : w11.cell? ⟨gb243, 1, none⟩ = some (u244001) := (q9 BK243.out 1).trans rfl
           have hfs13 := q11 BK243.out 1
           refine skip_ (w1 := ?_) (by rfl) rfl ?_ ?_
           rotate_left
           ·go_simp
            rfl
           refine hK.out _ _ ?_
           clear hK K
           refine done_ (done_of HT_.out (by kernel_rfl)) ?_
           try go_wp2
           go_roundg k2
           case measure => have := HK1.out; have := HK2.out; omega
           case rel => exact ⟨(wrap64 (x6_2 + 1)), (y246), (.slice Ao12 y246.length co12), (by first | rfl | (simp; done) | (simp [*]; done)), H', ⟨by have := HK1.out; have := HK2.out; omega⟩, ⟨by (with_reducible repeat (first | apply Kd.R_alloc | apply Kd.R_drewN | apply Kd.R_drew)); exact Kd.R_mono (Kd.R_far (p := ⟨gb243, 1, none⟩) (Kd.R_mono HO_3.out (fun k_ hk => (⟨hk, hk.1⟩ : _ ∧ k_ ≠ gb243))) (fun _ hk => hk.2) (.slice Ao12 y246.length co12)) (fun _ hk => ⟨hk.1.2, hk.1.1⟩)⟩, ⟨by (with_reducible repeat (first | apply q31 | apply q32 | apply q33)); exact Kd.S_mono (Kd.S_far (p := ⟨gb243, 1, none⟩) (Kd.S_types HO248.out BK243.out (by decide)) (fun _ hk => hk.2) (.slice Ao12 y246.length co12)) (fun _ hk => trivial)⟩, ⟨by (with_reducible repeat (first | refine q0 ?_ _ | refine q1 ?_ | refine q2 ?_ _)); refine blk_put (cs := #[.int .i64 (wrap64 (Int.tmod (rd l0 x4_1) 5)), u244001]) ?_ 1 _ rfl; (with_reducible repeat (first | refine q0 ?_ _ | refine q1 ?_ | refine q2 ?_ _)); exact BK243.out⟩, ⟨by repeat (first | (with_reducible first | exact HB.out | apply q3 | apply q4 | apply q5 | refine q6 ?_ GE243.out) | exact HB.out)⟩⟩
          ·rw [if_neg c9] at H
           exact absurd H (by simp)
         ·rw [if_neg c8] at H
          have c8b0 : decide (x6_2 < (((Int.tdiv (rd l0 x4_1) 5) % 256) % 3)) = false := decide_eq_false c8
          clear c8
          by_cases c14 : x3_1.length < 4398046511104
          ·rw [if_pos c14] at H
           have LMc14 := q13 c14
           clear c14
           obtain ⟨y249, hy249⟩ : ∃ y_ : List (S24), y_ = (x3_1 ++ [(⟨(wrap64 (Int.tmod (rd l0 x4_1) 5)), x244001_2⟩ : S24)]) := ⟨_, rfl⟩
           replace H : (frisketlaw36_numbered.l0 k2 l0 y249 (wrap64 (x4_1 + 1))) = some r := by first | (rw [hy249]; with_reducible exact H) | (have H2_ := (Option.bind_some _ _).symm.trans H; rw [hy249]; with_reducible exact H2_) | (have H2_ := (Option.bind_some _ _).symm.trans H; with_reducible exact H2_) | with_reducible exact H | (rw [hy249]; exact H) | exact H
           have Ny249 := q13 hy249
           clear hy249
           have H' := q13 H
           clear H
           have p244 : 0 ≤ (x4_1 : Int) := q15 (by assumption)
           have q244 : x4_1 < (l0.length : Int) := q15 (by assumption)
           obtain ⟨ad244, e244, hx244_0⟩ := Kd.at_int HR0.out x4_1 p244 q244
           obtain rfl : ad242 = ad244 := (by injection e244)
           replace hx244_0 := cl HB.out hx244_0
           replace p244 := eq_true p244
           replace q244 := eq_true q244
           have hcz15_0 : wr.cell? ⟨gb243, 0, none⟩ = some (.int .i64 (wrap64 (Int.tmod (rd l0 x4_1) 5))) := (q9 BK243.out 0).trans rfl
           have hcz15_1 : wr.cell? ⟨gb243, 1, none⟩ = some (u244001) := (q9 BK243.out 1).trans rfl
           have hfz15_0 := q11 BK243.out 0
           have hfz15_1 := q11 BK243.out 1
           obtain ⟨Ao17, co17, eo17⟩ := Kd.S_slice HO_244001.out
           subst eo17
           go_wp2_with (first | ((with_reducible refine gate_builtin (b := .append) (xs := #[.tmp 48, .tmp 50]) rfl ?_); at_builtin; refine Kd.R_append k24 (w0 := w) w.heap.size rfl (.tmp 48) (.tmp 50) 26 24 (.agg #[(.int .i64 0), (.slice none 0 0)]) 32 rfl Try.underlying26 info24 rfl (by decide) (by omega) u3 x3_1 (⟨(wrap64 (Int.tmod (rd l0 x4_1) 5)), x244001_2⟩ : S24) [.int .i64 (wrap64 (Int.tmod (rd l0 x4_1) 5)), .slice Ao17 x244001_2.length co17] (fun k_ => k_ ≠ gb243) (fun k_ => ((fun k_ => k_ ≠ gb243)) k_ ∧ some k_ ≠ (u3 : Value).ownBlock) rfl rfl ?aP (fun _ hk => hk) ?aF ?aO ?aB ?aS ?aL ?_; (case aP => exact k24_mkM _ _ _ (⟨(wrap64 (Int.tmod (rd l0 x4_1) 5)), x244001_2⟩ : S24) (Kd.R_mono (Kd.R_types (Kd.R_apart' ((Kd.S_R HO_244001.out)) (Kd.R_typed HO_3.out) (by decide)) BK243.out (by decide)) (fun k_ hk => ⟨hk.2, hk.1.2⟩))); (case aB => exact (by repeat (first | (with_reducible first | exact HB.out | apply q3 | apply q4 | apply q5 | refine q6 ?_ GE243.out) | exact HB.out))); (case aF => exact (fun k_ hk => Kd.freshB (g := gb243) (o := .cells #[.int .i64 (wrap64 (Int.tmod (rd l0 x4_1) 5)), .slice Ao17 x244001_2.length co17] 24 (0, 0)) (gK BK243) k_ hk)); (case aO => exact (by (with_reducible repeat (first | apply Kd.R_alloc | apply Kd.R_drewN | apply Kd.R_drew)); exact Kd.R_mono HO_3.out (fun _ hk => hk.2))); (case aS => exact (q7 (by repeat (first | (with_reducible first | exact HB.out | apply q3 | apply q4 | apply q5 | refine q6 ?_ GE243.out) | exact HB.out)))); (case aL => have := LMc14.out; omega); intro v250 w16 ho hb hg hat; rw [← Ny249.out] at ho; have n0_ := q13 (blk_grown (g := gb243) (o := .cells #[.int .i64 (wrap64 (Int.tmod (rd l0 x4_1) 5)), .slice Ao17 x244001_2.length co17] 24 (0, 0)) (gK BK243) hg (Kd.R_away HO_3.out (fun _ hk => hk.2))); have n1_ := q13 (hb); have n2_ := q13 (ho); clear BK243; clear HB; clear HO_3; clear HO_244001; have BK243 := n0_; have HB := n1_; have HO251 := n2_; clear n0_ n1_ n2_; clear ho hb hg hat))
           go_roundg k2
           case measure => have := HK1.out; have := HK2.out; omega
           case rel => exact ⟨(y249), (wrap64 (x4_1 + 1)), (by first | rfl | (simp; done) | (simp [*]; done)), H', ⟨by have := HK1.out; have := HK2.out; omega⟩, ⟨by (with_reducible repeat (first | apply Kd.R_alloc | apply Kd.R_drewN | apply Kd.R_drew)); exact Kd.R_mono HO251.out (fun _ hk => trivial)⟩, ⟨by repeat (first | (with_reducible first | exact HB.out | apply q3 | apply q4 | apply q5 | refine q6 ?_ GE243.out) | exact HB.out)⟩⟩
          ·rw [if_neg c14] at H
           exact absurd H (by simp)
        ·rw [if_neg c7] at H
         exact absurd H (by simp)
       ·rw [if_neg c6] at H
        exact absurd H (by simp)
    ·rw [if_neg c3] at H
     exact absurd H (by simp)
   ·rw [if_neg c2] at H
    have c2b0 : decide (x4_1 < (l0.length : Int)) = false := decide_eq_false c2
    clear c2
    obtain rfl := Option.some.inj H
    go_wp2
    go_ret
    exact ⟨_, by first | rfl | (simp [errW_none, errW_some] <;> rfl) | (simp [*, errW_none, errW_some] <;> rfl), by (with_reducible repeat (first | apply Kd.R_alloc | apply Kd.R_drewN | apply Kd.R_drew)); exact HO_3.out, gB HB⟩

end Go.Proofs.Ytgjmljjnminefaa.QCompareApplies
