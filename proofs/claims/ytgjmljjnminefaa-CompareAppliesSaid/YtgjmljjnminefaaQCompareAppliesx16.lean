import Derived.Lib.SliceRun
import Derived.Test.YtgjmljjnminefaaQCompareAppliesx0
import Derived.Test.YtgjmljjnminefaaQCompareAppliesx14
import Derived.Test.YtgjmljjnminefaaQCompareAppliesx15
import Derived.Test.YtgjmljjnminefaaArrEq
import Derived.Test.YtgjmljjnminefaaZip
import Derived.Test.YtgjmljjnminefaaZip2
namespace Go.Proofs.Ytgjmljjnminefaa.QCompareApplies
open Go.Proofs.Ytgjmljjnminefaa.Zip2 Go.Proofs.Ytgjmljjnminefaa.Zip Go.RowKit Go.Proofs.YtgjmljjnminefaaW.PrintWords Go.Proofs.YtgjmljjnminefaaW.PrintLast Go.Proofs.YtgjmljjnminefaaW.PrintMore
attribute [local go_sem] max2_int min2_int max_two min_two max_three min_three max_four min_four   -- for this text's walks alone
set_option linter.unusedVariables false
set_option linter.unusedSimpArgs false

mutual
def frisketref36_Apply.j0 : Nat → List (S35) → Bool → Option ((List (S35)) × Int)
 | 0, _, _ => none
 | k + 1, x2, x22 => if x22 = true then (some (([] : List (S35)), 2)) else (frisketref36_Apply.l0 k x2 ([] : List (S35)) 0)
def frisketref36_Apply.l0 : Nat → List (S35) → List (S35) → Int → Option ((List (S35)) × Int)
 | 0, _, _, _ => none
 | k + 1, x2, x8, x9 => if x9 < (x2.length : Int) then (if 0 ≤ x9 then ((frisketref36_Own.f k ((rd_T35 x2 x9).f1)).bind fun t342 => (if x8.length < 4398046511104 then (frisketref36_Apply.l0 k x2 (x8 ++ [(⟨(rd_T35 x2 x9).f0, t342⟩ : S35)]) (wrap64 (x9 + 1))) else (none))) else (none)) else (some (x8, 0))
end
def frisketref36_Apply.f (k : Nat) (l0 : List (S35)) (l1 : List (S84)) (l2 : List (S35)) : Option ((List (S35)) × Int) := (frisketref36_Right.f k l0 l1 l2).bind fun t339 => (if (t339 = true) then (if (l0.length : Int) > 200 then (frisketref36_Apply.j0 k l2 true) else (frisketref36_Apply.j0 k l2 (decide ((l2.length : Int) > 200)))) else (some (([] : List (S35)), 1)))
theorem frisketref36_Apply.mono_l : ∀ k, (∀ y0 y1, LeO (frisketref36_Apply.j0 k y0 y1) (frisketref36_Apply.j0 (k + 1) y0 y1)) ∧ (∀ y0 y1 y2, LeO (frisketref36_Apply.l0 k y0 y1 y2) (frisketref36_Apply.l0 (k + 1) y0 y1 y2))
 | 0 => ⟨fun _ _ r h => by simp [frisketref36_Apply.j0] at h, fun _ _ _ r h => by simp [frisketref36_Apply.l0] at h⟩
 | k + 1 => by
  obtain ⟨ih0, ih1⟩ := frisketref36_Apply.mono_l k
  refine ⟨?_, ?_⟩
  ·intro y0 y1
   unfold frisketref36_Apply.j0
   repeat' first
   | (with_reducible exact ih0 _ _)
   | (with_reducible exact ih1 _ _ _)
   | (with_reducible exact frisketref36_Own.mono _ _)
   | (with_reducible exact frisketref36_Right.mono _ _ _ _)
   | (with_reducible exact LeO.refl _)
   | (with_reducible exact LeO.none _)
   | (with_reducible refine LeO.ite ?_ ?_)
   | (with_reducible refine LeO.bind ?_ (fun _ => ?_))
   | exact ih0 _ _
   | exact ih1 _ _ _
   | exact frisketref36_Own.mono _ _
   | exact frisketref36_Right.mono _ _ _ _
   | exact LeO.none _
   | refine LeO.ite ?_ ?_
   | refine LeO.bind ?_ (fun _ => ?_)
  ·intro y0 y1 y2
   unfold frisketref36_Apply.l0
   repeat' first
   | (with_reducible exact ih0 _ _)
   | (with_reducible exact ih1 _ _ _)
   | (with_reducible exact frisketref36_Own.mono _ _)
   | (with_reducible exact frisketref36_Right.mono _ _ _ _)
   | (with_reducible exact LeO.refl _)
   | (with_reducible exact LeO.none _)
   | (with_reducible refine LeO.ite ?_ ?_)
   | (with_reducible refine LeO.bind ?_ (fun _ => ?_))
   | exact ih0 _ _
   | exact ih1 _ _ _
   | exact frisketref36_Own.mono _ _
   | exact frisketref36_Right.mono _ _ _ _
   | exact LeO.none _
   | refine LeO.ite ?_ ?_
   | refine LeO.bind ?_ (fun _ => ?_)
theorem frisketref36_Apply.mono : ∀ a0 a1 a2 k, LeO (frisketref36_Apply.f k a0 a1 a2) (frisketref36_Apply.f (k + 1) a0 a1 a2) := by
 intro a0 a1 a2 k
 obtain ⟨ih0, ih1⟩ := frisketref36_Apply.mono_l k
 unfold frisketref36_Apply.f
 repeat' first
   | (with_reducible exact ih0 _ _)
   | (with_reducible exact ih1 _ _ _)
   | (with_reducible exact frisketref36_Own.mono _ _)
   | (with_reducible exact frisketref36_Right.mono _ _ _ _)
   | (with_reducible exact LeO.refl _)
   | (with_reducible exact LeO.none _)
   | (with_reducible refine LeO.ite ?_ ?_)
   | (with_reducible refine LeO.bind ?_ (fun _ => ?_))
   | exact ih0 _ _
   | exact ih1 _ _ _
   | exact frisketref36_Own.mono _ _
   | exact frisketref36_Right.mono _ _ _ _
   | exact LeO.none _
   | refine LeO.ite ?_ ?_
   | refine LeO.bind ?_ (fun _ => ?_)
def frisketref36_Apply.T9 : Bool × List (List Nat × List Nat) := (true, [([], []), ([], []), ([], []), ([1, 2], [1, 2]), ([3], [3]), ([4], [4]), ([], []), ([], []), ([6, 7], [6, 7]), ([8], [8]), ([9], [9]), ([10], [10]), ([5, 11], [5, 11]), ([12], [12]), ([0, 13, 11], [0, 13]), ([14, 14, 0, 1, 2, 3, 4, 5, 6, 7, 8, 9, 10, 11, 12, 13, 14], [0, 14])])
def frisketref36_Apply.B9 : List Nat := [0, 0, 0, 6, 14, 30, 0, 0, 192, 448, 960, 1984, 4094, 8190, 16383, 32767]
theorem frisketref36_Apply.tab9 : rtab .any (opsOf Try.f26 9) = frisketref36_Apply.T9 := by kernel_rfl
theorem frisketref36_Apply.bits9 : waitsOk frisketref36_Apply.T9.2 frisketref36_Apply.B9 = true := by kernel_rfl
set_option maxHeartbeats 8000000 in
set_option maxRecDepth 100000 in
theorem frisketref36_Apply.calls (k : Nat) (A0 : Option Addr) (c0 : Nat) (l0 : List (S35)) (A1 : Option Addr) (c1 : Nat) (l1 : List (S84)) (P2_ : Nat → Prop) (A2 : Option Addr) (c2 : Nat) (l2 : List (S35)) (r1 : List (S35)) (r2 : Int) (w : World) (hr0 : Kd.C k35 w A0 l0.length l0) (hc0 : l0.length ≤ c0) (hr1 : Kd.C k84 w A1 l1.length l1) (hc1 : l1.length ≤ c1) (hs2 : Kd.V k35 35 w w.heap.size (fun k_ => P2_ k_) (.slice A2 l2.length c2) l2) (h : frisketref36_Apply.f k l0 l1 l2 = some (r1, r2)) :
  Calls Try.prog 26 #[.slice A0 l0.length c0, .slice A1 l1.length c1, .slice A2 l2.length c2] w fun e w' => ∃ v0_ : Value, e = .returned (.tuple #[v0_, .int .i64 r2]) ∧ Kd.N k35 35 w' w.heap.size (fun k_ => (P2_ k_ ∨ w.heap.size ≤ k_)) v0_ r1 ∧ Below w.heap.size w w' := by
 have hu35 := Try.underlying35
 have HR0 := q13 hr0
 have HC0 := q13 hc0
 clear hr0 hc0
 have HR1 := q13 hr1
 have HC1 := q13 hc1
 clear hr1 hc1
 have HO2 := q13 (show Kd.V k35 35 w w.heap.size (fun k_ => (P2_ k_ ∨ w.heap.size ≤ k_)) (.slice A2 l2.length c2) l2 from q34 hs2 (fun k_ hk => .inl hk))
 have HB := q13 (Below.refl w.heap.size w)
 have H : ((frisketref36_Right.f k l0 l1 l2).bind fun t339 => (if (t339 = true) then (if (l0.length : Int) > 200 then (frisketref36_Apply.j0 k l2 true) else (frisketref36_Apply.j0 k l2 (decide ((l2.length : Int) > 200)))) else (some (([] : List (S35)), 1)))) = some (r1, r2) := h
 clear h
 replace H := Option.bind_eq_some_iff.mp H
 obtain ⟨t339, A40, H⟩ := H
 replace H : (if (t339 = true) then (if (l0.length : Int) > 200 then (frisketref36_Apply.j0 k l2 true) else (frisketref36_Apply.j0 k l2 (decide ((l2.length : Int) > 200)))) else (some (([] : List (S35)), 1))) = some (r1, r2) := H
 have A4 := q13 A40
 clear A40
 by_cases c5 : (t339 = true)
 ·subst c5
  have H1 : (if (l0.length : Int) > 200 then (frisketref36_Apply.j0 k l2 true) else (frisketref36_Apply.j0 k l2 (decide ((l2.length : Int) > 200)))) = some (r1, r2) := by rw [if_pos rfl] at H; exact H
  clear H
  have H := H1
  clear H1
  have HC6 := q13 H
  clear H
  go_enter Try.func26, Try.ntmps26
  go_upto_region 3 with (first | ((with_reducible refine gate_callee (f := 38) rfl ?_); refine goesL_ (some 13) rfl rfl Try.func38 (by kernel_rfl) rfl #[.slice A0 l0.length c0, .slice A1 l1.length c1, .slice A2 l2.length c2] rfl (by (try simp only [List.map_toArray, List.map_cons, List.map_nil]); first | done | rfl | (simp only [List.length_drop, List.length_take]; rfl)) ?_; (with_reducible refine (frisketref36_Right.calls k _ _ l0 _ _ l1 _ _ l2 true _ ?side1 ?side2 ?side3 ?side4 ?side5 ?side6 A4.out).mono ?_); (case side1 => repeat (first | exact HR0.out | (with_reducible refine q18 ?_ _) | (with_reducible refine q19 ?_ _) | (with_reducible refine q20 ?_))); (case side2 => exact HC0.out); (case side3 => repeat (first | exact HR1.out | (with_reducible refine q18 ?_ _) | (with_reducible refine q19 ?_ _) | (with_reducible refine q20 ?_))); (case side4 => exact HC1.out); (case side5 => repeat (first | exact (Kd.V_reads' HO2.out).2.2 | (with_reducible refine q18 ?_ _) | (with_reducible refine q19 ?_ _) | (with_reducible refine q20 ?_))); (case side6 => exact (Kd.V_reads' HO2.out).2.1); rintro e w7 ⟨rfl, hb⟩; refine ⟨_, rfl, ?_⟩; have n0_ := q13 (Kd.V_below (gV HO2) hb); have n1_ := q13 (q12 (gB HB) hb); clear HO2; clear HB; have HO2 := n0_; have HB := n1_; clear n0_ n1_; (try clear hb); (try clear hb2); (try clear hk); (try clear hi)))
  (try simp only [Act.put, List.setIfInBounds_toArray, List.set_cons_zero, List.set_cons_succ])
  go_cut [22] (fun v22 wc => ∃ (kq : Nat) (x22_5 : Bool), v22 = .bool x22_5 ∧ Aside0 (frisketref36_Apply.j0 kq l2 x22_5 = some (r1, r2)) ∧ Aside0 (kq ≤ k) ∧ Aside0 (Kd.V k35 35 wc w.heap.size (fun k_ => (P2_ k_ ∨ w.heap.size ≤ k_)) (.slice A2 l2.length c2) l2) ∧ Aside0 (Below w.heap.size w wc))
  case first =>
   have H := HC6.out
   clear HC6
   by_cases c8 : (l0.length : Int) > 200
   ·rw [if_pos c8] at H
    have c8b0 : decide (200 < (l0.length : Int)) = true := decide_eq_true c8
    have c8b1 : decide (200 < l0.length) = true := decide_eq_true (by omega)
    clear c8
    (first | rw [c8b0] | (simp only [i64_w, i32_w]; rw [c8b0]) | skip)
    have H' := q13 H
    clear H
    go_wp2
    go_meet
    case rel => exact ⟨_, (true), (by first | rfl | (simp; done) | (simp [*]; done)), H', ⟨by first | omega | exact q17 _⟩, ⟨by (with_reducible repeat (first | apply Kd.V_alloc | apply Kd.V_drewN | apply Kd.V_drew)); exact HO2.out⟩, ⟨gB HB⟩⟩
   ·rw [if_neg c8] at H
    have c8b0 : decide (200 < (l0.length : Int)) = false := decide_eq_false c8
    have c8b1 : decide (200 < l0.length) = false := decide_eq_false (by omega)
    clear c8
    (first | rw [c8b0] | (simp only [i64_w, i32_w]; rw [c8b0]) | skip)
    have H' := q13 H
    clear H
    go_wp2
    go_meet
    case rel => exact ⟨_, (decide ((l2.length : Int) > 200)), (by first | rfl | (simp; done) | (simp [*]; done)), H', ⟨by first | omega | exact q17 _⟩, ⟨by (with_reducible repeat (first | apply Kd.V_alloc | apply Kd.V_drewN | apply Kd.V_drew)); exact HO2.out⟩, ⟨gB HB⟩⟩
  case rest =>
   clear HC6
   try clear c1
   try clear c2
   try clear p2
   try clear c3
   try clear c5
   try clear c8
   try clear c8b0
   try clear c8b1
   obtain ⟨kq, x22_5, rfl, HA, HJ5, HO_2, HB⟩ := hcut
   cases kq with
   | zero => exact absurd HA.out (by simp [frisketref36_Apply.j0])
   | succ kj5 =>
    have H := HA.out
    clear HA
    simp only [frisketref36_Apply.j0] at H
    by_cases c9 : x22_5 = true
    ·subst c9
     have H1 : (some (([] : List (S35)), 2)) = some (r1, r2) := by rw [if_pos rfl] at H; exact H
     clear H
     have H := H1
     clear H1
     simp only [Option.some.injEq, Prod.mk.injEq] at H
     obtain ⟨rfl, rfl⟩ := H
     go_wp2
     go_ret2
     exact ⟨_, by first | rfl | (simp [errW_none, errW_some] <;> rfl) | (simp [*, errW_none, errW_some] <;> rfl), by first | exact Kd.R_nil _ _ _ _ _ | exact Kd.N_nil _ _ _ _ _ | exact Kd.V_nil _ _ _ _ _ | exact Kd.Q_nil _ _ _ _ _ | exact Kd.S_nil _ _ _ _ _, gB HB⟩
    ·replace c9 := Bool.eq_false_iff.mpr c9
     subst c9
     have H1 : (frisketref36_Apply.l0 kj5 l2 ([] : List (S35)) 0) = some (r1, r2) := by rw [if_neg (show ¬ (false = true) by decide)] at H; exact H
     clear H
     have H := H1
     clear H1
     have H' := q13 H
     clear H
     go_wp2
     go_loopg [8, 9] kj5 (fun kq v8 v9 w' => ∃ (x8_2 : List (S35)) (x9_2 : Int), v9 = .int .i64 x9_2 ∧ Aside0 (frisketref36_Apply.l0 kq l2 x8_2 x9_2 = some (r1, r2)) ∧ Aside0 (kq ≤ kj5) ∧ Aside0 (Kd.V k35 35 w' w.heap.size (fun k_ => (P2_ k_ ∨ w.heap.size ≤ k_) ∧ some k_ ≠ (v8 : Value).ownBlock) (.slice A2 l2.length c2) l2) ∧ Aside0 (Kd.N k35 35 w' w.heap.size (fun k_ => (P2_ k_ ∨ w.heap.size ≤ k_)) v8 x8_2) ∧ Aside0 (Below w.heap.size w w'))
     case atStart => exact ⟨(([] : List (S35))), (0), (by first | rfl | (simp; done) | (simp [*]; done)), H', ⟨q17 _⟩, ⟨by (with_reducible repeat (first | apply Kd.V_alloc | apply Kd.V_drewN | apply Kd.V_drew)); exact q34 HO_2.out (fun _ hk => ⟨hk, (by simp [Value.ownBlock])⟩)⟩, ⟨by first | exact Kd.R_nil _ _ _ _ _ | exact Kd.N_nil _ _ _ _ _ | exact Kd.V_nil _ _ _ _ _ | exact Kd.Q_nil _ _ _ _ _ | exact Kd.S_nil _ _ _ _ _⟩, ⟨gB HB⟩⟩
     case round =>
      clear H'
      try clear c1
      try clear c2
      try clear p2
      try clear c3
      try clear c5
      try clear c8
      try clear c8b0
      try clear c8b1
      try clear c9
      try clear p2
      obtain ⟨x8_2, x9_2, rfl, HA, HK2, HO_2, HO_8, HB⟩ := hrel
      cases gk with
      | zero => exact absurd HA.out (by simp [frisketref36_Apply.l0])
      | succ k2 =>
       have H := HA.out
       clear HA
       simp only [frisketref36_Apply.l0] at H
       by_cases c10 : x9_2 < (l2.length : Int)
       ·rw [if_pos c10] at H
        have c10b0 : decide (x9_2 < (l2.length : Int)) = true := decide_eq_true c10
        clear c10
        by_cases c11 : 0 ≤ x9_2
        ·rw [if_pos c11] at H
         have c11b0 : decide (0 ≤ x9_2) = true := decide_eq_true c11
         clear c11
         replace H := Option.bind_eq_some_iff.mp H
         obtain ⟨t342, A120, H⟩ := H
         replace H : (if x8_2.length < 4398046511104 then (frisketref36_Apply.l0 k2 l2 (x8_2 ++ [(⟨(rd_T35 l2 x9_2).f0, t342⟩ : S35)]) (wrap64 (x9_2 + 1))) else (none)) = some (r1, r2) := H
         have A12 := q13 A120
         clear A120
         by_cases c13 : x8_2.length < 4398046511104
         ·rw [if_pos c13] at H
          have LMc13 := q13 c13
          clear c13
          obtain ⟨y345, hy345⟩ : ∃ y_ : List (S35), y_ = (x8_2 ++ [(⟨(rd_T35 l2 x9_2).f0, t342⟩ : S35)]) := ⟨_, rfl⟩
          replace H : (frisketref36_Apply.l0 k2 l2 y345 (wrap64 (x9_2 + 1))) = some (r1, r2) := by first | (rw [hy345]; with_reducible exact H) | (have H2_ := (Option.bind_some _ _).symm.trans H; rw [hy345]; with_reducible exact H2_) | (have H2_ := (Option.bind_some _ _).symm.trans H; with_reducible exact H2_) | with_reducible exact H | (rw [hy345]; exact H) | exact H
          have Ny345 := q13 hy345
          clear hy345
          have H' := q13 H
          clear H
          try go_wp2
          have n0_ := q13 (Kd.V_drew HO_2.out)
          have n1_ := q13 (Kd.N_drew HO_8.out)
          have n2_ := q13 (q5 HB.out)
          clear HO_2
          clear HO_8
          clear HB
          have HO_2 := n0_
          have HO_8 := n1_
          have HB := n2_
          clear n0_ n1_ n2_
          have p340 : 0 ≤ (x9_2 : Int) := q15 (by assumption)
          have q340 : x9_2 < (l2.length : Int) := q15 (by assumption)
          obtain ⟨ad340, A340_1, c340_1, e340, hx340_0, hx340_1, hl340_1, hi340_1⟩ := at_T35 (Kd.V_reads' HO_2.out).2.2 x9_2 p340 q340
          cases e340
          obtain ⟨ce340, hce340, hMe340, hcc340⟩ := Kd.V_get HO_2.out z35 x9_2 p340 (by first | exact q340 | exact q15 (by assumption) | (have e_ := (Kd.V_reads' HO_2.out).1; omega))
          obtain ⟨ua340_1, uc340_1, rfl, ul340_1, ge340_1⟩ := k35_openF hMe340
          have hv340_1 := hcc340 1 _ rfl
          rw [add_field _ _ 1 (by omega)] at hv340_1
          replace hv340_1 := Option.some.inj (hv340_1.symm.trans hx340_1)
          injection hv340_1 with hva_ hvn_ hvc_
          rw [hva_] at ge340_1
          rw [hvc_] at ul340_1
          have HL340_1 := q13 (show Kd.V k69 69 _ w.heap.size _ _ ((rd_T35 l2 x9_2).f1) from Kd.V_mk ul340_1 ge340_1)
          clear hva_ hvn_ hvc_ ge340_1 ul340_1
          clear hcc340 hce340
          have HR340_1 := q13 hi340_1
          have HC340_1 := q13 hl340_1
          clear hi340_1 hl340_1
          replace p340 := eq_true p340
          replace q340 := eq_true q340
          have p341 : 0 ≤ (x9_2 : Int) := q15 (by assumption)
          have q341 : x9_2 < (l2.length : Int) := q15 (by assumption)
          obtain ⟨ad341, A341_1, c341_1, e341, hx341_0, hx341_1, hl341_1, hi341_1⟩ := at_T35 (Kd.V_reads' HO_2.out).2.2 x9_2 p341 q341
          obtain rfl : ad340 = ad341 := (by injection e341)
          obtain ⟨ce341, hce341, hMe341, hcc341⟩ := Kd.V_get HO_2.out z35 x9_2 p341 (by first | exact q341 | exact q15 (by assumption) | (have e_ := (Kd.V_reads' HO_2.out).1; omega))
          obtain ⟨ua341_1, uc341_1, rfl, ul341_1, ge341_1⟩ := k35_openF hMe341
          have hv341_1 := hcc341 1 _ rfl
          rw [add_field _ _ 1 (by omega)] at hv341_1
          replace hv341_1 := Option.some.inj (hv341_1.symm.trans hx341_1)
          injection hv341_1 with hva_ hvn_ hvc_
          rw [hva_] at ge341_1
          rw [hvc_] at ul341_1
          have HL341_1 := q13 (show Kd.V k69 69 _ w.heap.size _ _ ((rd_T35 l2 x9_2).f1) from Kd.V_mk ul341_1 ge341_1)
          clear hva_ hvn_ hvc_ ge341_1 ul341_1
          clear hcc341 hce341
          have HR341_1 := q13 hi341_1
          have HC341_1 := q13 hl341_1
          clear hi341_1 hl341_1
          replace p341 := eq_true p341
          replace q341 := eq_true q341
          have ea_ := Option.some.inj (hx340_1.symm.trans hx341_1)
          injection ea_ with ea_ en_ ec_
          subst ea_
          subst ec_
          clear en_
          refine start_ (n := 16) (S := fun w' => w'.cell? (ad340.add ((x9_2).toNat * 2)) = some (.int .i64 ((rd_T35 l2 x9_2).f0)) ∧ w'.cell? ⟨(ad340.add ((x9_2).toNat * 2)).block, (ad340.add ((x9_2).toNat * 2)).off + 1, none⟩ = some (.slice A340_1 ((rd_T35 l2 x9_2).f1).length c340_1) ∧ w'.cell? (ad340.add ((x9_2).toNat * 2)) = some (.int .i64 ((rd_T35 l2 x9_2).f0)) ∧ w'.cell? ⟨(ad340.add ((x9_2).toNat * 2)).block, (ad340.add ((x9_2).toNat * 2)).off + 1, none⟩ = some (.slice A340_1 ((rd_T35 l2 x9_2).f1).length c340_1)) (ds := [13, 14]) (Array.replicate 16 false) (by kernel_rfl) rfl rfl ⟨hx340_0, hx340_1, hx341_0, hx341_1⟩ (fun hHeld => ?_); refine with_tabW frisketref36_Apply.tab9 frisketref36_Apply.bits9 (fun HT_ HW_ => ?_)
          generalize wr.drew = w14 at HO_2 HO_8 HB HL340_1 HL341_1 HR340_1 HR341_1 hx340_0 hx340_1 hx341_0 hx341_1 hHeld ⊢
          refine go_in [0, 1, 2, 3, 4, 6, 7, 8, 9, 5, 10] ?_
          repeat (first | (refine pz (v := ?_) (a' := ?_) HT_ rfl rfl (by kernel_rfl) (fun _ _ _ h => h) (Or.inl ⟨by rfl, ?_⟩) ?_ ?_; rotate_left; (focus intro w'; go_simp; with_reducible rfl); rotate_left; (focus simp only [Act.put, List.setIfInBounds_toArray, List.set_cons_zero, List.set_cons_succ, i64_w, i32_w, u8_w, u8_tm, u8_c, u8_cm]; rfl)) | (refine tz (v := ?_) (a' := ?_) HT_ HW_ rfl rfl hHeld (by kernel_rfl) (fun _ _ _ h => h) (Or.inl ⟨by rfl, ?_⟩) ?_ ?_; rotate_left; (focus rintro w' ⟨s0, s1, s2, s3⟩; go_simp; with_reducible rfl); rotate_left; (focus simp only [Act.put, List.setIfInBounds_toArray, List.set_cons_zero, List.set_cons_succ, i64_w, i32_w, u8_w, u8_tm, u8_c, u8_cm]; rfl)))
          refine go_out ?_
          refine one_ (i := 11) (N := some 40) (fl 16 12 []) rfl rfl (one_of HT_.out (by kernel_rfl)) (by decide) (fun K hK => ?_)
          refine goes_ Try.func30 (by kernel_rfl) rfl #[.slice A340_1 ((rd_T35 l2 x9_2).f1).length c340_1] (by rfl) rfl rfl (by (try simp only [List.map_toArray, List.map_cons, List.map_nil]); first | done | rfl | (simp only [List.length_drop, List.length_take]; rfl)) ?_
          with_reducible refine (frisketref36_Own.calls k2 (fun k_ => ((P2_ k_ ∨ w.heap.size ≤ k_) ∧ some k_ ≠ (u8 : Value).ownBlock)) _ _ ((rd_T35 l2 x9_2).f1) t342 _ ?side1 A12.out).mono ?_
          (case side1 => exact HL341_1.out)
          rintro e w15 ⟨v343, rfl, ho0, hb⟩
          have HS0_ := (hb.cell (q14 _ _ (hHeld.1))).trans (hHeld.1)
          have HS1_ := (hb.cell (q14 _ _ (hHeld.2.1))).trans (hHeld.2.1)
          have HS2_ := (hb.cell (q14 _ _ (hHeld.2.2.1))).trans (hHeld.2.2.1)
          have HS3_ := (hb.cell (q14 _ _ (hHeld.2.2.2))).trans (hHeld.2.2.2)
          refine ⟨_, rfl, ?_⟩
          have n0_ := q13 (Kd.V_elder' (gV HO_2) (by first | exact Kd.N_base ho0 | exact Kd.R_base ho0) hb)
          have n1_ := q13 (Kd.N_elder' (gN HO_8) (by first | exact Kd.N_base ho0 | exact Kd.R_base ho0) hb)
          have n2_ := q13 (Kd.V_elder' (gV HL340_1) (by first | exact Kd.N_base ho0 | exact Kd.R_base ho0) hb)
          have n3_ := q13 (Kd.V_elder' (gV HL341_1) (by first | exact Kd.N_base ho0 | exact Kd.R_base ho0) hb)
          have n4_ := q13 (Kd.N_lower (Kd.N_mono (ok' := fun k_ => (P2_ k_ ∨ w.heap.size ≤ k_) ∧ some k_ ≠ (u8 : Value).ownBlock) ho0 (fun k_ hk_ => ⟨Or.elim hk_ (fun hs_ => hs_.1) (fun hn_ => (.inr (Nat.le_trans (q7 (gB HB)) hn_))), Or.elim hk_ (fun hs_ => hs_.2) (fun hn_ => (Kd.fresh' (Kd.N_lt (gN HO_8)) k_ hn_))⟩)) (q7 (gB HB)))
          have n5_ := q13 (Kd.C_below (by repeat (first | (with_reducible exact HR340_1.out) | (with_reducible refine q18 ?_ _) | (with_reducible refine q19 ?_ _) | (with_reducible refine q20 ?_) | exact HR340_1.out)) hb)
          have n6_ := q13 (Kd.C_below (by repeat (first | (with_reducible exact HR341_1.out) | (with_reducible refine q18 ?_ _) | (with_reducible refine q19 ?_ _) | (with_reducible refine q20 ?_) | exact HR341_1.out)) hb)
          have n7_ := q13 (q12 (gB HB) hb)
          clear HO_2
          clear HO_8
          clear HL340_1
          clear HL341_1
          clear HR340_1
          clear HR341_1
          clear HB
          have HO_2 := n0_
          have HO_8 := n1_
          have HL340_1 := n2_
          have HL341_1 := n3_
          have HO344 := n4_
          have HR340_1 := n5_
          have HR341_1 := n6_
          have HB := n7_
          clear n0_ n1_ n2_ n3_ n4_ n5_ n6_ n7_
          (try clear hb)
          (try clear hb2)
          (try clear hk)
          (try clear hi)
          (try clear ho0)
          obtain ⟨Ao16, co16, eo16⟩ := Kd.N_slice HO344.out
          (first | subst eo16 | (injection eo16 with f1_ f2_ f3_; have f4_ := f1_.symm; have f5_ := f3_.symm; clear f1_ f2_ f3_; subst f4_; subst f5_))
          refine hK.out _ _ ⟨HS0_, HS1_, HS2_, HS3_⟩ (fun hHeld => ?_)
          clear hK K
          refine norm_ (a' := ?_) ?_ ?_
          rotate_left
          ·show Act.put _ (some 40) _ = _
           simp only [Act.put, List.setIfInBounds_toArray, List.set_cons_zero, List.set_cons_succ, i64_w, i32_w]
           rfl
          refine go_in [12] ?_
          (refine pz (v := ?_) (a' := ?_) HT_ rfl rfl (by kernel_rfl) (fun _ _ _ h => h) (Or.inl ⟨by rfl, ?_⟩) ?_ ?_; rotate_left; (focus intro w'; go_simp; with_reducible rfl); rotate_left; (focus simp only [Act.put, List.setIfInBounds_toArray, List.set_cons_zero, List.set_cons_succ, i64_w, i32_w, u8_w, u8_tm, u8_c, u8_cm]; rfl))
          refine go_out ?_
          refine last_ (i := 13) (N := some 42) (fl 16 14 []) rfl rfl (one_of HT_.out (by kernel_rfl)) (by decide) (fun K hK => ?_)
          refine value_ (w1 := ?_) (v := ?_) (by rfl) rfl ?_ ?_
          rotate_left 2
          ·go_simp
           constructor
           ·rfl
           ·rfl
          refine hK.out _ _ ?_
          clear hK K
          refine norm_ (a' := ?_) ?_ ?_
          rotate_left
          ·show Act.put _ (some 42) _ = _
           simp only [Act.put, List.setIfInBounds_toArray, List.set_cons_zero, List.set_cons_succ, i64_w, i32_w]
           rfl
          refine last_ (i := 14) (N := some 43) (fl 16 15 []) rfl rfl (one_of HT_.out (by kernel_rfl)) (by decide) (fun K hK => ?_)
          refine Kd.N_append_step k35 (w0 := w) w.heap.size (by rfl) (.tmp 29) (.tmp 42) 28 35 (.agg #[(.int .i64 0), (.slice none 0 0)]) 32 rfl Try.underlying28 info35 rfl (by decide) (by omega) u8 x8_2 (⟨(rd_T35 l2 x9_2).f0, t342⟩ : S35) [.int .i64 ((rd_T35 l2 x9_2).f0), .slice Ao16 t342.length co16] (fun k_ => (P2_ k_ ∨ w.heap.size ≤ k_)) (fun k_ => ((fun k_ => (P2_ k_ ∨ w.heap.size ≤ k_))) k_ ∧ some k_ ≠ (u8 : Value).ownBlock) rfl rfl ?aP (fun _ hk => hk) ?aF ?aO ?aB ?aS ?aL ?_
          (case aP => exact (k35_mkF _ _ (⟨(rd_T35 l2 x9_2).f0, t342⟩ : S35) (Kd.N_reads' (Kd.N_mono (ok' := (fun k_ => ((fun k_ => (P2_ k_ ∨ w.heap.size ≤ k_))) k_ ∧ some k_ ≠ (u8 : Value).ownBlock)) (HO344.out) (fun k_ hk => ⟨hk.1, hk.2⟩))).2.1 (Kd.N_F (Kd.N_mono (ok' := (fun k_ => ((fun k_ => (P2_ k_ ∨ w.heap.size ≤ k_))) k_ ∧ some k_ ≠ (u8 : Value).ownBlock)) (HO344.out) (fun k_ hk => ⟨hk.1, hk.2⟩)))))
          (case aB => exact (gB HB))
          (case aF => exact (fun k_ hk => (.inr (Nat.le_trans (q7 (gB HB)) hk))))
          (case aO => exact (by (with_reducible repeat (first | apply Kd.N_alloc | apply Kd.N_drewN | apply Kd.N_drew)); exact Kd.N_mono HO_8.out (fun _ hk => hk.1)))
          (case aS => exact (q7 (gB HB)))
          (case aL => have := LMc13.out; omega)
          intro v346 w17 ho hb hg hat
          rw [← Ny345.out] at ho
          have n0_ := q13 (Kd.V_afterv (ok := (fun k_ => (P2_ k_ ∨ w.heap.size ≤ k_) ∧ some k_ ≠ (.slice Ao16 t342.length co16 : Value).ownBlock)) (by (with_reducible repeat (first | apply Kd.V_alloc | apply Kd.V_drewN | apply Kd.V_drew)); exact q34 HO_2.out (fun _ hk => ⟨⟨hk.1.1, hk.2⟩, hk.1.2⟩)) hg hat)
          have n1_ := q13 (Kd.V_afterv (ok := (fun k_ => (P2_ k_ ∨ w.heap.size ≤ k_) ∧ some k_ ≠ (.slice Ao16 t342.length co16 : Value).ownBlock)) (by (with_reducible repeat (first | apply Kd.V_alloc | apply Kd.V_drewN | apply Kd.V_drew)); exact q34 HL340_1.out (fun _ hk => ⟨⟨hk.1.1, hk.2⟩, hk.1.2⟩)) hg hat)
          have n2_ := q13 (Kd.V_afterv (ok := (fun k_ => (P2_ k_ ∨ w.heap.size ≤ k_) ∧ some k_ ≠ (.slice Ao16 t342.length co16 : Value).ownBlock)) (by (with_reducible repeat (first | apply Kd.V_alloc | apply Kd.V_drewN | apply Kd.V_drew)); exact q34 HL341_1.out (fun _ hk => ⟨⟨hk.1.1, hk.2⟩, hk.1.2⟩)) hg hat)
          have n3_ := q13 (hb)
          have n4_ := q13 (ho)
          clear HO_2
          clear HL340_1
          clear HL341_1
          clear HB
          clear HO_8
          clear HO344
          have HO_2 := n0_
          have HL340_1 := n1_
          have HL341_1 := n2_
          have HB := n3_
          have HO347 := n4_
          clear n0_ n1_ n2_ n3_ n4_
          clear ho hb hg hat
          refine hK.out _ _ ?_
          clear hK K
          refine norm_ (a' := ?_) ?_ ?_
          rotate_left
          ·show Act.put _ (some 43) _ = _
           simp only [Act.put, List.setIfInBounds_toArray, List.set_cons_zero, List.set_cons_succ, i64_w, i32_w]
           rfl
          refine go_in [15] ?_
          (refine pz (v := ?_) (a' := ?_) HT_ rfl rfl (by kernel_rfl) (fun _ _ _ h => h) (Or.inl ⟨by rfl, ?_⟩) ?_ ?_; rotate_left; (focus intro w'; go_simp; with_reducible rfl); rotate_left; (focus simp only [Act.put, List.setIfInBounds_toArray, List.set_cons_zero, List.set_cons_succ, i64_w, i32_w, u8_w, u8_tm, u8_c, u8_cm]; rfl))
          refine go_out ?_
          refine done_ (done_of HT_.out (by kernel_rfl)) ?_
          try go_wp2
          go_roundg k2
          case measure => have := HJ5.out; have := HK2.out; omega
          case rel => exact ⟨(y345), (wrap64 (x9_2 + 1)), (by first | rfl | (simp; done) | (simp [*]; done)), H', ⟨by have := HJ5.out; have := HK2.out; omega⟩, ⟨by (with_reducible repeat (first | apply Kd.V_alloc | apply Kd.V_drewN | apply Kd.V_drew)); exact q34 HO_2.out (fun _ hk => ⟨hk.1.1, hk.2⟩)⟩, ⟨by (with_reducible repeat (first | apply Kd.N_alloc | apply Kd.N_drewN | apply Kd.N_drew)); exact HO347.out⟩, ⟨gB HB⟩⟩
         ·rw [if_neg c13] at H
          exact absurd H (by simp)
        ·rw [if_neg c11] at H
         exact absurd H (by simp)
       ·rw [if_neg c10] at H
        have c10b0 : decide (x9_2 < (l2.length : Int)) = false := decide_eq_false c10
        clear c10
        simp only [Option.some.injEq, Prod.mk.injEq] at H
        obtain ⟨rfl, rfl⟩ := H
        go_wp2
        go_ret2
        exact ⟨_, by first | rfl | (simp [errW_none, errW_some] <;> rfl) | (simp [*, errW_none, errW_some] <;> rfl), by (with_reducible repeat (first | apply Kd.N_alloc | apply Kd.N_drewN | apply Kd.N_drew)); exact HO_8.out, gB HB⟩
 ·replace c5 := Bool.eq_false_iff.mpr c5
  subst c5
  have H1 : (some (([] : List (S35)), 1)) = some (r1, r2) := by rw [if_neg (show ¬ (false = true) by decide)] at H; exact H
  clear H
  have H := H1
  clear H1
  simp only [Option.some.injEq, Prod.mk.injEq] at H
  obtain ⟨rfl, rfl⟩ := H
  go_enter Try.func26, Try.ntmps26
  go_wp2_with (first | ((with_reducible refine gate_callee (f := 38) rfl ?_); refine goesL_ (some 13) rfl rfl Try.func38 (by kernel_rfl) rfl #[.slice A0 l0.length c0, .slice A1 l1.length c1, .slice A2 l2.length c2] rfl (by (try simp only [List.map_toArray, List.map_cons, List.map_nil]); first | done | rfl | (simp only [List.length_drop, List.length_take]; rfl)) ?_; (with_reducible refine (frisketref36_Right.calls k _ _ l0 _ _ l1 _ _ l2 false _ ?side1 ?side2 ?side3 ?side4 ?side5 ?side6 A4.out).mono ?_); (case side1 => repeat (first | exact HR0.out | (with_reducible refine q18 ?_ _) | (with_reducible refine q19 ?_ _) | (with_reducible refine q20 ?_))); (case side2 => exact HC0.out); (case side3 => repeat (first | exact HR1.out | (with_reducible refine q18 ?_ _) | (with_reducible refine q19 ?_ _) | (with_reducible refine q20 ?_))); (case side4 => exact HC1.out); (case side5 => repeat (first | exact (Kd.V_reads' HO2.out).2.2 | (with_reducible refine q18 ?_ _) | (with_reducible refine q19 ?_ _) | (with_reducible refine q20 ?_))); (case side6 => exact (Kd.V_reads' HO2.out).2.1); rintro e w18 ⟨rfl, hb⟩; refine ⟨_, rfl, ?_⟩; have n0_ := q13 (Kd.V_below (gV HO2) hb); have n1_ := q13 (q12 (gB HB) hb); clear HO2; clear HB; have HO2 := n0_; have HB := n1_; clear n0_ n1_; (try clear hb); (try clear hb2); (try clear hk); (try clear hi)))
  go_ret2
  exact ⟨_, by first | rfl | (simp [errW_none, errW_some] <;> rfl) | (simp [*, errW_none, errW_some] <;> rfl), by first | exact Kd.R_nil _ _ _ _ _ | exact Kd.N_nil _ _ _ _ _ | exact Kd.V_nil _ _ _ _ _ | exact Kd.Q_nil _ _ _ _ _ | exact Kd.S_nil _ _ _ _ _, gB HB⟩

def frisketlaw36_edits.l0 : Nat → List (S54) → List (S84) → Int → Option ((List (S84)))
 | 0, _, _, _ => none
 | k + 1, x0, x3, x4 => if x4 < (x0.length : Int) then (if 0 ≤ x4 then (if x3.length < 5864062014805 then (frisketlaw36_edits.l0 k x0 (x3 ++ [(⟨(rd_T54 x0 x4).f0, (rd_T54 x0 x4).f1, (rd_T54 x0 x4).f2⟩ : S84)]) (wrap64 (x4 + 1))) else (none)) else (none)) else (some x3)
def frisketlaw36_edits.f (k : Nat) (l0 : List (S54)) : Option ((List (S84))) := frisketlaw36_edits.l0 k l0 ([] : List (S84)) 0
theorem frisketlaw36_edits.mono_l : ∀ k, (∀ y0 y1 y2, LeO (frisketlaw36_edits.l0 k y0 y1 y2) (frisketlaw36_edits.l0 (k + 1) y0 y1 y2))
 | 0 => fun _ _ _ r h => by simp [frisketlaw36_edits.l0] at h
 | k + 1 => by
  have ih0 := frisketlaw36_edits.mono_l k
  ·intro y0 y1 y2
   unfold frisketlaw36_edits.l0
   repeat' first
   | (with_reducible exact ih0 _ _ _)
   | (with_reducible exact LeO.refl _)
   | (with_reducible exact LeO.none _)
   | (with_reducible refine LeO.ite ?_ ?_)
   | (with_reducible refine LeO.bind ?_ (fun _ => ?_))
   | exact ih0 _ _ _
   | exact LeO.none _
   | refine LeO.ite ?_ ?_
   | refine LeO.bind ?_ (fun _ => ?_)
theorem frisketlaw36_edits.mono : ∀ a0 k, LeO (frisketlaw36_edits.f k a0) (frisketlaw36_edits.f (k + 1) a0) := by
 intro a0 k
 have ih0 := frisketlaw36_edits.mono_l k
 unfold frisketlaw36_edits.f
 repeat' first
   | (with_reducible exact ih0 _ _ _)
   | (with_reducible exact LeO.refl _)
   | (with_reducible exact LeO.none _)
   | (with_reducible refine LeO.ite ?_ ?_)
   | (with_reducible refine LeO.bind ?_ (fun _ => ?_))
   | exact ih0 _ _ _
   | exact LeO.none _
   | refine LeO.ite ?_ ?_
   | refine LeO.bind ?_ (fun _ => ?_)
def frisketlaw36_edits.T5 : Bool × List (List Nat × List Nat) := (true, [([], []), ([], []), ([], []), ([1, 2], [1, 2]), ([3], [3]), ([4], [4]), ([], []), ([], []), ([6, 7], [6, 7]), ([8], [8]), ([9], [9]), ([], []), ([], []), ([11, 12], [11, 12]), ([13], [13]), ([14], [14]), ([5, 10, 15], [5, 10, 15]), ([16], [16]), ([0, 17], [0, 17]), ([18, 18, 0, 1, 2, 3, 4, 5, 6, 7, 8, 9, 10, 11, 12, 13, 14, 15, 16, 17, 18], [0, 18])])
def frisketlaw36_edits.B5 : List Nat := [0, 0, 0, 6, 14, 30, 0, 0, 192, 448, 960, 0, 0, 6144, 14336, 30720, 65534, 131070, 262143, 524287]
theorem frisketlaw36_edits.tab5 : rtab .any (opsOf Try.f27 5) = frisketlaw36_edits.T5 := by kernel_rfl
theorem frisketlaw36_edits.bits5 : waitsOk frisketlaw36_edits.T5.2 frisketlaw36_edits.B5 = true := by kernel_rfl
set_option maxHeartbeats 8000000 in
set_option maxRecDepth 100000 in
theorem frisketlaw36_edits.calls (k : Nat) (A0 : Option Addr) (c0 : Nat) (l0 : List (S54)) (r : List (S84)) (w : World) (hr0 : Kd.C k54 w A0 l0.length l0) (hc0 : l0.length ≤ c0) (h : frisketlaw36_edits.f k l0 = some r) :
  Calls Try.prog 27 #[.slice A0 l0.length c0] w fun e w' => ∃ v0_ : Value, e = .returned (v0_) ∧ Kd.R k84 84 w' w.heap.size (fun _ => True) v0_ r ∧ Below w.heap.size w w' := by
 have hu84 := Try.underlying84
 have HR0 := q13 hr0
 have HC0 := q13 hc0
 clear hr0 hc0
 have HB := q13 (Below.refl w.heap.size w)
 have H : (frisketlaw36_edits.l0 k l0 ([] : List (S84)) 0) = some r := h
 clear h
 have H' := q13 H
 clear H
 go_enter Try.func27, Try.ntmps27
 go_wp2
 go_loopg [3, 4] k (fun kq v3 v4 w' => ∃ (x3_1 : List (S84)) (x4_1 : Int), v4 = .int .i64 x4_1 ∧ Aside0 (frisketlaw36_edits.l0 kq l0 x3_1 x4_1 = some r) ∧ Aside0 (kq ≤ k) ∧ Aside0 (Kd.R k84 84 w' w.heap.size (fun _ => True) v3 x3_1) ∧ Aside0 (Below w.heap.size w w'))
 case atStart => exact ⟨(([] : List (S84))), (0), (by first | rfl | (simp; done) | (simp [*]; done)), H', ⟨q17 _⟩, ⟨by first | exact Kd.R_nil _ _ _ _ _ | exact Kd.N_nil _ _ _ _ _ | exact Kd.V_nil _ _ _ _ _ | exact Kd.Q_nil _ _ _ _ _ | exact Kd.S_nil _ _ _ _ _⟩, ⟨gB HB⟩⟩
 case round =>
  clear H'
  obtain ⟨x3_1, x4_1, rfl, HA, HK1, HO_3, HB⟩ := hrel
  cases gk with
  | zero => exact absurd HA.out (by simp [frisketlaw36_edits.l0])
  | succ k1 =>
   have H := HA.out
   clear HA
   simp only [frisketlaw36_edits.l0] at H
   by_cases c2 : x4_1 < (l0.length : Int)
   ·rw [if_pos c2] at H
    have c2b0 : decide (x4_1 < (l0.length : Int)) = true := decide_eq_true c2
    clear c2
    by_cases c3 : 0 ≤ x4_1
    ·rw [if_pos c3] at H
     have c3b0 : decide (0 ≤ x4_1) = true := decide_eq_true c3
     clear c3
     by_cases c4 : x3_1.length < 5864062014805
     ·rw [if_pos c4] at H
      have LMc4 := q13 c4
      clear c4
      obtain ⟨y351, hy351⟩ : ∃ y_ : List (S84), y_ = (x3_1 ++ [(⟨(rd_T54 l0 x4_1).f0, (rd_T54 l0 x4_1).f1, (rd_T54 l0 x4_1).f2⟩ : S84)]) := ⟨_, rfl⟩
      replace H : (frisketlaw36_edits.l0 k1 l0 y351 (wrap64 (x4_1 + 1))) = some r := by first | (rw [hy351]; with_reducible exact H) | (have H2_ := (Option.bind_some _ _).symm.trans H; rw [hy351]; with_reducible exact H2_) | (have H2_ := (Option.bind_some _ _).symm.trans H; with_reducible exact H2_) | with_reducible exact H | (rw [hy351]; exact H) | exact H
      have Ny351 := q13 hy351
      clear hy351
      have H' := q13 H
      clear H
      try go_wp2
      have n0_ := q13 (Kd.R_drew HO_3.out)
      have n1_ := q13 (q5 HB.out)
      clear HO_3
      clear HB
      have HO_3 := n0_
      have HB := n1_
      clear n0_ n1_
      have p348 : 0 ≤ (x4_1 : Int) := q15 (by assumption)
      have q348 : x4_1 < (l0.length : Int) := q15 (by assumption)
      obtain ⟨ad348, e348, hx348_0, hx348_1, hx348_2⟩ := at_T54 HR0.out x4_1 p348 q348
      have hw348_2 := hx348_2
      have hw348_1 := hx348_1
      have hw348_0 := hx348_0
      cases e348
      replace hx348_0 := cl HB.out hx348_0
      replace hx348_1 := cl HB.out hx348_1
      replace hx348_2 := cl HB.out hx348_2
      replace p348 := eq_true p348
      replace q348 := eq_true q348
      have p349 : 0 ≤ (x4_1 : Int) := q15 (by assumption)
      have q349 : x4_1 < (l0.length : Int) := q15 (by assumption)
      obtain ⟨ad349, e349, hx349_0, hx349_1, hx349_2⟩ := at_T54 HR0.out x4_1 p349 q349
      have hw349_2 := hx349_2
      have hw349_1 := hx349_1
      have hw349_0 := hx349_0
      obtain rfl : ad348 = ad349 := (by injection e349)
      replace hx349_0 := cl HB.out hx349_0
      replace hx349_1 := cl HB.out hx349_1
      replace hx349_2 := cl HB.out hx349_2
      replace p349 := eq_true p349
      replace q349 := eq_true q349
      have p350 : 0 ≤ (x4_1 : Int) := q15 (by assumption)
      have q350 : x4_1 < (l0.length : Int) := q15 (by assumption)
      obtain ⟨ad350, e350, hx350_0, hx350_1, hx350_2⟩ := at_T54 HR0.out x4_1 p350 q350
      have hw350_2 := hx350_2
      have hw350_1 := hx350_1
      have hw350_0 := hx350_0
      obtain rfl : ad348 = ad350 := (by injection e350)
      replace hx350_0 := cl HB.out hx350_0
      replace hx350_1 := cl HB.out hx350_1
      replace hx350_2 := cl HB.out hx350_2
      replace p350 := eq_true p350
      replace q350 := eq_true q350
      refine start_ (n := 20) (S := fun w' => w'.cell? (ad348.add ((x4_1).toNat * 3)) = some (.int .i64 ((rd_T54 l0 x4_1).f0)) ∧ w'.cell? ⟨(ad348.add ((x4_1).toNat * 3)).block, (ad348.add ((x4_1).toNat * 3)).off + 1, none⟩ = some (.int .i64 ((rd_T54 l0 x4_1).f1)) ∧ w'.cell? ⟨(ad348.add ((x4_1).toNat * 3)).block, (ad348.add ((x4_1).toNat * 3)).off + 2, none⟩ = some (.int .i64 ((rd_T54 l0 x4_1).f2)) ∧ w'.cell? (ad348.add ((x4_1).toNat * 3)) = some (.int .i64 ((rd_T54 l0 x4_1).f0)) ∧ w'.cell? ⟨(ad348.add ((x4_1).toNat * 3)).block, (ad348.add ((x4_1).toNat * 3)).off + 1, none⟩ = some (.int .i64 ((rd_T54 l0 x4_1).f1)) ∧ w'.cell? ⟨(ad348.add ((x4_1).toNat * 3)).block, (ad348.add ((x4_1).toNat * 3)).off + 2, none⟩ = some (.int .i64 ((rd_T54 l0 x4_1).f2)) ∧ w'.cell? (ad348.add ((x4_1).toNat * 3)) = some (.int .i64 ((rd_T54 l0 x4_1).f0)) ∧ w'.cell? ⟨(ad348.add ((x4_1).toNat * 3)).block, (ad348.add ((x4_1).toNat * 3)).off + 1, none⟩ = some (.int .i64 ((rd_T54 l0 x4_1).f1)) ∧ w'.cell? ⟨(ad348.add ((x4_1).toNat * 3)).block, (ad348.add ((x4_1).toNat * 3)).off + 2, none⟩ = some (.int .i64 ((rd_T54 l0 x4_1).f2))) (ds := []) (Array.replicate 20 false) (by kernel_rfl) rfl rfl ⟨(cl HB.out hw348_0), (cl HB.out hw348_1), (cl HB.out hw348_2), (cl HB.out hw349_0), (cl HB.out hw349_1), (cl HB.out hw349_2), (cl HB.out hw350_0), (cl HB.out hw350_1), (cl HB.out hw350_2)⟩ (fun hHeld => ?_); refine with_tabW frisketlaw36_edits.tab5 frisketlaw36_edits.bits5 (fun HT_ HW_ => ?_)
      generalize wr.drew = w5 at HO_3 HB hx348_0 hx348_1 hx348_2 hx349_0 hx349_1 hx349_2 hx350_0 hx350_1 hx350_2 hHeld ⊢
      refine go_in [0, 1, 2, 3, 4, 6, 7, 8, 9, 11, 12, 13, 14, 5, 10, 15, 16] ?_
      repeat (first | (refine pz (v := ?_) (a' := ?_) HT_ rfl rfl (by kernel_rfl) (fun _ _ _ h => h) (Or.inl ⟨by rfl, ?_⟩) ?_ ?_; rotate_left; (focus intro w'; go_simp; with_reducible rfl); rotate_left; (focus simp only [Act.put, List.setIfInBounds_toArray, List.set_cons_zero, List.set_cons_succ, i64_w, i32_w, u8_w, u8_tm, u8_c, u8_cm]; rfl)) | (refine tz (v := ?_) (a' := ?_) HT_ HW_ rfl rfl hHeld (by kernel_rfl) (fun _ _ _ h => h) (Or.inl ⟨by rfl, ?_⟩) ?_ ?_; rotate_left; (focus rintro w' ⟨s0, s1, s2, s3, s4, s5, s6, s7, s8⟩; go_simp; with_reducible rfl); rotate_left; (focus simp only [Act.put, List.setIfInBounds_toArray, List.set_cons_zero, List.set_cons_succ, i64_w, i32_w, u8_w, u8_tm, u8_c, u8_cm]; rfl)))
      refine go_out ?_
      refine one_ (i := 17) (N := some 28) (fl 20 18 []) rfl rfl (one_of HT_.out (by kernel_rfl)) (by decide) (fun K hK => ?_)
      refine value_ (w1 := ?_) (v := ?_) (by rfl) rfl ?_ ?_
      rotate_left 2
      ·go_simp
       constructor
       ·rfl
       ·rfl
      refine hK.out _ _ ⟨(World.cell?_alloc_lt _ _ _ (q14 _ _ ((cl HB.out hw348_0)))).trans ((cl HB.out hw348_0)), (World.cell?_alloc_lt _ _ _ (q14 _ _ ((cl HB.out hw348_1)))).trans ((cl HB.out hw348_1)), (World.cell?_alloc_lt _ _ _ (q14 _ _ ((cl HB.out hw348_2)))).trans ((cl HB.out hw348_2)), (World.cell?_alloc_lt _ _ _ (q14 _ _ ((cl HB.out hw349_0)))).trans ((cl HB.out hw349_0)), (World.cell?_alloc_lt _ _ _ (q14 _ _ ((cl HB.out hw349_1)))).trans ((cl HB.out hw349_1)), (World.cell?_alloc_lt _ _ _ (q14 _ _ ((cl HB.out hw349_2)))).trans ((cl HB.out hw349_2)), (World.cell?_alloc_lt _ _ _ (q14 _ _ ((cl HB.out hw350_0)))).trans ((cl HB.out hw350_0)), (World.cell?_alloc_lt _ _ _ (q14 _ _ ((cl HB.out hw350_1)))).trans ((cl HB.out hw350_1)), (World.cell?_alloc_lt _ _ _ (q14 _ _ ((cl HB.out hw350_2)))).trans ((cl HB.out hw350_2))⟩ (fun hHeld => ?_)
      clear hK K
      refine norm_ (a' := ?_) ?_ ?_
      rotate_left
      ·show Act.put _ (some 28) _ = _
       simp only [Act.put, List.setIfInBounds_toArray, List.set_cons_zero, List.set_cons_succ, i64_w, i32_w]
       rfl
      refine one_ (i := 18) (N := some 29) (fl 20 19 []) rfl rfl (one_of HT_.out (by kernel_rfl)) (by decide) (fun K hK => ?_)
      refine Kd.R_append_step k84 (w0 := w) w.heap.size (by rfl) (.tmp 11) (.tmp 28) 63 84 (.agg #[(.int .i64 0), (.int .i64 0), (.int .i64 0)]) 24 rfl Try.underlying63 info84 rfl (by decide) (by omega) u3 x3_1 (⟨(rd_T54 l0 x4_1).f0, (rd_T54 l0 x4_1).f1, (rd_T54 l0 x4_1).f2⟩ : S84) [.int .i64 ((rd_T54 l0 x4_1).f0), .int .i64 ((rd_T54 l0 x4_1).f1), .int .i64 ((rd_T54 l0 x4_1).f2)] (fun _ => True) (fun _ => False) rfl rfl ?aP (fun _ hk => hk.elim) ?aF ?aO ?aB ?aS ?aL ?_
      (case aP => exact k84_mkM _ _ _ (⟨(rd_T54 l0 x4_1).f0, (rd_T54 l0 x4_1).f1, (rd_T54 l0 x4_1).f2⟩ : S84))
      (case aB => exact (gB HB))
      (case aF => exact (fun _ _ => trivial))
      (case aO => exact (gR HO_3))
      (case aS => exact (q7 (gB HB)))
      (case aL => have := LMc4.out; omega)
      intro v352 w6 ho hb hg hat
      rw [← Ny351.out] at ho
      have n0_ := q13 (hb)
      have n1_ := q13 (ho)
      clear HB
      clear HO_3
      have HB := n0_
      have HO353 := n1_
      clear n0_ n1_
      clear ho hb hg hat
      refine hK.out _ _ ⟨(cl HB.out hw348_0), (cl HB.out hw348_1), (cl HB.out hw348_2), (cl HB.out hw349_0), (cl HB.out hw349_1), (cl HB.out hw349_2), (cl HB.out hw350_0), (cl HB.out hw350_1), (cl HB.out hw350_2)⟩ (fun hHeld => ?_)
      clear hK K
      refine norm_ (a' := ?_) ?_ ?_
      rotate_left
      ·show Act.put _ (some 29) _ = _
       simp only [Act.put, List.setIfInBounds_toArray, List.set_cons_zero, List.set_cons_succ, i64_w, i32_w]
       rfl
      refine go_in [19] ?_
      (refine pz (v := ?_) (a' := ?_) HT_ rfl rfl (by kernel_rfl) (fun _ _ _ h => h) (Or.inl ⟨by rfl, ?_⟩) ?_ ?_; rotate_left; (focus intro w'; go_simp; with_reducible rfl); rotate_left; (focus simp only [Act.put, List.setIfInBounds_toArray, List.set_cons_zero, List.set_cons_succ, i64_w, i32_w, u8_w, u8_tm, u8_c, u8_cm]; rfl))
      refine go_out ?_
      refine done_ (done_of HT_.out (by kernel_rfl)) ?_
      try go_wp2
      go_roundg k1
      case measure => have := HK1.out; omega
      case rel => exact ⟨(y351), (wrap64 (x4_1 + 1)), (by first | rfl | (simp; done) | (simp [*]; done)), H', ⟨by have := HK1.out; omega⟩, ⟨by (with_reducible repeat (first | apply Kd.R_alloc | apply Kd.R_drewN | apply Kd.R_drew)); exact HO353.out⟩, ⟨gB HB⟩⟩
     ·rw [if_neg c4] at H
      exact absurd H (by simp)
    ·rw [if_neg c3] at H
     exact absurd H (by simp)
   ·rw [if_neg c2] at H
    have c2b0 : decide (x4_1 < (l0.length : Int)) = false := decide_eq_false c2
    clear c2
    obtain rfl := Option.some.inj H
    go_wp2
    go_ret
    exact ⟨_, by first | rfl | (simp [errW_none, errW_some] <;> rfl) | (simp [*, errW_none, errW_some] <;> rfl), by (with_reducible repeat (first | apply Kd.R_alloc | apply Kd.R_drewN | apply Kd.R_drew)); exact HO_3.out, gB HB⟩

end Go.Proofs.Ytgjmljjnminefaa.QCompareApplies
