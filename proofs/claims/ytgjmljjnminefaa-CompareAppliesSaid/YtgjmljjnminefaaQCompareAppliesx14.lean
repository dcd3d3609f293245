import Derived.Lib.SliceRun
import Derived.Test.YtgjmljjnminefaaQCompareAppliesx0
import Derived.Test.YtgjmljjnminefaaArrEq
import Derived.Test.YtgjmljjnminefaaZip2
import Derived.Test.YtgjmljjnminefaaZip
namespace Go.Proofs.Ytgjmljjnminefaa.QCompareApplies
open Go.Proofs.Ytgjmljjnminefaa.Zip Go.Proofs.Ytgjmljjnminefaa.Zip2 Go.RowKit Go.Proofs.YtgjmljjnminefaaW.PrintWords Go.Proofs.YtgjmljjnminefaaW.PrintLast Go.Proofs.YtgjmljjnminefaaW.PrintMore
attribute [local go_sem] max2_int min2_int max_two min_two max_three min_three max_four min_four   -- for this text's walks alone
set_option linter.unusedVariables false
set_option linter.unusedSimpArgs false

def compare_Cost.l0 : Nat → Int → List (S54) → Int → Int → Option (Int)
 | 0, _, _, _, _ => none
 | k + 1, x3, x6, x7, x8 => if x8 < x7 then (if 0 ≤ x8 then (if x8 < (x6.length : Int) then (if ((rd_T54 x6 x8).f0) = 0 then (compare_Cost.l0 k x3 x6 x7 (wrap64 (x8 + 1))) else (compare_Cost.l0 k (wrap64 (x3 + 1)) x6 x7 (wrap64 (x8 + 1)))) else (none)) else (none)) else (some x3)
def compare_Cost.f (k : Nat) (l0 : List (S54)) : Option (Int) := compare_Cost.l0 k 0 l0 (l0.length : Int) 0
theorem compare_Cost.mono_l : ∀ k, (∀ y0 y1 y2 y3, LeO (compare_Cost.l0 k y0 y1 y2 y3) (compare_Cost.l0 (k + 1) y0 y1 y2 y3))
 | 0 => fun _ _ _ _ r h => by simp [compare_Cost.l0] at h
 | k + 1 => by
  have ih0 := compare_Cost.mono_l k
  ·intro y0 y1 y2 y3
   unfold compare_Cost.l0
   repeat' first
   | (with_reducible exact ih0 _ _ _ _)
   | (with_reducible exact LeO.refl _)
   | (with_reducible exact LeO.none _)
   | (with_reducible refine LeO.ite ?_ ?_)
   | (with_reducible refine LeO.bind ?_ (fun _ => ?_))
   | exact ih0 _ _ _ _
   | exact LeO.none _
   | refine LeO.ite ?_ ?_
   | refine LeO.bind ?_ (fun _ => ?_)
theorem compare_Cost.mono : ∀ a0 k, LeO (compare_Cost.f k a0) (compare_Cost.f (k + 1) a0) := by
 intro a0 k
 have ih0 := compare_Cost.mono_l k
 unfold compare_Cost.f
 repeat' first
   | (with_reducible exact ih0 _ _ _ _)
   | (with_reducible exact LeO.refl _)
   | (with_reducible exact LeO.none _)
   | (with_reducible refine LeO.ite ?_ ?_)
   | (with_reducible refine LeO.bind ?_ (fun _ => ?_))
   | exact ih0 _ _ _ _
   | exact LeO.none _
   | refine LeO.ite ?_ ?_
   | refine LeO.bind ?_ (fun _ => ?_)
set_option maxHeartbeats 8000000 in
set_option maxRecDepth 100000 in
theorem compare_Cost.calls (k : Nat) (A0 : Option Addr) (c0 : Nat) (l0 : List (S54)) (r : Int) (w : World) (hr0 : Kd.C k54 w A0 l0.length l0) (hc0 : l0.length ≤ c0) (h : compare_Cost.f k l0 = some r) :
  Calls Try.prog 25 #[.slice A0 l0.length c0] w fun e w' => e = .returned (.int .i64 r) ∧ Below w.heap.size w w' := by
 have hu54 := Try.underlying54
 have HR0 := q13 hr0
 have HC0 := q13 hc0
 clear hr0 hc0
 have HB := q13 (Below.refl w.heap.size w)
 have H : (compare_Cost.l0 k 0 l0 (l0.length : Int) 0) = some r := h
 clear h
 have H' := q13 H
 clear H
 go_enter Try.func25, Try.ntmps25
 go_wp2
 go_loopg [3, 8] k (fun kq v3 v8 w' => ∃ (x3_1 : Int) (x8_1 : Int), v3 = .int .i64 x3_1 ∧ v8 = .int .i64 x8_1 ∧ Aside0 (compare_Cost.l0 kq x3_1 l0 (l0.length : Int) x8_1 = some r) ∧ Aside0 (kq ≤ k) ∧ Aside0 (Below w.heap.size w w'))
 case atStart => exact ⟨(0), (0), (by first | rfl | (simp; done) | (simp [*]; done)), (by first | rfl | (simp; done) | (simp [*]; done)), H', ⟨q17 _⟩, ⟨gB HB⟩⟩
 case round =>
  clear H'
  obtain ⟨x3_1, x8_1, rfl, rfl, HA, HK1, HB⟩ := hrel
  cases gk with
  | zero => exact absurd HA.out (by simp [compare_Cost.l0])
  | succ k1 =>
   have H := HA.out
   clear HA
   simp only [compare_Cost.l0] at H
   by_cases c2 : x8_1 < (l0.length : Int)
   ·rw [if_pos c2] at H
    have c2b0 : decide (x8_1 < (l0.length : Int)) = true := decide_eq_true c2
    clear c2
    by_cases c3 : 0 ≤ x8_1
    ·rw [if_pos c3] at H
     have c3b0 : decide (0 ≤ x8_1) = true := decide_eq_true c3
     clear c3
     by_cases c4 : x8_1 < (l0.length : Int)
     ·rw [if_pos c4] at H
      have c4b0 : decide (x8_1 < (l0.length : Int)) = true := decide_eq_true c4
      clear c4
      by_cases c5 : ((rd_T54 l0 x8_1).f0) = 0
      ·rw [if_pos c5] at H
       have c5b0 : (((rd_T54 l0 x8_1).f0) == 0) = true := beq_iff_eq.mpr c5
       have c5b1 : (((rd_T54 l0 x8_1).f0) != 0) = false := bne_eq_false_iff_eq.mpr c5
       clear c5
       have H' := q13 H
       clear H
       have p313 : 0 ≤ (x8_1 : Int) := q15 (by assumption)
       have q313 : x8_1 < (l0.length : Int) := q15 (by assumption)
       obtain ⟨ad313, e313, hx313_0, hx313_1, hx313_2⟩ := at_T54 HR0.out x8_1 p313 q313
       cases e313
       replace hx313_0 := cl HB.out hx313_0
       replace hx313_1 := cl HB.out hx313_1
       replace hx313_2 := cl HB.out hx313_2
       replace p313 := eq_true p313
       replace q313 := eq_true q313
       go_wp2_with (first | ((with_reducible refine gate_dst (N := 5) rfl ?_); refine box_event ?hg (N := 5) ?hd (cs := #[.int .i64 0, .int .i64 0, .int .i64 0]) (t := 54) ?hr ?_; (case hd => rfl); (case hg => rfl); (case hr => first | (go_simp; done) | (go_simp; rfl)); intro gb314 hg w6 hbox hb; have n0_ := q13 (q12 (gB HB) hb); have n1_ := q13 (hbox); have n2_ := q13 ((by rw [hg]; exact (q7 (gB HB)) : w.heap.size ≤ gb314)); have n3_ := q13 ((by rw [hg]; exact (q7 (gB HB)) : w.heap.size ≤ gb314)); clear HB; have HB := n0_; have BK314 := n1_; have GW314 := n2_; have GE314 := n3_; clear n0_ n1_ n2_ n3_; clear hb hbox hg; have hcz7_0 : w6.cell? ⟨gb314, 0, none⟩ = some (.int .i64 0) := (q9 BK314.out 0).trans rfl; have hcz7_1 : w6.cell? ⟨gb314, 1, none⟩ = some (.int .i64 0) := (q9 BK314.out 1).trans rfl; have hcz7_2 : w6.cell? ⟨gb314, 2, none⟩ = some (.int .i64 0) := (q9 BK314.out 2).trans rfl; have hfz7_0 := q11 BK314.out 0; have hfz7_1 := q11 BK314.out 1; have hfz7_2 := q11 BK314.out 2))
       go_roundg k1
       case measure => have := HK1.out; omega
       case rel => exact ⟨(x3_1), (wrap64 (x8_1 + 1)), (by first | rfl | (simp; done) | (simp [*]; done)), (by first | rfl | (simp; done) | (simp [*]; done)), H', ⟨by have := HK1.out; omega⟩, ⟨by repeat (first | (with_reducible first | exact HB.out | apply q3 | apply q4 | apply q5 | refine q6 ?_ GE314.out) | exact HB.out)⟩⟩
      ·rw [if_neg c5] at H
       have c5b0 : (((rd_T54 l0 x8_1).f0) == 0) = false := beq_eq_false_iff_ne.mpr c5
       have c5b1 : (((rd_T54 l0 x8_1).f0) != 0) = true := bne_iff_ne.mpr c5
       have H' := q13 H
       clear H
       have p313 : 0 ≤ (x8_1 : Int) := q15 (by assumption)
       have q313 : x8_1 < (l0.length : Int) := q15 (by assumption)
       obtain ⟨ad313, e313, hx313_0, hx313_1, hx313_2⟩ := at_T54 HR0.out x8_1 p313 q313
       cases e313
       replace hx313_0 := cl HB.out hx313_0
       replace hx313_1 := cl HB.out hx313_1
       replace hx313_2 := cl HB.out hx313_2
       replace p313 := eq_true p313
       replace q313 := eq_true q313
       go_wp2_with (first | ((with_reducible refine gate_dst (N := 5) rfl ?_); refine box_event ?hg (N := 5) ?hd (cs := #[.int .i64 0, .int .i64 0, .int .i64 0]) (t := 54) ?hr ?_; (case hd => rfl); (case hg => rfl); (case hr => first | (go_simp; done) | (go_simp; rfl)); intro gb314 hg w8 hbox hb; have n0_ := q13 (q12 (gB HB) hb); have n1_ := q13 (hbox); have n2_ := q13 ((by rw [hg]; exact (q7 (gB HB)) : w.heap.size ≤ gb314)); have n3_ := q13 ((by rw [hg]; exact (q7 (gB HB)) : w.heap.size ≤ gb314)); clear HB; have HB := n0_; have BK314 := n1_; have GW314 := n2_; have GE314 := n3_; clear n0_ n1_ n2_ n3_; clear hb hbox hg; have hcz9_0 : w8.cell? ⟨gb314, 0, none⟩ = some (.int .i64 0) := (q9 BK314.out 0).trans rfl; have hcz9_1 : w8.cell? ⟨gb314, 1, none⟩ = some (.int .i64 0) := (q9 BK314.out 1).trans rfl; have hcz9_2 : w8.cell? ⟨gb314, 2, none⟩ = some (.int .i64 0) := (q9 BK314.out 2).trans rfl; have hfz9_0 := q11 BK314.out 0; have hfz9_1 := q11 BK314.out 1; have hfz9_2 := q11 BK314.out 2))
       go_roundg k1
       case measure => have := HK1.out; omega
       case rel => exact ⟨(wrap64 (x3_1 + 1)), (wrap64 (x8_1 + 1)), (by first | rfl | (simp; done) | (simp [*]; done)), (by first | rfl | (simp; done) | (simp [*]; done)), H', ⟨by have := HK1.out; omega⟩, ⟨by repeat (first | (with_reducible first | exact HB.out | apply q3 | apply q4 | apply q5 | refine q6 ?_ GE314.out) | exact HB.out)⟩⟩
     ·rw [if_neg c4] at H
      exact absurd H (by simp)
    ·rw [if_neg c3] at H
     exact absurd H (by simp)
   ·rw [if_neg c2] at H
    have c2b0 : decide (x8_1 < (l0.length : Int)) = false := decide_eq_false c2
    clear c2
    obtain rfl := Option.some.inj H
    go_wp2
    go_ret
    exact ⟨by first | rfl | (simp [errW_none, errW_some] <;> rfl) | (simp [*, errW_none, errW_some] <;> rfl), gB HB⟩

def frisketref36_Own.l0 : Nat → List (S69) → Int → Option ((List (S69)))
 | 0, _, _ => none
 | k + 1, x3, x4 => if x4 < (x3.length : Int) then ((some (([] : List Int) : List Int)).bind fun y321 => (if 0 ≤ x4 then (if y321.length + ((rd_T69 x3 x4).f8).length < 17592186044416 then (frisketref36_Own.l0 k (x3.set (x4 : Int).toNat (⟨(rd_T69 x3 x4).f0, (rd_T69 x3 x4).f1, (rd_T69 x3 x4).f2, (rd_T69 x3 x4).f3, (rd_T69 x3 x4).f4, (rd_T69 x3 x4).f5, (rd_T69 x3 x4).f6, (rd_T69 x3 x4).f7, (y321 ++ ((rd_T69 x3 x4).f8))⟩ : S69)) (wrap64 (x4 + 1))) else (none)) else (none))) else (some x3)
def frisketref36_Own.f (k : Nat) (l0 : List (S69)) : Option ((List (S69))) := (some (([] : List (S69)) : List (S69))).bind fun y315 => (if y315.length + l0.length < 1256584717458 then (frisketref36_Own.l0 k (y315 ++ l0) 0) else (none))
theorem frisketref36_Own.mono_l : ∀ k, (∀ y0 y1, LeO (frisketref36_Own.l0 k y0 y1) (frisketref36_Own.l0 (k + 1) y0 y1))
 | 0 => fun _ _ r h => by simp [frisketref36_Own.l0] at h
 | k + 1 => by
  have ih0 := frisketref36_Own.mono_l k
  ·intro y0 y1
   unfold frisketref36_Own.l0
   repeat' first
   | (with_reducible exact ih0 _ _)
   | (with_reducible exact LeO.refl _)
   | (with_reducible exact LeO.none _)
   | (with_reducible refine LeO.ite ?_ ?_)
   | (with_reducible refine LeO.bind ?_ (fun _ => ?_))
   | exact ih0 _ _
   | exact LeO.none _
   | refine LeO.ite ?_ ?_
   | refine LeO.bind ?_ (fun _ => ?_)
theorem frisketref36_Own.mono : ∀ a0 k, LeO (frisketref36_Own.f k a0) (frisketref36_Own.f (k + 1) a0) := by
 intro a0 k
 have ih0 := frisketref36_Own.mono_l k
 unfold frisketref36_Own.f
 repeat' first
   | (with_reducible exact ih0 _ _)
   | (with_reducible exact LeO.refl _)
   | (with_reducible exact LeO.none _)
   | (with_reducible refine LeO.ite ?_ ?_)
   | (with_reducible refine LeO.bind ?_ (fun _ => ?_))
   | exact ih0 _ _
   | exact LeO.none _
   | refine LeO.ite ?_ ?_
   | refine LeO.bind ?_ (fun _ => ?_)
set_option maxHeartbeats 8000000 in
set_option maxRecDepth 100000 in
theorem frisketref36_Own.calls (k : Nat) (P0_ : Nat → Prop) (A0 : Option Addr) (c0 : Nat) (l0 : List (S69)) (r : List (S69)) (w : World) (hs0 : Kd.V k69 69 w w.heap.size (fun k_ => P0_ k_) (.slice A0 l0.length c0) l0) (h : frisketref36_Own.f k l0 = some r) :
  Calls Try.prog 30 #[.slice A0 l0.length c0] w fun e w' => ∃ v0_ : Value, e = .returned (v0_) ∧ Kd.N k69 69 w' w.heap.size (fun k_ => (P0_ k_ ∨ w.heap.size ≤ k_)) v0_ r ∧ Below w.heap.size w w' := by
 have HO0 := q13 (show Kd.V k69 69 w w.heap.size (fun k_ => (P0_ k_ ∨ w.heap.size ≤ k_)) (.slice A0 l0.length c0) l0 from q34 hs0 (fun k_ hk => .inl hk))
 have HB := q13 (Below.refl w.heap.size w)
 have H : ((some (([] : List (S69)) : List (S69))).bind fun y315 => (if y315.length + l0.length < 1256584717458 then (frisketref36_Own.l0 k (y315 ++ l0) 0) else (none))) = some r := h
 clear h
 obtain ⟨y315, hy315⟩ : ∃ y_ : List (S69), y_ = (([] : List (S69))) := ⟨_, rfl⟩
 replace H : (if y315.length + l0.length < 1256584717458 then (frisketref36_Own.l0 k (y315 ++ l0) 0) else (none)) = some r := by first | (rw [hy315]; with_reducible exact H) | (have H2_ := (Option.bind_some _ _).symm.trans H; rw [hy315]; with_reducible exact H2_) | (have H2_ := (Option.bind_some _ _).symm.trans H; with_reducible exact H2_) | with_reducible exact H | (rw [hy315]; exact H) | exact H
 have Ny315 := q13 hy315
 clear hy315
 by_cases c2 : y315.length + l0.length < 1256584717458
 ·rw [if_pos c2] at H
  have LMc2 := q13 c2
  clear c2
  obtain ⟨y318, hy318⟩ : ∃ y_ : List (S69), y_ = (y315 ++ l0) := ⟨_, rfl⟩
  replace H : (frisketref36_Own.l0 k y318 0) = some r := by first | (rw [hy318]; with_reducible exact H) | (have H2_ := (Option.bind_some _ _).symm.trans H; rw [hy318]; with_reducible exact H2_) | (have H2_ := (Option.bind_some _ _).symm.trans H; with_reducible exact H2_) | with_reducible exact H | (rw [hy318]; exact H) | exact H
  have Ny318 := q13 hy318
  clear hy318
  have H' := q13 H
  clear H
  go_enter Try.func30, Try.ntmps30
  go_wp2_with (first | ((with_reducible refine gate_dst (N := 5) rfl ?_); refine Kd.N_lit k69 _ 69 ?hg (N' := 5) ?hd (xs := ([] : List (S69))) (inner := []) (ok := (fun k_ => (P0_ k_ ∨ w.heap.size ≤ k_))) (okp := (fun k_ => (P0_ k_ ∨ w.heap.size ≤ k_))) ?hr ?hp (fun _ hk => hk) ((show ∀ k_, w.heap.size ≤ k_ → (fun k_ => (P0_ k_ ∨ w.heap.size ≤ k_)) k_ from fun k_ hk => (.inr (Nat.le_trans (q7 (gB HB)) hk))) _ (q17 _)) (Below.refl _ _) (q17 _) (by simp) ?_; (case hd => rfl); (case hg => rfl); (case hr => first | (go_simp; done) | (go_simp; rfl)); (case hp => exact (Reps.none _ _)); intro v316 w3 ho4 hb hg_ hnew_; clear hg_ hnew_; (first | rw [← Ny315.out] at ho4 | (simp only [Int.reduceToNat] at ho4; rw [← Ny315.out] at ho4)); have n0_ := q13 (Kd.V_elder' (gV HO0) (by first | exact Kd.N_base ho4 | exact Kd.R_base ho4) hb); have n1_ := q13 (Kd.N_lower ho4 (q7 (gB HB))); have n2_ := q13 (q12 (gB HB) hb); clear HO0; clear HB; have HO0 := n0_; have HO317 := n1_; have HB := n2_; clear n0_ n1_ n2_; clear hb ho4) | ((with_reducible refine gate_builtin (b := .append) (xs := #[.tmp 5, .tmp 6]) rfl ?_); at_builtin; refine Kd.N_append_rows k69 (w0 := w) w.heap.size rfl (.tmp 5) (.tmp 6) 22 69 (.agg #[(.int .i64 0), (.int .i64 0), (.int .i64 0), (.int .i64 0), (.int .i64 0), (.string ⟨#[]⟩), (.string ⟨#[]⟩), (.string ⟨#[]⟩), (.slice none 0 0)]) 112 rfl Try.underlying22 info69 rfl (by decide) (by omega) v316 y315 l0 _ _ _ (fun k_ => (P0_ k_ ∨ w.heap.size ≤ k_)) (fun k_ => ((fun k_ => (P0_ k_ ∨ w.heap.size ≤ k_))) k_ ∧ some k_ ≠ (v316 : Value).ownBlock) rfl rfl ?aO ?aR (fun _ hk => hk) ?aF ?aB ?aS ?aL ?_; (case aR => exact (by skip; exact Kd.V_F (q34 (ok' := (fun k_ => ((fun k_ => (P0_ k_ ∨ w.heap.size ≤ k_))) k_ ∧ some k_ ≠ (v316 : Value).ownBlock)) (HO0.out) (fun k_ hk => ⟨hk.1, hk.2⟩)))); (case aB => exact (gB HB)); (case aF => exact (fun k_ hk => (.inr (Nat.le_trans (q7 (gB HB)) hk)))); (case aO => exact (gN HO317)); (case aS => exact (q7 (gB HB))); (case aL => have := LMc2.out; omega); intro v319 w5 ho hb hg hat; rw [← Ny318.out] at ho; have n0_ := q13 (Kd.V_afterv (ok := (fun k_ => (P0_ k_ ∨ w.heap.size ≤ k_))) (gV HO0) hg hat); have n1_ := q13 (hb); have n2_ := q13 (ho); clear HO0; clear HB; clear HO317; have HO0 := n0_; have HB := n1_; have HO320 := n2_; clear n0_ n1_ n2_; clear ho hb hg hat))
  go_loopg [4] k (fun kq v4 w' => ∃ (x3_1 : List (S69)) (x4_1 : Int), v4 = .int .i64 x4_1 ∧ Aside0 (frisketref36_Own.l0 kq x3_1 x4_1 = some r) ∧ Aside0 (kq ≤ k) ∧ Aside0 (Kd.N k69 69 w' w.heap.size (fun k_ => (P0_ k_ ∨ w.heap.size ≤ k_)) v319 x3_1) ∧ Aside0 (Below w.heap.size w w'))
  case atStart => exact ⟨(y318), (0), (by first | rfl | (simp; done) | (simp [*]; done)), H', ⟨q17 _⟩, ⟨by (with_reducible repeat (first | apply Kd.N_alloc | apply Kd.N_drewN | apply Kd.N_drew)); exact HO320.out⟩, ⟨gB HB⟩⟩
  case round =>
   clear H'
   try clear c2
   try clear p2
   try clear c3
   obtain ⟨x3_1, x4_1, rfl, HA, HK1, HO_3, HB⟩ := hrel
   cases gk with
   | zero => exact absurd HA.out (by simp [frisketref36_Own.l0])
   | succ k1 =>
    have H := HA.out
    clear HA
    simp only [frisketref36_Own.l0] at H
    by_cases c6 : x4_1 < (x3_1.length : Int)
    ·rw [if_pos c6] at H
     have c6b0 : decide (x4_1 < (x3_1.length : Int)) = true := decide_eq_true c6
     clear c6
     obtain ⟨y321, hy321⟩ : ∃ y_ : List Int, y_ = (([] : List Int)) := ⟨_, rfl⟩
     replace H : (if 0 ≤ x4_1 then (if y321.length + ((rd_T69 x3_1 x4_1).f8).length < 17592186044416 then (frisketref36_Own.l0 k1 (x3_1.set (x4_1 : Int).toNat (⟨(rd_T69 x3_1 x4_1).f0, (rd_T69 x3_1 x4_1).f1, (rd_T69 x3_1 x4_1).f2, (rd_T69 x3_1 x4_1).f3, (rd_T69 x3_1 x4_1).f4, (rd_T69 x3_1 x4_1).f5, (rd_T69 x3_1 x4_1).f6, (rd_T69 x3_1 x4_1).f7, (y321 ++ ((rd_T69 x3_1 x4_1).f8))⟩ : S69)) (wrap64 (x4_1 + 1))) else (none)) else (none)) = some r := by first | (rw [hy321]; with_reducible exact H) | (have H2_ := (Option.bind_some _ _).symm.trans H; rw [hy321]; with_reducible exact H2_) | (have H2_ := (Option.bind_some _ _).symm.trans H; with_reducible exact H2_) | with_reducible exact H | (rw [hy321]; exact H) | exact H
     have Ny321 := q13 hy321
     clear hy321
     by_cases c7 : 0 ≤ x4_1
     ·rw [if_pos c7] at H
      have c7b0 : decide (0 ≤ x4_1) = true := decide_eq_true c7
      clear c7
      by_cases c8 : y321.length + ((rd_T69 x3_1 x4_1).f8).length < 17592186044416
      ·rw [if_pos c8] at H
       have LMc8 := q13 c8
       clear c8
       obtain ⟨y325, hy325⟩ : ∃ y_ : List Int, y_ = (y321 ++ ((rd_T69 x3_1 x4_1).f8)) := ⟨_, rfl⟩
       replace H : (frisketref36_Own.l0 k1 (x3_1.set (x4_1 : Int).toNat (⟨(rd_T69 x3_1 x4_1).f0, (rd_T69 x3_1 x4_1).f1, (rd_T69 x3_1 x4_1).f2, (rd_T69 x3_1 x4_1).f3, (rd_T69 x3_1 x4_1).f4, (rd_T69 x3_1 x4_1).f5, (rd_T69 x3_1 x4_1).f6, (rd_T69 x3_1 x4_1).f7, y325⟩ : S69)) (wrap64 (x4_1 + 1))) = some r := by first | (rw [hy325]; with_reducible exact H) | (have H2_ := (Option.bind_some _ _).symm.trans H; rw [hy325]; with_reducible exact H2_) | (have H2_ := (Option.bind_some _ _).symm.trans H; with_reducible exact H2_) | with_reducible exact H | (rw [hy325]; exact H) | exact H
       have Ny325 := q13 hy325
       clear hy325
       obtain ⟨y328, hy328⟩ : ∃ y_ : List (S69), y_ = (x3_1.set (x4_1 : Int).toNat (⟨(rd_T69 x3_1 x4_1).f0, (rd_T69 x3_1 x4_1).f1, (rd_T69 x3_1 x4_1).f2, (rd_T69 x3_1 x4_1).f3, (rd_T69 x3_1 x4_1).f4, (rd_T69 x3_1 x4_1).f5, (rd_T69 x3_1 x4_1).f6, (rd_T69 x3_1 x4_1).f7, y325⟩ : S69)) := ⟨_, rfl⟩
       replace H : (frisketref36_Own.l0 k1 y328 (wrap64 (x4_1 + 1))) = some r := by first | (rw [hy328]; with_reducible exact H) | (have H2_ := (Option.bind_some _ _).symm.trans H; rw [hy328]; with_reducible exact H2_) | (have H2_ := (Option.bind_some _ _).symm.trans H; with_reducible exact H2_) | with_reducible exact H | (rw [hy328]; exact H) | exact H
       have Ny328 := q13 hy328
       clear hy328
       have H' := q13 H
       clear H
       obtain ⟨Ao10, co10, eo10⟩ := Kd.N_slice HO_3.out
       subst eo10
       go_wp2_with (first | ((with_reducible refine gate_dst (N := 16) rfl ?_); refine Kd.R_lit (Kd.int .i64) _ 3 ?hg (N := 16) ?hd (xs := ([] : List Int)) (inner := []) (ok := fun _ => True) (okp := fun _ => True) ?hr ?hp (fun _ hk => hk) trivial (Below.refl _ _) (q17 _) (by simp) ?_; (case hd => rfl); (case hg => rfl); (case hr => first | (go_simp; done) | (go_simp; rfl)); (case hp => exact (Reps.none _ _)); intro v322 w11 ho12 hb hg_ hnew_; clear hg_ hnew_; (first | rw [← Ny321.out] at ho12 | (simp only [Int.reduceToNat] at ho12; rw [← Ny321.out] at ho12)); have n0_ := q13 (Kd.N_elder' (gN HO_3) (Kd.R_base ho12) hb); have n1_ := q13 (Kd.R_lower (Kd.R_newM (M := fun k_ => (w.heap.size ≤ k_)) ho12 (q7 (gB HB)) (fun k_ h_ => h_)) (q7 (gB HB))); have n2_ := q13 (q12 (gB HB) hb); clear HO_3; clear HB; have HO_3 := n0_; have HO323 := n1_; have HB := n2_; clear n0_ n1_ n2_; clear hb ho12; have p324 : 0 ≤ (x4_1 : Int) := q15 (by assumption); have q324 : x4_1 < (x3_1.length : Int) := q15 (by assumption); obtain ⟨ad324, A324_8, c324_8, e324, hx324_0, hx324_1, hx324_2, hx324_3, hx324_4, hx324_5, hx324_6, hx324_7, hx324_8, hl324_8, hi324_8⟩ := at_T69 (Kd.N_reads' HO_3.out).2.2 x4_1 p324 q324; cases e324; obtain ⟨ce324, hce324, hMe324, hcc324⟩ := Kd.N_get HO_3.out z69 x4_1 p324 (by first | exact q324 | exact q15 (by assumption) | (have e_ := (Kd.N_reads' HO_3.out).1; omega)); obtain ⟨ua324_8, uc324_8, rfl, ul324_8, ge324_8⟩ := k69_openF hMe324; have hv324_8 := hcc324 8 _ rfl; rw [add_field _ _ 8 (by omega)] at hv324_8; replace hv324_8 := Option.some.inj (hv324_8.symm.trans hx324_8); injection hv324_8 with hva_ hvn_ hvc_; rw [hva_] at ge324_8; rw [hvc_] at ul324_8; have HL324_8 := q13 (show Kd.V (Kd.int .i64) 3 _ w.heap.size _ _ ((rd_T69 x3_1 x4_1).f8) from Kd.V_mk ul324_8 ge324_8); clear hva_ hvn_ hvc_ ge324_8 ul324_8; clear hcc324 hce324; have HR324_8 := q13 hi324_8; have HC324_8 := q13 hl324_8; clear hi324_8 hl324_8; replace p324 := eq_true p324; replace q324 := eq_true q324) | ((with_reducible refine gate_builtin (b := .append) (xs := #[.tmp 16, .tmp 21]) rfl ?_); at_builtin; refine Kd.R_append_rows (Kd.int .i64) (w0 := w) w.heap.size rfl (.tmp 16) (.tmp 21) 67 3 (.int .i64 0) 8 rfl Try.underlying67 info3 rfl (by decide) (by omega) v322 y321 ((rd_T69 x3_1 x4_1).f8) _ _ _ (fun k_ => (w.heap.size ≤ k_)) (fun _ => False) rfl rfl ?aO ?aR (fun _ _ h => h) (fun _ h => h.elim) ?aF ?aB ?aS ?aL ?_; (case aR => repeat (first | exact (by repeat (first | (with_reducible exact HR324_8.out) | (with_reducible refine q18 ?_ _) | (with_reducible refine q19 ?_ _) | (with_reducible refine q20 ?_) | exact HR324_8.out)) | (with_reducible refine q18 ?_ _) | (with_reducible refine q19 ?_ _) | (with_reducible refine q20 ?_))); (case aB => exact (gB HB)); (case aF => exact (fun k_ hk => (Nat.le_trans (q7 (gB HB)) hk))); (case aO => exact (by (with_reducible repeat (first | apply Kd.R_alloc | apply Kd.R_drewN | apply Kd.R_drew)); exact Kd.R_mono HO323.out (fun _ hk => hk.1))); (case aS => exact (q7 (gB HB))); (case aL => have := LMc8.out; omega); intro v326 w13 ho hb hg hat; rw [← Ny325.out] at ho; obtain ⟨Av_, cv_, ev_⟩ := Kd.R_slice ho; subst ev_; have n0_ := q13 (Kd.N_afterv (ok := (fun k_ => (P0_ k_ ∨ w.heap.size ≤ k_))) (gN HO_3) hg hat); have n1_ := q13 (Kd.V_afterv (ok := (fun k_ => (P0_ k_ ∨ w.heap.size ≤ k_) ∧ some k_ ≠ (.slice (some ad324) x3_1.length co10 : Value).ownBlock)) (by (with_reducible repeat (first | apply Kd.V_alloc | apply Kd.V_drewN | apply Kd.V_drew)); exact q34 HL324_8.out (fun _ hk => ⟨⟨hk.1.1, hk.2⟩, hk.1.2⟩)) hg hat); have n2_ := q13 (hb); have n3_ := q13 (ho); clear HO_3; clear HL324_8; clear HB; clear HO323; have HO_3 := n0_; have HL324_8 := n1_; have HB := n2_; have HO327 := n3_; clear n0_ n1_ n2_ n3_; clear ho hb hg hat; have p9 : 0 ≤ (x4_1 : Int) := q15 (by assumption); have q9 : (x4_1 : Int) < ((x3_1.length : Int) : Int) := q15 (by assumption); obtain ⟨go9, co9, eo9, gb9, gl9, cl9, HG9⟩ := Kd.N_form HO_3.out (by omega); (first | cases eo9 | (injection eo9 with ea_ en_ ec_; (first | subst ea_ | (injection ea_ with ea_; subst ea_)); subst ec_; clear en_)); have GB9 := q13 gb9; have GG9 := q13 HG9; clear gb9 gl9 HG9; (first | simp only [add_plain] at hx324_0 | skip); (first | simp only [add_plain] at hx324_1 | skip); (first | simp only [add_plain] at hx324_2 | skip); (first | simp only [add_plain] at hx324_3 | skip); (first | simp only [add_plain] at hx324_4 | skip); (first | simp only [add_plain] at hx324_5 | skip); (first | simp only [add_plain] at hx324_6 | skip); (first | simp only [add_plain] at hx324_7 | skip); (first | simp only [add_plain] at hx324_8 | skip); obtain ⟨ce9, hcl9, hM9, hcc9, hfr9⟩ := Kd.N_elem HO_3.out z69 (x4_1 : Int) p9 q9; obtain ⟨ua9_8, uc9_8, rfl, ul9_8, ge9_8⟩ := k69_openF hM9; have hx9_0 : w13.cell? ⟨go9, (x4_1 : Int).toNat * 9, none⟩ = some (.int .i64 ((rd_T69 x3_1 x4_1).f0)) := hcc9 0 _ rfl; have hx9_1 : w13.cell? ⟨go9, (x4_1 : Int).toNat * 9 + 1, none⟩ = some (.int .i64 ((rd_T69 x3_1 x4_1).f1)) := hcc9 1 _ rfl; have hx9_2 : w13.cell? ⟨go9, (x4_1 : Int).toNat * 9 + 2, none⟩ = some (.int .i64 ((rd_T69 x3_1 x4_1).f2)) := hcc9 2 _ rfl; have hx9_3 : w13.cell? ⟨go9, (x4_1 : Int).toNat * 9 + 3, none⟩ = some (.int .i64 ((rd_T69 x3_1 x4_1).f3)) := hcc9 3 _ rfl; have hx9_4 : w13.cell? ⟨go9, (x4_1 : Int).toNat * 9 + 4, none⟩ = some (.int .i64 ((rd_T69 x3_1 x4_1).f4)) := hcc9 4 _ rfl; have hx9_5 : w13.cell? ⟨go9, (x4_1 : Int).toNat * 9 + 5, none⟩ = some (.string ((rd_T69 x3_1 x4_1).f5)) := hcc9 5 _ rfl; have hx9_6 : w13.cell? ⟨go9, (x4_1 : Int).toNat * 9 + 6, none⟩ = some (.string ((rd_T69 x3_1 x4_1).f6)) := hcc9 6 _ rfl; have hx9_7 : w13.cell? ⟨go9, (x4_1 : Int).toNat * 9 + 7, none⟩ = some (.string ((rd_T69 x3_1 x4_1).f7)) := hcc9 7 _ rfl; have hx9_8 : w13.cell? ⟨go9, (x4_1 : Int).toNat * 9 + 8, none⟩ = some (.slice ua9_8 ((rd_T69 x3_1 x4_1).f8).length uc9_8) := hcc9 8 _ rfl; have hf9_0 : w13.frozen? ⟨go9, (x4_1 : Int).toNat * 9, none⟩ = false := hfr9 0; have hf9_1 : w13.frozen? ⟨go9, (x4_1 : Int).toNat * 9 + 1, none⟩ = false := hfr9 1; have hf9_2 : w13.frozen? ⟨go9, (x4_1 : Int).toNat * 9 + 2, none⟩ = false := hfr9 2; have hf9_3 : w13.frozen? ⟨go9, (x4_1 : Int).toNat * 9 + 3, none⟩ = false := hfr9 3; have hf9_4 : w13.frozen? ⟨go9, (x4_1 : Int).toNat * 9 + 4, none⟩ = false := hfr9 4; have hf9_5 : w13.frozen? ⟨go9, (x4_1 : Int).toNat * 9 + 5, none⟩ = false := hfr9 5; have hf9_6 : w13.frozen? ⟨go9, (x4_1 : Int).toNat * 9 + 6, none⟩ = false := hfr9 6; have hf9_7 : w13.frozen? ⟨go9, (x4_1 : Int).toNat * 9 + 7, none⟩ = false := hfr9 7; have hf9_8 : w13.frozen? ⟨go9, (x4_1 : Int).toNat * 9 + 8, none⟩ = false := hfr9 8; clear hcl9 hcc9 hfr9 hM9; replace p9 := eq_true p9; replace q9 := eq_true q9; have HX14 := q13 (show Kd.N k69 69 w13 w.heap.size (fun k_ => (P0_ k_ ∨ w.heap.size ≤ k_)) (.slice (some ⟨go9, 0, none⟩) x3_1.length co10) x3_1 from (by (with_reducible repeat (first | apply Kd.N_alloc | apply Kd.N_drewN | apply Kd.N_drew)); exact Kd.N_mono HO_3.out (fun _ hk => hk.1))); obtain ⟨ce14, hcl14, hM14, hcc14, hfr14⟩ := Kd.N_elem HX14.out z69 (x4_1 : Int) (q15 (by assumption)) (by have h_ : (x4_1 : Int) < ((x3_1.length : Int) : Int) := q15 (by assumption); first | exact h_ | (have e_ := (Kd.N_reads' HO_3.out).1; omega) | simpa using h_); obtain ⟨ua14_8, uc14_8, rfl, ul14_8, ge14_8⟩ := k69_openF hM14; have HP14 := Kd.N_seg HX14.out (x4_1 : Int) (q15 (by assumption)) (by have h_ : (x4_1 : Int) < ((x3_1.length : Int) : Int) := q15 (by assumption); first | exact h_ | (have e_ := (Kd.N_reads' HO_3.out).1; omega) | simpa using h_) (seg := [(.slice Av_ y325.length cv_)]) (j := 8) hcl14 hcc14 (show 9 ≤ 9 from by decide) (x' := (⟨(rd_T69 x3_1 x4_1).f0, (rd_T69 x3_1 x4_1).f1, (rd_T69 x3_1 x4_1).f2, (rd_T69 x3_1 x4_1).f3, (rd_T69 x3_1 x4_1).f4, (rd_T69 x3_1 x4_1).f5, (rd_T69 x3_1 x4_1).f6, (rd_T69 x3_1 x4_1).f7, y325⟩ : S69)) (k69_mkF _ _ (⟨(rd_T69 x3_1 x4_1).f0, (rd_T69 x3_1 x4_1).f1, (rd_T69 x3_1 x4_1).f2, (rd_T69 x3_1 x4_1).f3, (rd_T69 x3_1 x4_1).f4, (rd_T69 x3_1 x4_1).f5, (rd_T69 x3_1 x4_1).f6, (rd_T69 x3_1 x4_1).f7, y325⟩ : S69) (Kd.R_reads' (Kd.R_mono (ok' := (fun k_ => ((fun k_ => (P0_ k_ ∨ w.heap.size ≤ k_))) k_ ∧ k_ ≠ go9)) (Kd.R_apart' (HO327.out) (Kd.N_typed HO_3.out) (by decide)) (fun k_ hk => ⟨(.inr (hk.1)), fun e_ => (hk.2) (by rw [e_]; rfl)⟩))).2.1 (Kd.R_F (Kd.R_mono (ok' := (fun k_ => ((fun k_ => (P0_ k_ ∨ w.heap.size ≤ k_))) k_ ∧ k_ ≠ go9)) (Kd.R_apart' (HO327.out) (Kd.N_typed HO_3.out) (by decide)) (fun k_ hk => ⟨(.inr (hk.1)), fun e_ => (hk.2) (by rw [e_]; rfl)⟩)))) (fun _ hk => hk); have hx14_8 := hcc14 8 _ rfl; (try simp only [show (k69).sz = 9 from rfl, Nat.mul_one, Nat.add_zero] at hx14_8); have hf14_8 := hfr14 8; (try simp only [show (k69).sz = 9 from rfl, Nat.mul_one, Nat.add_zero] at hf14_8); clear hcl14 hcc14 hfr14 hM14) | ((with_reducible refine gate_store (t := 67) (p := 24) rfl ?_); refine store_event (t := 67) (p := 24) (v := ?vo_w15) (w1 := (w13.setCell ⟨go9, (x4_1 : Int).toNat * 9 + 8, none⟩ ((.slice Av_ y325.length cv_)))) ?hg ?ho ?hn ?hr ?_; (case ho => rfl); (case hg => rfl); (case hn => rfl); (case hr => first | (go_simp; done) | (go_simp; rfl)); intro w15 hw; have hg : w13.grownBy w15 (some go9) := (by rw [hw]; exact HP14.2); have hp_ : Kd.N k69 69 w15 w.heap.size (fun k_ => (P0_ k_ ∨ w.heap.size ≤ k_)) (.slice (some ⟨go9, 0, none⟩) x3_1.length co10) y328 := (by rw [hw, Ny328.out]; exact HP14.1); clear HP14; have n0_ := q13 (hp_); have n1_ := q13 (Kd.V_afterv (v := (.slice (some ⟨go9, 0, none⟩) x3_1.length co10)) (v1 := (.slice (some ⟨go9, 0, none⟩) x3_1.length co10)) (ok := (fun k_ => (P0_ k_ ∨ w.heap.size ≤ k_) ∧ some k_ ≠ ((.slice Av_ y325.length cv_) : Value).ownBlock)) (by (with_reducible repeat (first | apply Kd.V_alloc | apply Kd.V_drewN | apply Kd.V_drew)); exact q34 HL324_8.out (fun _ hk => ⟨⟨hk.1.1, hk.2⟩, hk.1.2⟩)) hg (.inl rfl)); have n2_ := q13 ((by rw [hw]; exact q6 (HB.out) GB9.out : Below w.heap.size w w15)); clear HO_3; clear HL324_8; clear HB; clear HO327; have HO_3 := n0_; have HL324_8 := n1_; have HB := n2_; clear n0_ n1_ n2_; clear hg hw hp_))
       go_roundg k1
       case measure => have := HK1.out; omega
       case rel => exact ⟨(y328), (wrap64 (x4_1 + 1)), (by first | rfl | (simp; done) | (simp [*]; done)), H', ⟨by have := HK1.out; omega⟩, ⟨by (with_reducible repeat (first | apply Kd.N_alloc | apply Kd.N_drewN | apply Kd.N_drew)); exact HO_3.out⟩, ⟨gB HB⟩⟩
      ·rw [if_neg c8] at H
       exact absurd H (by simp)
     ·rw [if_neg c7] at H
      exact absurd H (by simp)
    ·rw [if_neg c6] at H
     have c6b0 : decide (x4_1 < (x3_1.length : Int)) = false := decide_eq_false c6
     clear c6
     obtain rfl := Option.some.inj H
     obtain ⟨Ao16, co16, eo16⟩ := Kd.N_slice HO_3.out
     subst eo16
     go_wp2
     go_ret
     exact ⟨_, by first | rfl | (simp [errW_none, errW_some] <;> rfl) | (simp [*, errW_none, errW_some] <;> rfl), by (with_reducible repeat (first | apply Kd.N_alloc | apply Kd.N_drewN | apply Kd.N_drew)); exact HO_3.out, gB HB⟩
 ·rw [if_neg c2] at H
  exact absurd H (by simp)

end Go.Proofs.Ytgjmljjnminefaa.QCompareApplies
