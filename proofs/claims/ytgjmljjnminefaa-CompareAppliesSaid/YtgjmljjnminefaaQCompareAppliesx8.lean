import Derived.Lib.SliceRun
import Derived.Test.YtgjmljjnminefaaQCompareAppliesx0
import Derived.Test.YtgjmljjnminefaaQCompareAppliesx1
import Derived.Test.YtgjmljjnminefaaQCompareAppliesx7
import Derived.Test.YtgjmljjnminefaaArrEq
import Derived.Test.YtgjmljjnminefaaZip
import Derived.Test.YtgjmljjnminefaaZip2
namespace Go.Proofs.Ytgjmljjnminefaa.QCompareApplies
open Go.Proofs.Ytgjmljjnminefaa.Zip2 Go.Proofs.Ytgjmljjnminefaa.Zip Go.RowKit Go.Proofs.YtgjmljjnminefaaW.PrintWords Go.Proofs.YtgjmljjnminefaaW.PrintLast Go.Proofs.YtgjmljjnminefaaW.PrintMore
attribute [local go_sem] max2_int min2_int max_two min_two max_three min_three max_four min_four   -- for this text's walks alone
set_option linter.unusedVariables false
set_option linter.unusedSimpArgs false

attribute [local go_sem high] eqA54
def frisketlaw36_sane.f (k : Nat)  : Option (Bool) := (compare_Least.f k (([(⟨1, ([] : List (S69))⟩ : S24), (⟨2, ([] : List (S69))⟩ : S24), (⟨3, ([] : List (S69))⟩ : S24)] : List (S24))) (([(⟨1, ([] : List (S69))⟩ : S24), (⟨3, ([] : List (S69))⟩ : S24)] : List (S24)))).bind fun bt218 => (if bt218.2 = 0 then (if (bt218.1.length : Int) = 3 then (if 1 < (bt218.1.length : Int) then (if (((rd_T54 bt218.1 1).f0) == 1 && (((rd_T54 bt218.1 1).f1) == 1 && (((rd_T54 bt218.1 1).f2) == 0))) = true then (if 2 < (bt218.1.length : Int) then (some (((rd_T54 bt218.1 2).f0) == 0 && (((rd_T54 bt218.1 2).f1) == 2 && (((rd_T54 bt218.1 2).f2) == 1)))) else (none)) else (some false)) else (none)) else (some false)) else (some false))
theorem frisketlaw36_sane.mono : ∀ k, LeO (frisketlaw36_sane.f k ) (frisketlaw36_sane.f (k + 1) ) := by
 intro  k
 unfold frisketlaw36_sane.f
 repeat' first
   | (with_reducible exact compare_Least.mono _ _ _)
   | (with_reducible exact LeO.refl _)
   | (with_reducible exact LeO.none _)
   | (with_reducible refine LeO.ite ?_ ?_)
   | (with_reducible refine LeO.bind ?_ (fun _ => ?_))
   | exact compare_Least.mono _ _ _
   | exact LeO.none _
   | refine LeO.ite ?_ ?_
   | refine LeO.bind ?_ (fun _ => ?_)
set_option maxHeartbeats 8000000 in
set_option maxRecDepth 100000 in
theorem frisketlaw36_sane.calls (k : Nat)  (r : Bool) (w : World) (h : frisketlaw36_sane.f k  = some r) :
  Calls Try.prog 7 #[] w fun e w' => e = .returned (.bool r) ∧ Below w.heap.size w w' := by
 have hu24 := Try.underlying24
 have hu54 := Try.underlying54
 have HB := q13 (Below.refl w.heap.size w)
 have H : ((compare_Least.f k (([(⟨1, ([] : List (S69))⟩ : S24), (⟨2, ([] : List (S69))⟩ : S24), (⟨3, ([] : List (S69))⟩ : S24)] : List (S24))) (([(⟨1, ([] : List (S69))⟩ : S24), (⟨3, ([] : List (S69))⟩ : S24)] : List (S24)))).bind fun bt218 => (if bt218.2 = 0 then (if (bt218.1.length : Int) = 3 then (if 1 < (bt218.1.length : Int) then (if (((rd_T54 bt218.1 1).f0) == 1 && (((rd_T54 bt218.1 1).f1) == 1 && (((rd_T54 bt218.1 1).f2) == 0))) = true then (if 2 < (bt218.1.length : Int) then (some (((rd_T54 bt218.1 2).f0) == 0 && (((rd_T54 bt218.1 2).f1) == 2 && (((rd_T54 bt218.1 2).f2) == 1)))) else (none)) else (some false)) else (none)) else (some false)) else (some false))) = some r := h
 clear h
 obtain ⟨y212, hy212⟩ : ∃ y_ : List (S24), y_ = (([(⟨1, ([] : List (S69))⟩ : S24), (⟨2, ([] : List (S69))⟩ : S24), (⟨3, ([] : List (S69))⟩ : S24)] : List (S24))) := ⟨_, rfl⟩
 replace H : ((compare_Least.f k y212 (([(⟨1, ([] : List (S69))⟩ : S24), (⟨3, ([] : List (S69))⟩ : S24)] : List (S24)))).bind fun bt218 => (if bt218.2 = 0 then (if (bt218.1.length : Int) = 3 then (if 1 < (bt218.1.length : Int) then (if (((rd_T54 bt218.1 1).f0) == 1 && (((rd_T54 bt218.1 1).f1) == 1 && (((rd_T54 bt218.1 1).f2) == 0))) = true then (if 2 < (bt218.1.length : Int) then (some (((rd_T54 bt218.1 2).f0) == 0 && (((rd_T54 bt218.1 2).f1) == 2 && (((rd_T54 bt218.1 2).f2) == 1)))) else (none)) else (some false)) else (none)) else (some false)) else (some false))) = some r := by first | (rw [hy212]; with_reducible exact H) | (have H2_ := (Option.bind_some _ _).symm.trans H; rw [hy212]; with_reducible exact H2_) | (have H2_ := (Option.bind_some _ _).symm.trans H; with_reducible exact H2_) | with_reducible exact H | (rw [hy212]; exact H) | exact H
 have Ny212 := q13 hy212
 clear hy212
 obtain ⟨y215, hy215⟩ : ∃ y_ : List (S24), y_ = (([(⟨1, ([] : List (S69))⟩ : S24), (⟨3, ([] : List (S69))⟩ : S24)] : List (S24))) := ⟨_, rfl⟩
 replace H : ((compare_Least.f k y212 y215).bind fun bt218 => (if bt218.2 = 0 then (if (bt218.1.length : Int) = 3 then (if 1 < (bt218.1.length : Int) then (if (((rd_T54 bt218.1 1).f0) == 1 && (((rd_T54 bt218.1 1).f1) == 1 && (((rd_T54 bt218.1 1).f2) == 0))) = true then (if 2 < (bt218.1.length : Int) then (some (((rd_T54 bt218.1 2).f0) == 0 && (((rd_T54 bt218.1 2).f1) == 2 && (((rd_T54 bt218.1 2).f2) == 1)))) else (none)) else (some false)) else (none)) else (some false)) else (some false))) = some r := by first | (rw [hy215]; with_reducible exact H) | (have H2_ := (Option.bind_some _ _).symm.trans H; rw [hy215]; with_reducible exact H2_) | (have H2_ := (Option.bind_some _ _).symm.trans H; with_reducible exact H2_) | with_reducible exact H | (rw [hy215]; exact H) | exact H
 have Ny215 := q13 hy215
 clear hy215
 replace H := Option.bind_eq_some_iff.mp H
 obtain ⟨⟨t218, t219⟩, A10, H⟩ := H
 replace H : (if t219 = 0 then (if (t218.length : Int) = 3 then (if 1 < (t218.length : Int) then (if (((rd_T54 t218 1).f0) == 1 && (((rd_T54 t218 1).f1) == 1 && (((rd_T54 t218 1).f2) == 0))) = true then (if 2 < (t218.length : Int) then (some (((rd_T54 t218 2).f0) == 0 && (((rd_T54 t218 2).f1) == 2 && (((rd_T54 t218 2).f2) == 1)))) else (none)) else (some false)) else (none)) else (some false)) else (some false)) = some r := H
 have A1 := q13 A10
 clear A10
 by_cases c2 : t219 = 0
 ·rw [if_pos c2] at H
  have c2b0 : (t219 == 0) = true := beq_iff_eq.mpr c2
  have c2b1 : (t219 != 0) = false := bne_eq_false_iff_eq.mpr c2
  clear c2
  by_cases c3 : (t218.length : Int) = 3
  ·rw [if_pos c3] at H
   have c3b0 : ((t218.length : Int) == 3) = true := beq_iff_eq.mpr c3
   have c3b1 : ((t218.length : Int) != 3) = false := bne_eq_false_iff_eq.mpr c3
   clear c3
   by_cases c4 : 1 < (t218.length : Int)
   ·rw [if_pos c4] at H
    have c4b0 : decide (1 < (t218.length : Int)) = true := decide_eq_true c4
    have c4b1 : decide (1 < t218.length) = true := decide_eq_true (by omega)
    clear c4
    by_cases c5 : (((rd_T54 t218 1).f0) == 1 && (((rd_T54 t218 1).f1) == 1 && (((rd_T54 t218 1).f2) == 0))) = true
    ·rw [if_pos c5] at H
     have c5b0 : (((rd_T54 t218 1).f0) == 1 && (((rd_T54 t218 1).f1) == 1 && (((rd_T54 t218 1).f2) == 0))) = true := c5
     (try (have c5b1 : decide (((rd_T54 t218 1).f0) = 1 && (((rd_T54 t218 1).f1) == 1 && (((rd_T54 t218 1).f2) == 0))) = true := by simpa using c5))
     (try (have c5b2 : (((rd_T54 t218 1).f0) == 1 && (((rd_T54 t218 1).f1) == 1 && (((rd_T54 t218 1).f2) == 0))) = true := by simpa using c5))
     clear c5
     by_cases c6 : 2 < (t218.length : Int)
     ·rw [if_pos c6] at H
      have c6b0 : decide (2 < (t218.length : Int)) = true := decide_eq_true c6
      have c6b1 : decide (2 < t218.length) = true := decide_eq_true (by omega)
      clear c6
      obtain rfl := Option.some.inj H
      go_enter Try.func7, Try.ntmps7
      go_wp2_with (first | ((with_reducible refine gate_dst (N := 8) rfl ?_); (try (refine gate_guard (by rfl) ?_; dsimp only)); refine Kd.R_lit k24 _ 24 ?hg (N := 8) ?hd (xs := ([(⟨1, ([] : List (S69))⟩ : S24), (⟨2, ([] : List (S69))⟩ : S24), (⟨3, ([] : List (S69))⟩ : S24)] : List (S24))) (inner := [.int .i64 1, .slice none 0 0, .int .i64 2, .slice none 0 0, .int .i64 3, .slice none 0 0]) (ok := fun _ => True) (okp := fun _ => True) ?hr ?hp (fun _ hk => hk) trivial (Below.refl _ _) (q17 _) (by simp) ?_; (case hd => rfl); (case hg => rfl); (case hr => first | (go_simp; done) | (go_simp; rfl)); (case hp => exact (Reps.c2 (show Kd.M k24 _ _ _ (⟨1, ([] : List (S69))⟩ : S24) [.int .i64 1, .slice none 0 0] from (k24_mkM _ _ _ (⟨1, ([] : List (S69))⟩ : S24) (Kd.R_nil _ _ _ _ _))) (Reps.c2 (show Kd.M k24 _ _ _ (⟨2, ([] : List (S69))⟩ : S24) [.int .i64 2, .slice none 0 0] from (k24_mkM _ _ _ (⟨2, ([] : List (S69))⟩ : S24) (Kd.R_nil _ _ _ _ _))) (Reps.c2 (show Kd.M k24 _ _ _ (⟨3, ([] : List (S69))⟩ : S24) [.int .i64 3, .slice none 0 0] from (k24_mkM _ _ _ (⟨3, ([] : List (S69))⟩ : S24) (Kd.R_nil _ _ _ _ _))) (Reps.none _ _))))); intro v213 w7 ho8 hb hg_ hnew_; clear hg_ hnew_; (first | rw [← Ny212.out] at ho8 | (simp only [Int.reduceToNat] at ho8; rw [← Ny212.out] at ho8)); have n0_ := q13 (Kd.R_lower ho8 (q7 (gB HB))); have n1_ := q13 (q12 (gB HB) hb); clear HB; have HO214 := n0_; have HB := n1_; clear n0_ n1_; clear hb ho8) | ((with_reducible refine gate_dst (N := 11) rfl ?_); (try (refine gate_guard (by rfl) ?_; dsimp only)); refine Kd.R_lit k24 _ 24 ?hg (N := 11) ?hd (xs := ([(⟨1, ([] : List (S69))⟩ : S24), (⟨3, ([] : List (S69))⟩ : S24)] : List (S24))) (inner := [.int .i64 1, .slice none 0 0, .int .i64 3, .slice none 0 0]) (ok := fun _ => True) (okp := fun _ => True) ?hr ?hp (fun _ hk => hk) trivial (Below.refl _ _) (q17 _) (by simp) ?_; (case hd => rfl); (case hg => rfl); (case hr => first | (go_simp; done) | (go_simp; rfl)); (case hp => exact (Reps.c2 (show Kd.M k24 _ _ _ (⟨1, ([] : List (S69))⟩ : S24) [.int .i64 1, .slice none 0 0] from (k24_mkM _ _ _ (⟨1, ([] : List (S69))⟩ : S24) (Kd.R_nil _ _ _ _ _))) (Reps.c2 (show Kd.M k24 _ _ _ (⟨3, ([] : List (S69))⟩ : S24) [.int .i64 3, .slice none 0 0] from (k24_mkM _ _ _ (⟨3, ([] : List (S69))⟩ : S24) (Kd.R_nil _ _ _ _ _))) (Reps.none _ _)))); intro v216 w9 ho10 hb hg_ hnew_; clear hg_ hnew_; (first | rw [← Ny215.out] at ho10 | (simp only [Int.reduceToNat] at ho10; rw [← Ny215.out] at ho10)); have n0_ := q13 (Kd.R_elder' (gR HO214) (Kd.R_base ho10) hb); have n1_ := q13 (Kd.R_lower (Kd.R_new' ho10 (Kd.R_lt (gR HO214))) (q7 (gB HB))); have n2_ := q13 (q12 (gB HB) hb); clear HO214; clear HB; have HO214 := n0_; have HO217 := n1_; have HB := n2_; clear n0_ n1_ n2_; clear hb ho10; obtain ⟨Ao11, co11, eo11⟩ := Kd.R_slice HO214.out; subst eo11; obtain ⟨Ao12, co12, eo12⟩ := Kd.R_slice HO217.out; subst eo12) | ((with_reducible refine gate_callee (f := 24) rfl ?_); refine goesL_ (some 15) rfl rfl Try.func24 (by kernel_rfl) rfl #[.slice Ao11 y212.length co11, .slice Ao12 y215.length co12] rfl (by (try simp only [List.map_toArray, List.map_cons, List.map_nil]); first | done | rfl | (simp only [List.length_drop, List.length_take]; rfl)) ?_; (with_reducible refine (compare_Least.calls k _ _ y212 _ _ y215 t218 t219 _ ?side1 ?side2 ?side3 ?side4 A1.out).mono ?_); (case side1 => repeat (first | exact (Kd.R_reads' HO214.out).2.2 | (with_reducible refine q18 ?_ _) | (with_reducible refine q19 ?_ _) | (with_reducible refine q20 ?_))); (case side2 => exact (Kd.R_reads' HO214.out).2.1); (case side3 => repeat (first | exact (Kd.R_reads' HO217.out).2.2 | (with_reducible refine q18 ?_ _) | (with_reducible refine q19 ?_ _) | (with_reducible refine q20 ?_))); (case side4 => exact (Kd.R_reads' HO217.out).2.1); rintro e w13 ⟨v220, rfl, ho0, hb⟩; refine ⟨_, rfl, ?_⟩; have n0_ := q13 (Kd.R_below (gR HO214) hb); have n1_ := q13 (Kd.R_below (gR HO217) hb); have n2_ := q13 (Kd.R_lower ho0 (q7 (gB HB))); have n3_ := q13 (q12 (gB HB) hb); clear HO214; clear HO217; clear HB; have HO214 := n0_; have HO217 := n1_; have HO221 := n2_; have HB := n3_; clear n0_ n1_ n2_ n3_; (try clear hb); (try clear hb2); (try clear hk); (try clear hi); (try clear ho0); obtain ⟨Ao14, co14, eo14⟩ := Kd.R_slice HO221.out; subst eo14; have p222 : 0 ≤ (1 : Int) := (by omega); have q222 : 1 < (t218.length : Int) := q15 (by assumption); obtain ⟨ad222, e222, hx222_0, hx222_1, hx222_2⟩ := at_T54 (Kd.R_reads' HO221.out).2.2 1 p222 q222; cases e222; (try simp only [show (1 : Int).toNat = 1 from rfl, Nat.reduceMul, Nat.reduceEqDiff, Go.Addr.add, ↓reduceIte] at hx222_0); (try simp only [show (1 : Int).toNat = 1 from rfl, Nat.reduceMul, Nat.reduceEqDiff, Go.Addr.add, ↓reduceIte] at hx222_1); (try simp only [show (1 : Int).toNat = 1 from rfl, Nat.reduceMul, Nat.reduceEqDiff, Go.Addr.add, ↓reduceIte] at hx222_2); have qi222 : (1 < t218.length) = True := eq_true (by omega); (try rw [show ((1 : Int)).toNat = 1 from rfl] at hx222_0); (try rw [show 1 * 3 = 3 from rfl] at hx222_0); (try rw [show ((1 : Int)).toNat = 1 from rfl] at hx222_1); (try rw [show 1 * 3 = 3 from rfl] at hx222_1); (try rw [show ((1 : Int)).toNat = 1 from rfl] at hx222_2); (try rw [show 1 * 3 = 3 from rfl] at hx222_2); replace p222 := eq_true p222; replace q222 := eq_true q222; have p223 : 0 ≤ (2 : Int) := (by omega); have q223 : 2 < (t218.length : Int) := q15 (by assumption); obtain ⟨ad223, e223, hx223_0, hx223_1, hx223_2⟩ := at_T54 (Kd.R_reads' HO221.out).2.2 2 p223 q223; obtain rfl : ad222 = ad223 := (by injection e223); (try simp only [show (2 : Int).toNat = 2 from rfl, Nat.reduceMul, Nat.reduceEqDiff, Go.Addr.add, ↓reduceIte] at hx223_0); (try simp only [show (2 : Int).toNat = 2 from rfl, Nat.reduceMul, Nat.reduceEqDiff, Go.Addr.add, ↓reduceIte] at hx223_1); (try simp only [show (2 : Int).toNat = 2 from rfl, Nat.reduceMul, Nat.reduceEqDiff, Go.Addr.add, ↓reduceIte] at hx223_2); have qi223 : (2 < t218.length) = True := eq_true (by omega); (try rw [show ((2 : Int)).toNat = 2 from rfl] at hx223_0); (try rw [show 2 * 3 = 6 from rfl] at hx223_0); (try rw [show ((2 : Int)).toNat = 2 from rfl] at hx223_1); (try rw [show 2 * 3 = 6 from rfl] at hx223_1); (try rw [show ((2 : Int)).toNat = 2 from rfl] at hx223_2); (try rw [show 2 * 3 = 6 from rfl] at hx223_2); replace p223 := eq_true p223; replace q223 := eq_true q223))
      go_ret
      exact ⟨by first | rfl | (simp [errW_none, errW_some] <;> rfl) | (simp [*, errW_none, errW_some] <;> rfl), gB HB⟩
     ·rw [if_neg c6] at H
      exact absurd H (by simp)
    ·rw [if_neg c5] at H
     have c5b0 : (((rd_T54 t218 1).f0) == 1 && (((rd_T54 t218 1).f1) == 1 && (((rd_T54 t218 1).f2) == 0))) = false := by simpa using c5
     (try (have c5b1 : decide (((rd_T54 t218 1).f0) = 1 && (((rd_T54 t218 1).f1) == 1 && (((rd_T54 t218 1).f2) == 0))) = false := by simpa using c5))
     (try (have c5b2 : (((rd_T54 t218 1).f0) == 1 && (((rd_T54 t218 1).f1) == 1 && (((rd_T54 t218 1).f2) == 0))) = false := by simpa using c5))
     (try (have c5b3 : ¬ (((rd_T54 t218 1).f0) = 1 && (((rd_T54 t218 1).f1) == 1 && (((rd_T54 t218 1).f2) == 0))) := by simpa using c5))
     clear c5
     obtain rfl := Option.some.inj H
     go_enter Try.func7, Try.ntmps7
     go_wp2_with (first | ((with_reducible refine gate_dst (N := 8) rfl ?_); (try (refine gate_guard (by rfl) ?_; dsimp only)); refine Kd.R_lit k24 _ 24 ?hg (N := 8) ?hd (xs := ([(⟨1, ([] : List (S69))⟩ : S24), (⟨2, ([] : List (S69))⟩ : S24), (⟨3, ([] : List (S69))⟩ : S24)] : List (S24))) (inner := [.int .i64 1, .slice none 0 0, .int .i64 2, .slice none 0 0, .int .i64 3, .slice none 0 0]) (ok := fun _ => True) (okp := fun _ => True) ?hr ?hp (fun _ hk => hk) trivial (Below.refl _ _) (q17 _) (by simp) ?_; (case hd => rfl); (case hg => rfl); (case hr => first | (go_simp; done) | (go_simp; rfl)); (case hp => exact (Reps.c2 (show Kd.M k24 _ _ _ (⟨1, ([] : List (S69))⟩ : S24) [.int .i64 1, .slice none 0 0] from (k24_mkM _ _ _ (⟨1, ([] : List (S69))⟩ : S24) (Kd.R_nil _ _ _ _ _))) (Reps.c2 (show Kd.M k24 _ _ _ (⟨2, ([] : List (S69))⟩ : S24) [.int .i64 2, .slice none 0 0] from (k24_mkM _ _ _ (⟨2, ([] : List (S69))⟩ : S24) (Kd.R_nil _ _ _ _ _))) (Reps.c2 (show Kd.M k24 _ _ _ (⟨3, ([] : List (S69))⟩ : S24) [.int .i64 3, .slice none 0 0] from (k24_mkM _ _ _ (⟨3, ([] : List (S69))⟩ : S24) (Kd.R_nil _ _ _ _ _))) (Reps.none _ _))))); intro v213 w15 ho16 hb hg_ hnew_; clear hg_ hnew_; (first | rw [← Ny212.out] at ho16 | (simp only [Int.reduceToNat] at ho16; rw [← Ny212.out] at ho16)); have n0_ := q13 (Kd.R_lower ho16 (q7 (gB HB))); have n1_ := q13 (q12 (gB HB) hb); clear HB; have HO214 := n0_; have HB := n1_; clear n0_ n1_; clear hb ho16) | ((with_reducible refine gate_dst (N := 11) rfl ?_); (try (refine gate_guard (by rfl) ?_; dsimp only)); refine Kd.R_lit k24 _ 24 ?hg (N := 11) ?hd (xs := ([(⟨1, ([] : List (S69))⟩ : S24), (⟨3, ([] : List (S69))⟩ : S24)] : List (S24))) (inner := [.int .i64 1, .slice none 0 0, .int .i64 3, .slice none 0 0]) (ok := fun _ => True) (okp := fun _ => True) ?hr ?hp (fun _ hk => hk) trivial (Below.refl _ _) (q17 _) (by simp) ?_; (case hd => rfl); (case hg => rfl); (case hr => first | (go_simp; done) | (go_simp; rfl)); (case hp => exact (Reps.c2 (show Kd.M k24 _ _ _ (⟨1, ([] : List (S69))⟩ : S24) [.int .i64 1, .slice none 0 0] from (k24_mkM _ _ _ (⟨1, ([] : List (S69))⟩ : S24) (Kd.R_nil _ _ _ _ _))) (Reps.c2 (show Kd.M k24 _ _ _ (⟨3, ([] : List (S69))⟩ : S24) [.int .i64 3, .slice none 0 0] from (k24_mkM _ _ _ (⟨3, ([] : List (S69))⟩ : S24) (Kd.R_nil _ _ _ _ _))) (Reps.none _ _)))); intro v216 w17 ho18 hb hg_ hnew_; clear hg_ hnew_; (first | rw [← Ny215.out] at ho18 | (simp only [Int.reduceToNat] at ho18; rw [← Ny215.out] at ho18)); have n0_ := q13 (Kd.R_elder' (gR HO214) (Kd.R_base ho18) hb); have n1_ := q13 (Kd.R_lower (Kd.R_new' ho18 (Kd.R_lt (gR HO214))) (q7 (gB HB))); have n2_ := q13 (q12 (gB HB) hb); clear HO214; clear HB; have HO214 := n0_; have HO217 := n1_; have HB := n2_; clear n0_ n1_ n2_; clear hb ho18; obtain ⟨Ao19, co19, eo19⟩ := Kd.R_slice HO214.out; subst eo19; obtain ⟨Ao20, co20, eo20⟩ := Kd.R_slice HO217.out; subst eo20) | ((with_reducible refine gate_callee (f := 24) rfl ?_); refine goesL_ (some 15) rfl rfl Try.func24 (by kernel_rfl) rfl #[.slice Ao19 y212.length co19, .slice Ao20 y215.length co20] rfl (by (try simp only [List.map_toArray, List.map_cons, List.map_nil]); first | done | rfl | (simp only [List.length_drop, List.length_take]; rfl)) ?_; (with_reducible refine (compare_Least.calls k _ _ y212 _ _ y215 t218 t219 _ ?side1 ?side2 ?side3 ?side4 A1.out).mono ?_); (case side1 => repeat (first | exact (Kd.R_reads' HO214.out).2.2 | (with_reducible refine q18 ?_ _) | (with_reducible refine q19 ?_ _) | (with_reducible refine q20 ?_))); (case side2 => exact (Kd.R_reads' HO214.out).2.1); (case side3 => repeat (first | exact (Kd.R_reads' HO217.out).2.2 | (with_reducible refine q18 ?_ _) | (with_reducible refine q19 ?_ _) | (with_reducible refine q20 ?_))); (case side4 => exact (Kd.R_reads' HO217.out).2.1); rintro e w21 ⟨v220, rfl, ho0, hb⟩; refine ⟨_, rfl, ?_⟩; have n0_ := q13 (Kd.R_below (gR HO214) hb); have n1_ := q13 (Kd.R_below (gR HO217) hb); have n2_ := q13 (Kd.R_lower ho0 (q7 (gB HB))); have n3_ := q13 (q12 (gB HB) hb); clear HO214; clear HO217; clear HB; have HO214 := n0_; have HO217 := n1_; have HO221 := n2_; have HB := n3_; clear n0_ n1_ n2_ n3_; (try clear hb); (try clear hb2); (try clear hk); (try clear hi); (try clear ho0); obtain ⟨Ao22, co22, eo22⟩ := Kd.R_slice HO221.out; subst eo22; have p222 : 0 ≤ (1 : Int) := (by omega); have q222 : 1 < (t218.length : Int) := q15 (by assumption); obtain ⟨ad222, e222, hx222_0, hx222_1, hx222_2⟩ := at_T54 (Kd.R_reads' HO221.out).2.2 1 p222 q222; cases e222; (try simp only [show (1 : Int).toNat = 1 from rfl, Nat.reduceMul, Nat.reduceEqDiff, Go.Addr.add, ↓reduceIte] at hx222_0); (try simp only [show (1 : Int).toNat = 1 from rfl, Nat.reduceMul, Nat.reduceEqDiff, Go.Addr.add, ↓reduceIte] at hx222_1); (try simp only [show (1 : Int).toNat = 1 from rfl, Nat.reduceMul, Nat.reduceEqDiff, Go.Addr.add, ↓reduceIte] at hx222_2); have qi222 : (1 < t218.length) = True := eq_true (by omega); (try rw [show ((1 : Int)).toNat = 1 from rfl] at hx222_0); (try rw [show 1 * 3 = 3 from rfl] at hx222_0); (try rw [show ((1 : Int)).toNat = 1 from rfl] at hx222_1); (try rw [show 1 * 3 = 3 from rfl] at hx222_1); (try rw [show ((1 : Int)).toNat = 1 from rfl] at hx222_2); (try rw [show 1 * 3 = 3 from rfl] at hx222_2); replace p222 := eq_true p222; replace q222 := eq_true q222))
     go_ret
     exact ⟨by first | rfl | (simp [errW_none, errW_some] <;> rfl) | (simp [*, errW_none, errW_some] <;> rfl), gB HB⟩
   ·rw [if_neg c4] at H
    exact absurd H (by simp)
  ·rw [if_neg c3] at H
   have c3b0 : ((t218.length : Int) == 3) = false := beq_eq_false_iff_ne.mpr c3
   have c3b1 : ((t218.length : Int) != 3) = true := bne_iff_ne.mpr c3
   obtain rfl := Option.some.inj H
   go_enter Try.func7, Try.ntmps7
   go_wp2_with (first | ((with_reducible refine gate_dst (N := 8) rfl ?_); (try (refine gate_guard (by rfl) ?_; dsimp only)); refine Kd.R_lit k24 _ 24 ?hg (N := 8) ?hd (xs := ([(⟨1, ([] : List (S69))⟩ : S24), (⟨2, ([] : List (S69))⟩ : S24), (⟨3, ([] : List (S69))⟩ : S24)] : List (S24))) (inner := [.int .i64 1, .slice none 0 0, .int .i64 2, .slice none 0 0, .int .i64 3, .slice none 0 0]) (ok := fun _ => True) (okp := fun _ => True) ?hr ?hp (fun _ hk => hk) trivial (Below.refl _ _) (q17 _) (by simp) ?_; (case hd => rfl); (case hg => rfl); (case hr => first | (go_simp; done) | (go_simp; rfl)); (case hp => exact (Reps.c2 (show Kd.M k24 _ _ _ (⟨1, ([] : List (S69))⟩ : S24) [.int .i64 1, .slice none 0 0] from (k24_mkM _ _ _ (⟨1, ([] : List (S69))⟩ : S24) (Kd.R_nil _ _ _ _ _))) (Reps.c2 (show Kd.M k24 _ _ _ (⟨2, ([] : List (S69))⟩ : S24) [.int .i64 2, .slice none 0 0] from (k24_mkM _ _ _ (⟨2, ([] : List (S69))⟩ : S24) (Kd.R_nil _ _ _ _ _))) (Reps.c2 (show Kd.M k24 _ _ _ (⟨3, ([] : List (S69))⟩ : S24) [.int .i64 3, .slice none 0 0] from (k24_mkM _ _ _ (⟨3, ([] : List (S69))⟩ : S24) (Kd.R_nil _ _ _ _ _))) (Reps.none _ _))))); intro v213 w23 ho24 hb hg_ hnew_; clear hg_ hnew_; (first | rw [← Ny212.out] at ho24 | (simp only [Int.reduceToNat] at ho24; rw [← Ny212.out] at ho24)); have n0_ := q13 (Kd.R_lower ho24 (q7 (gB HB))); have n1_ := q13 (q12 (gB HB) hb); clear HB; have HO214 := n0_; have HB := n1_; clear n0_ n1_; clear hb ho24) | ((with_reducible refine gate_dst (N := 11) rfl ?_); (try (refine gate_guard (by rfl) ?_; dsimp only)); refine Kd.R_lit k24 _ 24 ?hg (N := 11) ?hd (xs := ([(⟨1, ([] : List (S69))⟩ : S24), (⟨3, ([] : List (S69))⟩ : S24)] : List (S24))) (inner := [.int .i64 1, .slice none 0 0, .int .i64 3, .slice none 0 0]) (ok := fun _ => True) (okp := fun _ => True) ?hr ?hp (fun _ hk => hk) trivial (Below.refl _ _) (q17 _) (by simp) ?_; (case hd => rfl); (case hg => rfl); (case hr => first | (go_simp; done) | (go_simp; rfl)); (case hp => exact (Reps.c2 (show Kd.M k24 _ _ _ (⟨1, ([] : List (S69))⟩ : S24) [.int .i64 1, .slice none 0 0] from (k24_mkM _ _ _ (⟨1, ([] : List (S69))⟩ : S24) (Kd.R_nil _ _ _ _ _))) (Reps.c2 (show Kd.M k24 _ _ _ (⟨3, ([] : List (S69))⟩ : S24) [.int .i64 3, .slice none 0 0] from (k24_mkM _ _ _ (⟨3, ([] : List (S69))⟩ : S24) (Kd.R_nil _ _ _ _ _))) (Reps.none _ _)))); intro v216 w25 ho26 hb hg_ hnew_; clear hg_ hnew_; (first | rw [← Ny215.out] at ho26 | (simp only [Int.reduceToNat] at ho26; rw [← Ny215.out] at ho26)); have n0_ := q13 (Kd.R_elder' (gR HO214) (Kd.R_base ho26) hb); have n1_ := q13 (Kd.R_lower (Kd.R_new' ho26 (Kd.R_lt (gR HO214))) (q7 (gB HB))); have n2_ := q13 (q12 (gB HB) hb); clear HO214; clear HB; have HO214 := n0_; have HO217 := n1_; have HB := n2_; clear n0_ n1_ n2_; clear hb ho26; obtain ⟨Ao27, co27, eo27⟩ := Kd.R_slice HO214.out; subst eo27; obtain ⟨Ao28, co28, eo28⟩ := Kd.R_slice HO217.out; subst eo28) | ((with_reducible refine gate_callee (f := 24) rfl ?_); refine goesL_ (some 15) rfl rfl Try.func24 (by kernel_rfl) rfl #[.slice Ao27 y212.length co27, .slice Ao28 y215.length co28] rfl (by (try simp only [List.map_toArray, List.map_cons, List.map_nil]); first | done | rfl | (simp only [List.length_drop, List.length_take]; rfl)) ?_; (with_reducible refine (compare_Least.calls k _ _ y212 _ _ y215 t218 t219 _ ?side1 ?side2 ?side3 ?side4 A1.out).mono ?_); (case side1 => repeat (first | exact (Kd.R_reads' HO214.out).2.2 | (with_reducible refine q18 ?_ _) | (with_reducible refine q19 ?_ _) | (with_reducible refine q20 ?_))); (case side2 => exact (Kd.R_reads' HO214.out).2.1); (case side3 => repeat (first | exact (Kd.R_reads' HO217.out).2.2 | (with_reducible refine q18 ?_ _) | (with_reducible refine q19 ?_ _) | (with_reducible refine q20 ?_))); (case side4 => exact (Kd.R_reads' HO217.out).2.1); rintro e w29 ⟨v220, rfl, ho0, hb⟩; refine ⟨_, rfl, ?_⟩; have n0_ := q13 (Kd.R_below (gR HO214) hb); have n1_ := q13 (Kd.R_below (gR HO217) hb); have n2_ := q13 (Kd.R_lower ho0 (q7 (gB HB))); have n3_ := q13 (q12 (gB HB) hb); clear HO214; clear HO217; clear HB; have HO214 := n0_; have HO217 := n1_; have HO221 := n2_; have HB := n3_; clear n0_ n1_ n2_ n3_; (try clear hb); (try clear hb2); (try clear hk); (try clear hi); (try clear ho0); obtain ⟨Ao30, co30, eo30⟩ := Kd.R_slice HO221.out; subst eo30))
   go_ret
   exact ⟨by first | rfl | (simp [errW_none, errW_some] <;> rfl) | (simp [*, errW_none, errW_some] <;> rfl), gB HB⟩
 ·rw [if_neg c2] at H
  have c2b0 : (t219 == 0) = false := beq_eq_false_iff_ne.mpr c2
  have c2b1 : (t219 != 0) = true := bne_iff_ne.mpr c2
  obtain rfl := Option.some.inj H
  go_enter Try.func7, Try.ntmps7
  go_wp2_with (first | ((with_reducible refine gate_dst (N := 8) rfl ?_); (try (refine gate_guard (by rfl) ?_; dsimp only)); refine Kd.R_lit k24 _ 24 ?hg (N := 8) ?hd (xs := ([(⟨1, ([] : List (S69))⟩ : S24), (⟨2, ([] : List (S69))⟩ : S24), (⟨3, ([] : List (S69))⟩ : S24)] : List (S24))) (inner := [.int .i64 1, .slice none 0 0, .int .i64 2, .slice none 0 0, .int .i64 3, .slice none 0 0]) (ok := fun _ => True) (okp := fun _ => True) ?hr ?hp (fun _ hk => hk) trivial (Below.refl _ _) (q17 _) (by simp) ?_; (case hd => rfl); (case hg => rfl); (case hr => first | (go_simp; done) | (go_simp; rfl)); (case hp => exact (Reps.c2 (show Kd.M k24 _ _ _ (⟨1, ([] : List (S69))⟩ : S24) [.int .i64 1, .slice none 0 0] from (k24_mkM _ _ _ (⟨1, ([] : List (S69))⟩ : S24) (Kd.R_nil _ _ _ _ _))) (Reps.c2 (show Kd.M k24 _ _ _ (⟨2, ([] : List (S69))⟩ : S24) [.int .i64 2, .slice none 0 0] from (k24_mkM _ _ _ (⟨2, ([] : List (S69))⟩ : S24) (Kd.R_nil _ _ _ _ _))) (Reps.c2 (show Kd.M k24 _ _ _ (⟨3, ([] : List (S69))⟩ : S24) [.int .i64 3, .slice none 0 0] from (k24_mkM _ _ _ (⟨3, ([] : List (S69))⟩ : S24) (Kd.R_nil _ _ _ _ _))) (Reps.none _ _))))); intro v213 w31 ho32 hb hg_ hnew_; clear hg_ hnew_; (first | rw [← Ny212.out] at ho32 | (simp only [Int.reduceToNat] at ho32; rw [← Ny212.out] at ho32)); have n0_ := q13 (Kd.R_lower ho32 (q7 (gB HB))); have n1_ := q13 (q12 (gB HB) hb); clear HB; have HO214 := n0_; have HB := n1_; clear n0_ n1_; clear hb ho32) | ((with_reducible refine gate_dst (N := 11) rfl ?_); (try (refine gate_guard (by rfl) ?_; dsimp only)); refine Kd.R_lit k24 _ 24 ?hg (N := 11) ?hd (xs := ([(⟨1, ([] : List (S69))⟩ : S24), (⟨3, ([] : List (S69))⟩ : S24)] : List (S24))) (inner := [.int .i64 1, .slice none 0 0, .int .i64 3, .slice none 0 0]) (ok := fun _ => True) (okp := fun _ => True) ?hr ?hp (fun _ hk => hk) trivial (Below.refl _ _) (q17 _) (by simp) ?_; (case hd => rfl); (case hg => rfl); (case hr => first | (go_simp; done) | (go_simp; rfl)); (case hp => exact (Reps.c2 (show Kd.M k24 _ _ _ (⟨1, ([] : List (S69))⟩ : S24) [.int .i64 1, .slice none 0 0] from (k24_mkM _ _ _ (⟨1, ([] : List (S69))⟩ : S24) (Kd.R_nil _ _ _ _ _))) (Reps.c2 (show Kd.M k24 _ _ _ (⟨3, ([] : List (S69))⟩ : S24) [.int .i64 3, .slice none 0 0] from (k24_mkM _ _ _ (⟨3, ([] : List (S69))⟩ : S24) (Kd.R_nil _ _ _ _ _))) (Reps.none _ _)))); intro v216 w33 ho34 hb hg_ hnew_; clear hg_ hnew_; (first | rw [← Ny215.out] at ho34 | (simp only [Int.reduceToNat] at ho34; rw [← Ny215.out] at ho34)); have n0_ := q13 (Kd.R_elder' (gR HO214) (Kd.R_base ho34) hb); have n1_ := q13 (Kd.R_lower (Kd.R_new' ho34 (Kd.R_lt (gR HO214))) (q7 (gB HB))); have n2_ := q13 (q12 (gB HB) hb); clear HO214; clear HB; have HO214 := n0_; have HO217 := n1_; have HB := n2_; clear n0_ n1_ n2_; clear hb ho34; obtain ⟨Ao35, co35, eo35⟩ := Kd.R_slice HO214.out; subst eo35; obtain ⟨Ao36, co36, eo36⟩ := Kd.R_slice HO217.out; subst eo36) | ((with_reducible refine gate_callee (f := 24) rfl ?_); refine goesL_ (some 15) rfl rfl Try.func24 (by kernel_rfl) rfl #[.slice Ao35 y212.length co35, .slice Ao36 y215.length co36] rfl (by (try simp only [List.map_toArray, List.map_cons, List.map_nil]); first | done | rfl | (simp only [List.length_drop, List.length_take]; rfl)) ?_; (with_reducible refine (compare_Least.calls k _ _ y212 _ _ y215 t218 t219 _ ?side1 ?side2 ?side3 ?side4 A1.out).mono ?_); (case side1 => repeat (first | exact (Kd.R_reads' HO214.out).2.2 | (with_reducible refine q18 ?_ _) | (with_reducible refine q19 ?_ _) | (with_reducible refine q20 ?_))); (case side2 => exact (Kd.R_reads' HO214.out).2.1); (case side3 => repeat (first | exact (Kd.R_reads' HO217.out).2.2 | (with_reducible refine q18 ?_ _) | (with_reducible refine q19 ?_ _) | (with_reducible refine q20 ?_))); (case side4 => exact (Kd.R_reads' HO217.out).2.1); rintro e w37 ⟨v220, rfl, ho0, hb⟩; refine ⟨_, rfl, ?_⟩; have n0_ := q13 (Kd.R_below (gR HO214) hb); have n1_ := q13 (Kd.R_below (gR HO217) hb); have n2_ := q13 (Kd.R_lower ho0 (q7 (gB HB))); have n3_ := q13 (q12 (gB HB) hb); clear HO214; clear HO217; clear HB; have HO214 := n0_; have HO217 := n1_; have HO221 := n2_; have HB := n3_; clear n0_ n1_ n2_ n3_; (try clear hb); (try clear hb2); (try clear hk); (try clear hi); (try clear ho0)))
  go_ret
  exact ⟨by first | rfl | (simp [errW_none, errW_some] <;> rfl) | (simp [*, errW_none, errW_some] <;> rfl), gB HB⟩

def frisketlaw36_as.l0 : Nat → List (S24) → List (S35) → Int → Option ((List (S35)))
 | 0, _, _, _ => none
 | k + 1, x0, x3, x4 => if x4 < (x0.length : Int) then (if 0 ≤ x4 then (if x3.length < 4398046511104 then (frisketlaw36_as.l0 k x0 (x3 ++ [(⟨(rd_T24 x0 x4).f0, (rd_T24 x0 x4).f1⟩ : S35)]) (wrap64 (x4 + 1))) else (none)) else (none)) else (some x3)
def frisketlaw36_as.f (k : Nat) (l0 : List (S24)) : Option ((List (S35))) := frisketlaw36_as.l0 k l0 ([] : List (S35)) 0
theorem frisketlaw36_as.mono_l : ∀ k, (∀ y0 y1 y2, LeO (frisketlaw36_as.l0 k y0 y1 y2) (frisketlaw36_as.l0 (k + 1) y0 y1 y2))
 | 0 => fun _ _ _ r h => by simp [frisketlaw36_as.l0] at h
 | k + 1 => by
  have ih0 := frisketlaw36_as.mono_l k
  ·intro y0 y1 y2
   unfold frisketlaw36_as.l0
   repeat' first
   | (with_reducible exact ih0 _ _ _)
   | (with_reducible exact LeO.refl _)
   | (with_reducible exact LeO.none _)
   | (with_reducible refine LeO.ite ?_ ?_)
   | (with_reducible refine LeO.bind ?_ (fun _ => ?_))
   | exact ih0 _ _ _
   | exact LeO.none _
   | refine LeO.ite ?_ ?_
   | refine LeO.bind ?_ (fun _ => ?_)
theorem frisketlaw36_as.mono : ∀ a0 k, LeO (frisketlaw36_as.f k a0) (frisketlaw36_as.f (k + 1) a0) := by
 intro a0 k
 have ih0 := frisketlaw36_as.mono_l k
 unfold frisketlaw36_as.f
 repeat' first
   | (with_reducible exact ih0 _ _ _)
   | (with_reducible exact LeO.refl _)
   | (with_reducible exact LeO.none _)
   | (with_reducible refine LeO.ite ?_ ?_)
   | (with_reducible refine LeO.bind ?_ (fun _ => ?_))
   | exact ih0 _ _ _
   | exact LeO.none _
   | refine LeO.ite ?_ ?_
   | refine LeO.bind ?_ (fun _ => ?_)
def frisketlaw36_as.T5 : Bool × List (List Nat × List Nat) := (true, [([], []), ([], []), ([], []), ([1, 2], [1, 2]), ([3], [3]), ([4], [4]), ([], []), ([], []), ([6, 7], [6, 7]), ([8], [8]), ([9], [9]), ([5, 10], [5, 10]), ([11], [11]), ([0, 12], [0, 12]), ([13, 13, 0, 1, 2, 3, 4, 5, 6, 7, 8, 9, 10, 11, 12, 13], [0, 13])])
def frisketlaw36_as.B5 : List Nat := [0, 0, 0, 6, 14, 30, 0, 0, 192, 448, 960, 2046, 4094, 8191, 16383]
theorem frisketlaw36_as.tab5 : rtab .any (opsOf Try.f9 5) = frisketlaw36_as.T5 := by kernel_rfl
theorem frisketlaw36_as.bits5 : waitsOk frisketlaw36_as.T5.2 frisketlaw36_as.B5 = true := by kernel_rfl
set_option maxHeartbeats 8000000 in
set_option maxRecDepth 100000 in
theorem frisketlaw36_as.calls (k : Nat) (P0_ : Nat → Prop) (A0 : Option Addr) (c0 : Nat) (l0 : List (S24)) (r : List (S35)) (w : World) (hs0 : Kd.V k24 24 w w.heap.size (fun k_ => P0_ k_) (.slice A0 l0.length c0) l0) (h : frisketlaw36_as.f k l0 = some r) :
  Calls Try.prog 9 #[.slice A0 l0.length c0] w fun e w' => ∃ v0_ : Value, e = .returned (v0_) ∧ Kd.N k35 35 w' w.heap.size (fun k_ => (P0_ k_ ∨ w.heap.size ≤ k_)) v0_ r ∧ Below w.heap.size w w' := by
 have hu35 := Try.underlying35
 have HO0 := q13 (show Kd.V k24 24 w w.heap.size (fun k_ => (P0_ k_ ∨ w.heap.size ≤ k_)) (.slice A0 l0.length c0) l0 from q34 hs0 (fun k_ hk => .inl hk))
 have HB := q13 (Below.refl w.heap.size w)
 have H : (frisketlaw36_as.l0 k l0 ([] : List (S35)) 0) = some r := h
 clear h
 have H' := q13 H
 clear H
 go_enter Try.func9, Try.ntmps9
 go_wp2
 go_loopg [3, 4] k (fun kq v3 v4 w' => ∃ (x3_1 : List (S35)) (x4_1 : Int), v4 = .int .i64 x4_1 ∧ Aside0 (frisketlaw36_as.l0 kq l0 x3_1 x4_1 = some r) ∧ Aside0 (kq ≤ k) ∧ Aside0 (Kd.V k24 24 w' w.heap.size (fun k_ => (P0_ k_ ∨ w.heap.size ≤ k_) ∧ some k_ ≠ (v3 : Value).ownBlock) (.slice A0 l0.length c0) l0) ∧ Aside0 (Kd.N k35 35 w' w.heap.size (fun k_ => (P0_ k_ ∨ w.heap.size ≤ k_)) v3 x3_1) ∧ Aside0 (Below w.heap.size w w'))
 case atStart => exact ⟨(([] : List (S35))), (0), (by first | rfl | (simp; done) | (simp [*]; done)), H', ⟨q17 _⟩, ⟨by (with_reducible repeat (first | apply Kd.V_alloc | apply Kd.V_drewN | apply Kd.V_drew)); exact q34 HO0.out (fun _ hk => ⟨hk, (by simp [Value.ownBlock])⟩)⟩, ⟨by first | exact Kd.R_nil _ _ _ _ _ | exact Kd.N_nil _ _ _ _ _ | exact Kd.V_nil _ _ _ _ _ | exact Kd.Q_nil _ _ _ _ _ | exact Kd.S_nil _ _ _ _ _⟩, ⟨gB HB⟩⟩
 case round =>
  clear H'
  obtain ⟨x3_1, x4_1, rfl, HA, HK1, HO_0, HO_3, HB⟩ := hrel
  cases gk with
  | zero => exact absurd HA.out (by simp [frisketlaw36_as.l0])
  | succ k1 =>
   have H := HA.out
   clear HA
   simp only [frisketlaw36_as.l0] at H
   by_cases c2 : x4_1 < (l0.length : Int)
   ·rw [if_pos c2] at H
    have c2b0 : decide (x4_1 < (l0.length : Int)) = true := decide_eq_true c2
    clear c2
    by_cases c3 : 0 ≤ x4_1
    ·rw [if_pos c3] at H
     have c3b0 : decide (0 ≤ x4_1) = true := decide_eq_true c3
     clear c3
     by_cases c4 : x3_1.length < 4398046511104
     ·rw [if_pos c4] at H
      have LMc4 := q13 c4
      clear c4
      obtain ⟨y226, hy226⟩ : ∃ y_ : List (S35), y_ = (x3_1 ++ [(⟨(rd_T24 l0 x4_1).f0, (rd_T24 l0 x4_1).f1⟩ : S35)]) := ⟨_, rfl⟩
      replace H : (frisketlaw36_as.l0 k1 l0 y226 (wrap64 (x4_1 + 1))) = some r := by first | (rw [hy226]; with_reducible exact H) | (have H2_ := (Option.bind_some _ _).symm.trans H; rw [hy226]; with_reducible exact H2_) | (have H2_ := (Option.bind_some _ _).symm.trans H; with_reducible exact H2_) | with_reducible exact H | (rw [hy226]; exact H) | exact H
      have Ny226 := q13 hy226
      clear hy226
      have H' := q13 H
      clear H
      try go_wp2
      have n0_ := q13 (Kd.V_drew HO_0.out)
      have n1_ := q13 (Kd.N_drew HO_3.out)
      have n2_ := q13 (q5 HB.out)
      clear HO_0
      clear HO_3
      clear HB
      have HO_0 := n0_
      have HO_3 := n1_
      have HB := n2_
      clear n0_ n1_ n2_
      have p224 : 0 ≤ (x4_1 : Int) := q15 (by assumption)
      have q224 : x4_1 < (l0.length : Int) := q15 (by assumption)
      obtain ⟨ad224, A224_1, c224_1, e224, hx224_0, hx224_1, hl224_1, hi224_1⟩ := at_T24 (Kd.V_reads' HO_0.out).2.2 x4_1 p224 q224
      cases e224
      obtain ⟨ce224, hce224, hMe224, hcc224⟩ := Kd.V_get HO_0.out z24 x4_1 p224 (by first | exact q224 | exact q15 (by assumption) | (have e_ := (Kd.V_reads' HO_0.out).1; omega))
      obtain ⟨ua224_1, uc224_1, rfl, ul224_1, ge224_1⟩ := k24_openF hMe224
      have hv224_1 := hcc224 1 _ rfl
      rw [add_field _ _ 1 (by omega)] at hv224_1
      replace hv224_1 := Option.some.inj (hv224_1.symm.trans hx224_1)
      injection hv224_1 with hva_ hvn_ hvc_
      rw [hva_] at ge224_1
      rw [hvc_] at ul224_1
      have HL224_1 := q13 (show Kd.V k69 69 _ w.heap.size _ _ ((rd_T24 l0 x4_1).f1) from Kd.V_mk ul224_1 ge224_1)
      clear hva_ hvn_ hvc_ ge224_1 ul224_1
      clear hcc224 hce224
      have HR224_1 := q13 hi224_1
      have HC224_1 := q13 hl224_1
      clear hi224_1 hl224_1
      replace p224 := eq_true p224
      replace q224 := eq_true q224
      have p225 : 0 ≤ (x4_1 : Int) := q15 (by assumption)
      have q225 : x4_1 < (l0.length : Int) := q15 (by assumption)
      obtain ⟨ad225, A225_1, c225_1, e225, hx225_0, hx225_1, hl225_1, hi225_1⟩ := at_T24 (Kd.V_reads' HO_0.out).2.2 x4_1 p225 q225
      obtain rfl : ad224 = ad225 := (by injection e225)
      obtain ⟨ce225, hce225, hMe225, hcc225⟩ := Kd.V_get HO_0.out z24 x4_1 p225 (by first | exact q225 | exact q15 (by assumption) | (have e_ := (Kd.V_reads' HO_0.out).1; omega))
      obtain ⟨ua225_1, uc225_1, rfl, ul225_1, ge225_1⟩ := k24_openF hMe225
      have hv225_1 := hcc225 1 _ rfl
      rw [add_field _ _ 1 (by omega)] at hv225_1
      replace hv225_1 := Option.some.inj (hv225_1.symm.trans hx225_1)
      injection hv225_1 with hva_ hvn_ hvc_
      rw [hva_] at ge225_1
      rw [hvc_] at ul225_1
      have HL225_1 := q13 (show Kd.V k69 69 _ w.heap.size _ _ ((rd_T24 l0 x4_1).f1) from Kd.V_mk ul225_1 ge225_1)
      clear hva_ hvn_ hvc_ ge225_1 ul225_1
      clear hcc225 hce225
      have HR225_1 := q13 hi225_1
      have HC225_1 := q13 hl225_1
      clear hi225_1 hl225_1
      replace p225 := eq_true p225
      replace q225 := eq_true q225
      have ea_ := Option.some.inj (hx224_1.symm.trans hx225_1)
      injection ea_ with ea_ en_ ec_
      subst ea_
      subst ec_
      clear en_
      refine start_ (n := 15) (S := fun w' => w'.cell? (ad224.add ((x4_1).toNat * 2)) = some (.int .i64 ((rd_T24 l0 x4_1).f0)) ∧ w'.cell? ⟨(ad224.add ((x4_1).toNat * 2)).block, (ad224.add ((x4_1).toNat * 2)).off + 1, none⟩ = some (.slice A224_1 ((rd_T24 l0 x4_1).f1).length c224_1) ∧ w'.cell? (ad224.add ((x4_1).toNat * 2)) = some (.int .i64 ((rd_T24 l0 x4_1).f0)) ∧ w'.cell? ⟨(ad224.add ((x4_1).toNat * 2)).block, (ad224.add ((x4_1).toNat * 2)).off + 1, none⟩ = some (.slice A224_1 ((rd_T24 l0 x4_1).f1).length c224_1)) (ds := [12, 13]) (Array.replicate 15 false) (by kernel_rfl) rfl rfl ⟨hx224_0, hx224_1, hx225_0, hx225_1⟩ (fun hHeld => ?_); refine with_tabW frisketlaw36_as.tab5 frisketlaw36_as.bits5 (fun HT_ HW_ => ?_)
      generalize wr.drew = w5 at HO_0 HO_3 HB HL224_1 HL225_1 HR224_1 HR225_1 hx224_0 hx224_1 hx225_0 hx225_1 hHeld ⊢
      refine go_in [0, 1, 2, 3, 4, 6, 7, 8, 9, 5, 10, 11] ?_
      repeat (first | (refine pz (v := ?_) (a' := ?_) HT_ rfl rfl (by kernel_rfl) (fun _ _ _ h => h) (Or.inl ⟨by rfl, ?_⟩) ?_ ?_; rotate_left; (focus intro w'; go_simp; with_reducible rfl); rotate_left; (focus simp only [Act.put, List.setIfInBounds_toArray, List.set_cons_zero, List.set_cons_succ, i64_w, i32_w, u8_w, u8_tm, u8_c, u8_cm]; rfl)) | (refine tz (v := ?_) (a' := ?_) HT_ HW_ rfl rfl hHeld (by kernel_rfl) (fun _ _ _ h => h) (Or.inl ⟨by rfl, ?_⟩) ?_ ?_; rotate_left; (focus rintro w' ⟨s0, s1, s2, s3⟩; go_simp; with_reducible rfl); rotate_left; (focus simp only [Act.put, List.setIfInBounds_toArray, List.set_cons_zero, List.set_cons_succ, i64_w, i32_w, u8_w, u8_tm, u8_c, u8_cm]; rfl)))
      refine go_out ?_
      refine last_ (i := 12) (N := some 23) (fl 15 13 []) rfl rfl (one_of HT_.out (by kernel_rfl)) (by decide) (fun K hK => ?_)
      refine value_ (w1 := ?_) (v := ?_) (by rfl) rfl ?_ ?_
      rotate_left 2
      ·go_simp
       constructor
       ·rfl
       ·rfl
      refine hK.out _ _ ?_
      clear hK K
      refine norm_ (a' := ?_) ?_ ?_
      rotate_left
      ·show Act.put _ (some 23) _ = _
       simp only [Act.put, List.setIfInBounds_toArray, List.set_cons_zero, List.set_cons_succ, i64_w, i32_w]
       rfl
      refine last_ (i := 13) (N := some 24) (fl 15 14 []) rfl rfl (one_of HT_.out (by kernel_rfl)) (by decide) (fun K hK => ?_)
      refine Kd.N_append_step k35 (w0 := w) w.heap.size (by rfl) (.tmp 11) (.tmp 23) 28 35 (.agg #[(.int .i64 0), (.slice none 0 0)]) 32 rfl Try.underlying28 info35 rfl (by decide) (by omega) u3 x3_1 (⟨(rd_T24 l0 x4_1).f0, (rd_T24 l0 x4_1).f1⟩ : S35) [.int .i64 ((rd_T24 l0 x4_1).f0), .slice A224_1 ((rd_T24 l0 x4_1).f1).length c224_1] (fun k_ => (P0_ k_ ∨ w.heap.size ≤ k_)) (fun k_ => ((fun k_ => (P0_ k_ ∨ w.heap.size ≤ k_))) k_ ∧ some k_ ≠ (u3 : Value).ownBlock) rfl rfl ?aP (fun _ hk => hk) ?aF ?aO ?aB ?aS ?aL ?_
      (case aP => exact (k35_mkF _ _ (⟨(rd_T24 l0 x4_1).f0, (rd_T24 l0 x4_1).f1⟩ : S35) (Kd.V_reads' (q34 (ok' := (fun k_ => ((fun k_ => (P0_ k_ ∨ w.heap.size ≤ k_))) k_ ∧ some k_ ≠ (u3 : Value).ownBlock)) (HL225_1.out) (fun k_ hk => ⟨hk.1, hk.2⟩))).2.1 (Kd.V_F (q34 (ok' := (fun k_ => ((fun k_ => (P0_ k_ ∨ w.heap.size ≤ k_))) k_ ∧ some k_ ≠ (u3 : Value).ownBlock)) (HL225_1.out) (fun k_ hk => ⟨hk.1, hk.2⟩)))))
      (case aB => exact (gB HB))
      (case aF => exact (fun k_ hk => (.inr (Nat.le_trans (q7 (gB HB)) hk))))
      (case aO => exact (gN HO_3))
      (case aS => exact (q7 (gB HB)))
      (case aL => have := LMc4.out; omega)
      intro v227 w6 ho hb hg hat
      rw [← Ny226.out] at ho
      have n0_ := q13 (Kd.V_afterv (ok := (fun k_ => (P0_ k_ ∨ w.heap.size ≤ k_))) (gV HO_0) hg hat)
      have n1_ := q13 (Kd.V_afterv (ok := (fun k_ => (P0_ k_ ∨ w.heap.size ≤ k_))) (gV HL224_1) hg hat)
      have n2_ := q13 (Kd.V_afterv (ok := (fun k_ => (P0_ k_ ∨ w.heap.size ≤ k_))) (gV HL225_1) hg hat)
      have n3_ := q13 (hb)
      have n4_ := q13 (ho)
      clear HO_0
      clear HL224_1
      clear HL225_1
      clear HB
      clear HO_3
      have HO_0 := n0_
      have HL224_1 := n1_
      have HL225_1 := n2_
      have HB := n3_
      have HO228 := n4_
      clear n0_ n1_ n2_ n3_ n4_
      clear ho hb hg hat
      refine hK.out _ _ ?_
      clear hK K
      refine norm_ (a' := ?_) ?_ ?_
      rotate_left
      ·show Act.put _ (some 24) _ = _
       simp only [Act.put, List.setIfInBounds_toArray, List.set_cons_zero, List.set_cons_succ, i64_w, i32_w]
       rfl
      refine go_in [14] ?_
      (refine pz (v := ?_) (a' := ?_) HT_ rfl rfl (by kernel_rfl) (fun _ _ _ h => h) (Or.inl ⟨by rfl, ?_⟩) ?_ ?_; rotate_left; (focus intro w'; go_simp; with_reducible rfl); rotate_left; (focus simp only [Act.put, List.setIfInBounds_toArray, List.set_cons_zero, List.set_cons_succ, i64_w, i32_w, u8_w, u8_tm, u8_c, u8_cm]; rfl))
      refine go_out ?_
      refine done_ (done_of HT_.out (by kernel_rfl)) ?_
      try go_wp2
      go_roundg k1
      case measure => have := HK1.out; omega
      case rel => exact ⟨(y226), (wrap64 (x4_1 + 1)), (by first | rfl | (simp; done) | (simp [*]; done)), H', ⟨by have := HK1.out; omega⟩, ⟨by (with_reducible repeat (first | apply Kd.V_alloc | apply Kd.V_drewN | apply Kd.V_drew)); exact HO_0.out⟩, ⟨by (with_reducible repeat (first | apply Kd.N_alloc | apply Kd.N_drewN | apply Kd.N_drew)); exact HO228.out⟩, ⟨gB HB⟩⟩
     ·rw [if_neg c4] at H
      exact absurd H (by simp)
    ·rw [if_neg c3] at H
     exact absurd H (by simp)
   ·rw [if_neg c2] at H
    have c2b0 : decide (x4_1 < (l0.length : Int)) = false := decide_eq_false c2
    clear c2
    obtain rfl := Option.some.inj H
    go_wp2
    go_ret
    exact ⟨_, by first | rfl | (simp [errW_none, errW_some] <;> rfl) | (simp [*, errW_none, errW_some] <;> rfl), by (with_reducible repeat (first | apply Kd.N_alloc | apply Kd.N_drewN | apply Kd.N_drew)); exact HO_3.out, gB HB⟩

end Go.Proofs.Ytgjmljjnminefaa.QCompareApplies
