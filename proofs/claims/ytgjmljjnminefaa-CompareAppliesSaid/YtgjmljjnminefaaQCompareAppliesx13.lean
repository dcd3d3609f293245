import Derived.Lib.SliceRun
import Derived.Test.YtgjmljjnminefaaQCompareAppliesx0
import Derived.Test.YtgjmljjnminefaaQCompareAppliesx12
import Derived.Test.YtgjmljjnminefaaArrEq
import Derived.Test.YtgjmljjnminefaaZip2
import Derived.Test.YtgjmljjnminefaaZip
namespace Go.Proofs.Ytgjmljjnminefaa.QCompareApplies
open Go.Proofs.Ytgjmljjnminefaa.Zip Go.Proofs.Ytgjmljjnminefaa.Zip2 Go.RowKit Go.Proofs.YtgjmljjnminefaaW.PrintWords Go.Proofs.YtgjmljjnminefaaW.PrintLast Go.Proofs.YtgjmljjnminefaaW.PrintMore
attribute [local go_sem] max2_int min2_int max_two min_two max_three min_three max_four min_four   -- for this text's walks alone
set_option linter.unusedVariables false
set_option linter.unusedSimpArgs false

def api_Mark_39.f (l0 : List (S69)) : Option ((List (S69))) := (some (([] : List (S69)) : List (S69))).bind fun y261 => (if y261.length + l0.length < 1256584717458 then (some (y261 ++ l0)) else (none))
set_option maxHeartbeats 8000000 in
set_option maxRecDepth 100000 in
theorem api_Mark_39.calls (P0_ : Nat → Prop) (A0 : Option Addr) (c0 : Nat) (l0 : List (S69)) (r : List (S69)) (w : World) (hs0 : Kd.V k69 69 w w.heap.size (fun k_ => P0_ k_) (.slice A0 l0.length c0) l0) (h : api_Mark_39.f l0 = some r) :
  Calls Try.prog 39 #[.slice A0 l0.length c0] w fun e w' => ∃ v0_ : Value, e = .returned (v0_) ∧ Kd.N k69 69 w' w.heap.size (fun k_ => (P0_ k_ ∨ w.heap.size ≤ k_)) v0_ r ∧ Below w.heap.size w w' := by
  have q22 : ∀ (w : World) (a : Option Addr) (n c n' c' : Nat), (binOp .eql 22 (.slice a n c) (.slice none n' c')).run Try.prog w = .ok (.bool a.isNone) w := fun w a n c n' c' => Lib.run_eql_slice_nil w _ _ a n c n' c' Try.underlying22
  cases A0 with
  | none =>
    have e0 : l0 = [] := by
      have hc := (Kd.V_reads' hs0).2.2
      cases hl : l0 with
      | nil => rfl
      | cons x y => obtain ⟨ad, h1, _⟩ := hc.2.2 (by rw [hl]; exact Nat.succ_pos _); cases h1
    subst e0
    obtain rfl : [] = r := by
      have h2 := h
      simp [api_Mark_39.f] at h2
      exact h2.symm
    clear h hs0
    go_enter Try.func39, Try.ntmps39
    go_wp2
    go_ret
    exact ⟨_, rfl, Kd.N_nil _ _ _ _ _, Below.refl _ _⟩
  | some A0 =>
   have HO0 := q13 (show Kd.V k69 69 w w.heap.size (fun k_ => (P0_ k_ ∨ w.heap.size ≤ k_)) (.slice (some A0) l0.length c0) l0 from q34 hs0 (fun k_ hk => .inl hk))
   have HB := q13 (Below.refl w.heap.size w)
   have H : ((some (([] : List (S69)) : List (S69))).bind fun y261 => (if y261.length + l0.length < 1256584717458 then (some (y261 ++ l0)) else (none))) = some r := h
   clear h
   obtain ⟨y261, hy261⟩ : ∃ y_ : List (S69), y_ = (([] : List (S69))) := ⟨_, rfl⟩
   replace H : (if y261.length + l0.length < 1256584717458 then (some (y261 ++ l0)) else (none)) = some r := by first | (rw [hy261]; with_reducible exact H) | (have H2_ := (Option.bind_some _ _).symm.trans H; rw [hy261]; with_reducible exact H2_) | (have H2_ := (Option.bind_some _ _).symm.trans H; with_reducible exact H2_) | with_reducible exact H | (rw [hy261]; exact H) | exact H
   have Ny261 := q13 hy261
   clear hy261
   by_cases c2 : y261.length + l0.length < 1256584717458
   ·rw [if_pos c2] at H
    have LMc2 := q13 c2
    clear c2
    obtain ⟨y264, hy264⟩ : ∃ y_ : List (S69), y_ = (y261 ++ l0) := ⟨_, rfl⟩
    replace H : (some y264) = some r := by first | (rw [hy264]; with_reducible exact H) | (have H2_ := (Option.bind_some _ _).symm.trans H; rw [hy264]; with_reducible exact H2_) | (have H2_ := (Option.bind_some _ _).symm.trans H; with_reducible exact H2_) | with_reducible exact H | (rw [hy264]; exact H) | exact H
    have Ny264 := q13 hy264
    clear hy264
    obtain rfl := Option.some.inj H
    go_enter Try.func39, Try.ntmps39
    go_wp2_with (first | ((with_reducible refine gate_dst (N := 5) rfl ?_); refine Kd.N_lit k69 _ 69 ?hg (N' := 5) ?hd (xs := ([] : List (S69))) (inner := []) (ok := (fun k_ => (P0_ k_ ∨ w.heap.size ≤ k_))) (okp := (fun k_ => (P0_ k_ ∨ w.heap.size ≤ k_))) ?hr ?hp (fun _ hk => hk) ((show ∀ k_, w.heap.size ≤ k_ → (fun k_ => (P0_ k_ ∨ w.heap.size ≤ k_)) k_ from fun k_ hk => (.inr (Nat.le_trans (q7 (gB HB)) hk))) _ (q17 _)) (Below.refl _ _) (q17 _) (by simp) ?_; (case hd => rfl); (case hg => rfl); (case hr => first | (go_simp; done) | (go_simp; rfl)); (case hp => exact (Reps.none _ _)); intro v262 w3 ho4 hb hg_ hnew_; clear hg_ hnew_; (first | rw [← Ny261.out] at ho4 | (simp only [Int.reduceToNat] at ho4; rw [← Ny261.out] at ho4)); have n0_ := q13 (Kd.V_elder' (gV HO0) (by first | exact Kd.N_base ho4 | exact Kd.R_base ho4) hb); have n1_ := q13 (Kd.N_lower ho4 (q7 (gB HB))); have n2_ := q13 (q12 (gB HB) hb); clear HO0; clear HB; have HO0 := n0_; have HO263 := n1_; have HB := n2_; clear n0_ n1_ n2_; clear hb ho4) | ((with_reducible refine gate_builtin (b := .append) (xs := #[.tmp 5, .tmp 6]) rfl ?_); at_builtin; refine Kd.N_append_rows k69 (w0 := w) w.heap.size rfl (.tmp 5) (.tmp 6) 22 69 (.agg #[(.int .i64 0), (.int .i64 0), (.int .i64 0), (.int .i64 0), (.int .i64 0), (.string ⟨#[]⟩), (.string ⟨#[]⟩), (.string ⟨#[]⟩), (.slice none 0 0)]) 112 rfl Try.underlying22 info69 rfl (by decide) (by omega) v262 y261 l0 _ _ _ (fun k_ => (P0_ k_ ∨ w.heap.size ≤ k_)) (fun k_ => ((fun k_ => (P0_ k_ ∨ w.heap.size ≤ k_))) k_ ∧ some k_ ≠ (v262 : Value).ownBlock) rfl rfl ?aO ?aR (fun _ hk => hk) ?aF ?aB ?aS ?aL ?_; (case aR => exact (by skip; exact Kd.V_F (q34 (ok' := (fun k_ => ((fun k_ => (P0_ k_ ∨ w.heap.size ≤ k_))) k_ ∧ some k_ ≠ (v262 : Value).ownBlock)) (HO0.out) (fun k_ hk => ⟨hk.1, hk.2⟩)))); (case aB => exact (gB HB)); (case aF => exact (fun k_ hk => (.inr (Nat.le_trans (q7 (gB HB)) hk)))); (case aO => exact (gN HO263)); (case aS => exact (q7 (gB HB))); (case aL => have := LMc2.out; omega); intro v265 w5 ho hb hg hat; rw [← Ny264.out] at ho; have n0_ := q13 (Kd.V_afterv (ok := (fun k_ => (P0_ k_ ∨ w.heap.size ≤ k_))) (gV HO0) hg hat); have n1_ := q13 (hb); have n2_ := q13 (ho); clear HO0; clear HB; clear HO263; have HO0 := n0_; have HB := n1_; have HO266 := n2_; clear n0_ n1_ n2_; clear ho hb hg hat))
    go_ret
    exact ⟨_, by first | rfl | (simp [errW_none, errW_some] <;> rfl) | (simp [*, errW_none, errW_some] <;> rfl), by (with_reducible repeat (first | apply Kd.N_alloc | apply Kd.N_drewN | apply Kd.N_drew)); exact HO266.out, gB HB⟩
   ·rw [if_neg c2] at H
    exact absurd H (by simp)

def slices_Clone_int_int.f (l0 : List Int) : Option (List Int) := (some (([] : List Int) : List Int)).bind fun y267 => (if y267.length + l0.length < 17592186044416 then (some (y267 ++ l0)) else (none))
set_option maxHeartbeats 8000000 in
set_option maxRecDepth 100000 in
theorem slices_Clone_int_int.calls (A0 : Option Addr) (c0 : Nat) (l0 : List Int) (r : List Int) (w : World) (hr0 : Kd.C (Kd.int .i64) w A0 l0.length l0) (hc0 : l0.length ≤ c0) (h : slices_Clone_int_int.f l0 = some r) :
  Calls Try.prog 40 #[.slice A0 l0.length c0] w fun e w' => ∃ v0_ : Value, e = .returned (v0_) ∧ Kd.R (Kd.int .i64) 3 w' w.heap.size (fun _ => True) v0_ r ∧ Below w.heap.size w w' := by
  have q67 : ∀ (w : World) (a : Option Addr) (n c n' c' : Nat), (binOp .eql 67 (.slice a n c) (.slice none n' c')).run Try.prog w = .ok (.bool a.isNone) w := fun w a n c n' c' => Lib.run_eql_slice_nil w _ _ a n c n' c' Try.underlying67
  cases A0 with
  | none =>
    have e0 : l0 = [] := by
      have hc := hr0
      cases hl : l0 with
      | nil => rfl
      | cons x y => obtain ⟨ad, h1, _⟩ := hc.2.2 (by rw [hl]; exact Nat.succ_pos _); cases h1
    subst e0
    obtain rfl : [] = r := by
      have h2 := h
      simp [slices_Clone_int_int.f] at h2
      exact h2.symm
    clear h hr0 hc0
    go_enter Try.func40, Try.ntmps40
    go_wp2
    go_ret
    exact ⟨_, rfl, Kd.R_nil _ _ _ _ _, Below.refl _ _⟩
  | some A0 =>
   have HR0 := q13 hr0
   have HC0 := q13 hc0
   clear hr0 hc0
   have HB := q13 (Below.refl w.heap.size w)
   have H : ((some (([] : List Int) : List Int)).bind fun y267 => (if y267.length + l0.length < 17592186044416 then (some (y267 ++ l0)) else (none))) = some r := h
   clear h
   obtain ⟨y267, hy267⟩ : ∃ y_ : List Int, y_ = (([] : List Int)) := ⟨_, rfl⟩
   replace H : (if y267.length + l0.length < 17592186044416 then (some (y267 ++ l0)) else (none)) = some r := by first | (rw [hy267]; with_reducible exact H) | (have H2_ := (Option.bind_some _ _).symm.trans H; rw [hy267]; with_reducible exact H2_) | (have H2_ := (Option.bind_some _ _).symm.trans H; with_reducible exact H2_) | with_reducible exact H | (rw [hy267]; exact H) | exact H
   have Ny267 := q13 hy267
   clear hy267
   by_cases c2 : y267.length + l0.length < 17592186044416
   ·rw [if_pos c2] at H
    have LMc2 := q13 c2
    clear c2
    obtain ⟨y270, hy270⟩ : ∃ y_ : List Int, y_ = (y267 ++ l0) := ⟨_, rfl⟩
    replace H : (some y270) = some r := by first | (rw [hy270]; with_reducible exact H) | (have H2_ := (Option.bind_some _ _).symm.trans H; rw [hy270]; with_reducible exact H2_) | (have H2_ := (Option.bind_some _ _).symm.trans H; with_reducible exact H2_) | with_reducible exact H | (rw [hy270]; exact H) | exact H
    have Ny270 := q13 hy270
    clear hy270
    obtain rfl := Option.some.inj H
    go_enter Try.func40, Try.ntmps40
    go_wp2_with (first | ((with_reducible refine gate_dst (N := 5) rfl ?_); refine Kd.R_lit (Kd.int .i64) _ 3 ?hg (N := 5) ?hd (xs := ([] : List Int)) (inner := []) (ok := fun _ => True) (okp := fun _ => True) ?hr ?hp (fun _ hk => hk) trivial (Below.refl _ _) (q17 _) (by simp) ?_; (case hd => rfl); (case hg => rfl); (case hr => first | (go_simp; done) | (go_simp; rfl)); (case hp => exact (Reps.none _ _)); intro v268 w3 ho4 hb hg_ hnew_; clear hg_ hnew_; (first | rw [← Ny267.out] at ho4 | (simp only [Int.reduceToNat] at ho4; rw [← Ny267.out] at ho4)); have n0_ := q13 (Kd.R_lower ho4 (q7 (gB HB))); have n1_ := q13 (q12 (gB HB) hb); clear HB; have HO269 := n0_; have HB := n1_; clear n0_ n1_; clear hb ho4) | ((with_reducible refine gate_builtin (b := .append) (xs := #[.tmp 5, .tmp 6]) rfl ?_); at_builtin; refine Kd.R_append_rows (Kd.int .i64) (w0 := w) w.heap.size rfl (.tmp 5) (.tmp 6) 67 3 (.int .i64 0) 8 rfl Try.underlying67 info3 rfl (by decide) (by omega) v268 y267 l0 _ _ _ (fun _ => True) (fun _ => False) rfl rfl ?aO ?aR (fun _ _ h => h) (fun _ h => h.elim) ?aF ?aB ?aS ?aL ?_; (case aR => repeat (first | exact (Kd.C_below HR0.out HB.out) | (with_reducible refine q18 ?_ _) | (with_reducible refine q19 ?_ _) | (with_reducible refine q20 ?_))); (case aB => exact (gB HB)); (case aF => exact (fun _ _ => trivial)); (case aO => exact (gR HO269)); (case aS => exact (q7 (gB HB))); (case aL => have := LMc2.out; omega); intro v271 w5 ho hb hg hat; rw [← Ny270.out] at ho; have n0_ := q13 (hb); have n1_ := q13 (ho); clear HB; clear HO269; have HB := n0_; have HO272 := n1_; clear n0_ n1_; clear ho hb hg hat))
    go_ret
    exact ⟨_, by first | rfl | (simp [errW_none, errW_some] <;> rfl) | (simp [*, errW_none, errW_some] <;> rfl), by (with_reducible repeat (first | apply Kd.R_alloc | apply Kd.R_drewN | apply Kd.R_drew)); exact HO272.out, gB HB⟩
   ·rw [if_neg c2] at H
    exact absurd H (by simp)

def compare_own.l0 : Nat → List (S69) → Int → Int → Option ((List (S69)))
 | 0, _, _, _ => none
 | k + 1, x3, x8, x9 => if x9 < x8 then (if 0 ≤ x9 then (if x9 < (x3.length : Int) then ((slices_Clone_int_int.f ((rd_T69 x3 x9).f8)).bind fun t277 => (compare_own.l0 k (x3.set (x9 : Int).toNat (⟨(rd_T69 x3 x9).f0, (rd_T69 x3 x9).f1, (rd_T69 x3 x9).f2, (rd_T69 x3 x9).f3, (rd_T69 x3 x9).f4, (rd_T69 x3 x9).f5, (rd_T69 x3 x9).f6, (rd_T69 x3 x9).f7, t277⟩ : S69)) x8 (wrap64 (x9 + 1)))) else (none)) else (none)) else (some x3)
def compare_own.f (k : Nat) (l0 : List (S69)) : Option ((List (S69))) := (api_Mark_39.f l0).bind fun t273 => (compare_own.l0 k t273 (t273.length : Int) 0)
theorem compare_own.mono_l : ∀ k, (∀ y0 y1 y2, LeO (compare_own.l0 k y0 y1 y2) (compare_own.l0 (k + 1) y0 y1 y2))
 | 0 => fun _ _ _ r h => by simp [compare_own.l0] at h
 | k + 1 => by
  have ih0 := compare_own.mono_l k
  ·intro y0 y1 y2
   unfold compare_own.l0
   repeat' first
   | (with_reducible exact ih0 _ _ _)
   | (with_reducible exact LeO.refl _)
   | (with_reducible exact LeO.none _)
   | (with_reducible refine LeO.ite ?_ ?_)
   | (with_reducible refine LeO.bind ?_ (fun _ => ?_))
   | exact ih0 _ _ _
   | exact LeO.none _
   | refine LeO.ite ?_ ?_
   | refine LeO.bind ?_ (fun _ => ?_)
theorem compare_own.mono : ∀ a0 k, LeO (compare_own.f k a0) (compare_own.f (k + 1) a0) := by
 intro a0 k
 have ih0 := compare_own.mono_l k
 unfold compare_own.f
 repeat' first
   | (with_reducible exact ih0 _ _ _)
   | (with_reducible exact LeO.refl _)
   | (with_reducible exact LeO.none _)
   | (with_reducible refine LeO.ite ?_ ?_)
   | (with_reducible refine LeO.bind ?_ (fun _ => ?_))
   | exact ih0 _ _ _
   | exact LeO.none _
   | refine LeO.ite ?_ ?_
   | refine LeO.bind ?_ (fun _ => ?_)
set_option maxHeartbeats 8000000 in
set_option maxRecDepth 100000 in
theorem compare_own.calls (k : Nat) (P0_ : Nat → Prop) (A0 : Option Addr) (c0 : Nat) (l0 : List (S69)) (r : List (S69)) (w : World) (hs0 : Kd.V k69 69 w w.heap.size (fun k_ => P0_ k_) (.slice A0 l0.length c0) l0) (h : compare_own.f k l0 = some r) :
  Calls Try.prog 29 #[.slice A0 l0.length c0] w fun e w' => ∃ v0_ : Value, e = .returned (v0_) ∧ Kd.N k69 69 w' w.heap.size (fun k_ => (P0_ k_ ∨ w.heap.size ≤ k_)) v0_ r ∧ Below w.heap.size w w' := by
 have HO0 := q13 (show Kd.V k69 69 w w.heap.size (fun k_ => (P0_ k_ ∨ w.heap.size ≤ k_)) (.slice A0 l0.length c0) l0 from q34 hs0 (fun k_ hk => .inl hk))
 have HB := q13 (Below.refl w.heap.size w)
 have H : ((api_Mark_39.f l0).bind fun t273 => (compare_own.l0 k t273 (t273.length : Int) 0)) = some r := h
 clear h
 replace H := Option.bind_eq_some_iff.mp H
 obtain ⟨t273, A20, H⟩ := H
 replace H : (compare_own.l0 k t273 (t273.length : Int) 0) = some r := H
 have A2 := q13 A20
 clear A20
 have H' := q13 H
 clear H
 go_enter Try.func29, Try.ntmps29
 go_wp2_with (first | ((with_reducible refine gate_callee (f := 39) rfl ?_); refine goesL_ (some 6) rfl rfl Try.func39 (by kernel_rfl) rfl #[.slice A0 l0.length c0] rfl (by (try simp only [List.map_toArray, List.map_cons, List.map_nil]); first | done | rfl | (simp only [List.length_drop, List.length_take]; rfl)) ?_; (with_reducible refine (api_Mark_39.calls (fun k_ => (P0_ k_ ∨ w.heap.size ≤ k_)) _ _ l0 t273 _ ?side1 A2.out).mono ?_); (case side1 => exact HO0.out); rintro e w3 ⟨v274, rfl, ho0, hb⟩; refine ⟨_, rfl, ?_⟩; have n0_ := q13 (Kd.V_elder' (gV HO0) (by first | exact Kd.N_base ho0 | exact Kd.R_base ho0) hb); have n1_ := q13 (Kd.N_lower (Kd.N_mono (ok' := fun k_ => (P0_ k_ ∨ w.heap.size ≤ k_)) ho0 (fun k_ hk_ => Or.elim hk_ (fun hs_ => hs_) (fun hn_ => (.inr (Nat.le_trans (q7 (gB HB)) hn_))))) (q7 (gB HB))); have n2_ := q13 (q12 (gB HB) hb); clear HO0; clear HB; have HO0 := n0_; have HO275 := n1_; have HB := n2_; clear n0_ n1_ n2_; (try clear hb); (try clear hb2); (try clear hk); (try clear hi); (try clear ho0); obtain ⟨Ao4, co4, eo4⟩ := Kd.N_slice HO275.out; subst eo4))
 go_loopg [9] k (fun kq v9 w' => ∃ (x3_1 : List (S69)) (x9_1 : Int), v9 = .int .i64 x9_1 ∧ Aside0 (compare_own.l0 kq x3_1 (t273.length : Int) x9_1 = some r) ∧ Aside0 (kq ≤ k) ∧ Aside0 (Kd.N k69 69 w' w.heap.size (fun k_ => (P0_ k_ ∨ w.heap.size ≤ k_)) (.slice Ao4 t273.length co4) x3_1) ∧ Aside0 (Below w.heap.size w w'))
 case atStart => exact ⟨(t273), (0), (by first | rfl | (simp; done) | (simp [*]; done)), H', ⟨q17 _⟩, ⟨by (with_reducible repeat (first | apply Kd.N_alloc | apply Kd.N_drewN | apply Kd.N_drew)); exact HO275.out⟩, ⟨gB HB⟩⟩
 case round =>
  clear H'
  try clear c2
  try clear p2
  try clear c3
  obtain ⟨x3_1, x9_1, rfl, HA, HK1, HO_3, HB⟩ := hrel
  have hl3_1 := (Kd.N_reads' HO_3.out).1
  rw [hl3_1] at HO_3
  (try simp only [hl3_1])
  cases gk with
  | zero => exact absurd HA.out (by simp [compare_own.l0])
  | succ k1 =>
   have H := HA.out
   clear HA
   simp only [compare_own.l0] at H
   by_cases c5 : x9_1 < (t273.length : Int)
   ·rw [if_pos c5] at H
    have c5b0 : decide (x9_1 < (t273.length : Int)) = true := decide_eq_true c5
    clear c5
    by_cases c6 : 0 ≤ x9_1
    ·rw [if_pos c6] at H
     have c6b0 : decide (0 ≤ x9_1) = true := decide_eq_true c6
     clear c6
     by_cases c7 : x9_1 < (x3_1.length : Int)
     ·rw [if_pos c7] at H
      have c7b0 : decide (x9_1 < (x3_1.length : Int)) = true := decide_eq_true c7
      clear c7
      replace H := Option.bind_eq_some_iff.mp H
      obtain ⟨t277, A80, H⟩ := H
      replace H : (compare_own.l0 k1 (x3_1.set (x9_1 : Int).toNat (⟨(rd_T69 x3_1 x9_1).f0, (rd_T69 x3_1 x9_1).f1, (rd_T69 x3_1 x9_1).f2, (rd_T69 x3_1 x9_1).f3, (rd_T69 x3_1 x9_1).f4, (rd_T69 x3_1 x9_1).f5, (rd_T69 x3_1 x9_1).f6, (rd_T69 x3_1 x9_1).f7, t277⟩ : S69)) (t273.length : Int) (wrap64 (x9_1 + 1))) = some r := H
      have A8 := q13 A80
      clear A80
      obtain ⟨y280, hy280⟩ : ∃ y_ : List (S69), y_ = (x3_1.set (x9_1 : Int).toNat (⟨(rd_T69 x3_1 x9_1).f0, (rd_T69 x3_1 x9_1).f1, (rd_T69 x3_1 x9_1).f2, (rd_T69 x3_1 x9_1).f3, (rd_T69 x3_1 x9_1).f4, (rd_T69 x3_1 x9_1).f5, (rd_T69 x3_1 x9_1).f6, (rd_T69 x3_1 x9_1).f7, t277⟩ : S69)) := ⟨_, rfl⟩
      replace H : (compare_own.l0 k1 y280 (t273.length : Int) (wrap64 (x9_1 + 1))) = some r := by first | (rw [hy280]; with_reducible exact H) | (have H2_ := (Option.bind_some _ _).symm.trans H; rw [hy280]; with_reducible exact H2_) | (have H2_ := (Option.bind_some _ _).symm.trans H; with_reducible exact H2_) | with_reducible exact H | (rw [hy280]; exact H) | exact H
      have Ny280 := q13 hy280
      clear hy280
      have H' := q13 H
      clear H
      have p276 : 0 ≤ (x9_1 : Int) := q15 (by assumption)
      have q276 : x9_1 < (x3_1.length : Int) := q15 (by assumption)
      obtain ⟨ad276, A276_8, c276_8, e276, hx276_0, hx276_1, hx276_2, hx276_3, hx276_4, hx276_5, hx276_6, hx276_7, hx276_8, hl276_8, hi276_8⟩ := at_T69 (Kd.N_reads' HO_3.out).2.2 x9_1 p276 q276
      cases e276
      obtain ⟨ce276, hce276, hMe276, hcc276⟩ := Kd.N_get HO_3.out z69 x9_1 p276 (by first | exact q276 | exact q15 (by assumption) | (have e_ := (Kd.N_reads' HO_3.out).1; omega))
      obtain ⟨ua276_8, uc276_8, rfl, ul276_8, ge276_8⟩ := k69_openF hMe276
      have hv276_8 := hcc276 8 _ rfl
      rw [add_field _ _ 8 (by omega)] at hv276_8
      replace hv276_8 := Option.some.inj (hv276_8.symm.trans hx276_8)
      injection hv276_8 with hva_ hvn_ hvc_
      rw [hva_] at ge276_8
      rw [hvc_] at ul276_8
      have HL276_8 := q13 (show Kd.V (Kd.int .i64) 3 _ w.heap.size _ _ ((rd_T69 x3_1 x9_1).f8) from Kd.V_mk ul276_8 ge276_8)
      clear hva_ hvn_ hvc_ ge276_8 ul276_8
      clear hcc276 hce276
      have HR276_8 := q13 hi276_8
      have HC276_8 := q13 hl276_8
      clear hi276_8 hl276_8
      replace p276 := eq_true p276
      replace q276 := eq_true q276
      go_wp2_with (first | ((with_reducible refine gate_callee (f := 40) rfl ?_); refine goesL_ (some 19) rfl rfl Try.func40 (by kernel_rfl) rfl #[.slice A276_8 ((rd_T69 x3_1 x9_1).f8).length c276_8] rfl (by (try simp only [List.map_toArray, List.map_cons, List.map_nil]); first | done | rfl | (simp only [List.length_drop, List.length_take]; rfl)) ?_; (with_reducible refine (slices_Clone_int_int.calls _ _ ((rd_T69 x3_1 x9_1).f8) t277 _ ?side1 ?side2 A8.out).mono ?_); (case side1 => repeat (first | exact (by repeat (first | (with_reducible exact HR276_8.out) | (with_reducible refine q18 ?_ _) | (with_reducible refine q19 ?_ _) | (with_reducible refine q20 ?_) | exact HR276_8.out)) | (with_reducible refine q18 ?_ _) | (with_reducible refine q19 ?_ _) | (with_reducible refine q20 ?_))); (case side2 => exact HC276_8.out); rintro e w10 ⟨v278, rfl, ho0, hb⟩; obtain ⟨Av_, cv_, ev_⟩ := Kd.R_slice ho0; subst ev_; refine ⟨_, rfl, ?_⟩; have n0_ := q13 (Kd.N_elder' (gN HO_3) (Kd.R_base ho0) hb); have n1_ := q13 (Kd.V_elder' (gV HL276_8) (Kd.R_base ho0) hb); have n2_ := q13 (Kd.R_lower (Kd.R_newM (M := fun k_ => (w.heap.size ≤ k_)) ho0 (q7 (gB HB)) (fun k_ h_ => h_)) (q7 (gB HB))); have n3_ := q13 (Kd.C_below (by repeat (first | (with_reducible exact HR276_8.out) | (with_reducible refine q18 ?_ _) | (with_reducible refine q19 ?_ _) | (with_reducible refine q20 ?_) | exact HR276_8.out)) hb); have n4_ := q13 (q12 (gB HB) hb); clear HO_3; clear HL276_8; clear HR276_8; clear HB; have HO_3 := n0_; have HL276_8 := n1_; have HO279 := n2_; have HR276_8 := n3_; have HB := n4_; clear n0_ n1_ n2_ n3_ n4_; (try clear hb); (try clear hb2); (try clear hk); (try clear hi); (try clear ho0); have p9 : 0 ≤ (x9_1 : Int) := q15 (by assumption); have q9 : (x9_1 : Int) < ((x3_1.length : Int) : Int) := q15 (by assumption); obtain ⟨go9, co9, eo9, gb9, gl9, cl9, HG9⟩ := Kd.N_form HO_3.out (by omega); (first | cases eo9 | (injection eo9 with ea_ en_ ec_; (first | subst ea_ | (injection ea_ with ea_; subst ea_)); subst ec_; clear en_)); have GB9 := q13 gb9; have GG9 := q13 HG9; clear gb9 gl9 HG9; (first | simp only [add_plain] at hx276_0 | skip); (first | simp only [add_plain] at hx276_1 | skip); (first | simp only [add_plain] at hx276_2 | skip); (first | simp only [add_plain] at hx276_3 | skip); (first | simp only [add_plain] at hx276_4 | skip); (first | simp only [add_plain] at hx276_5 | skip); (first | simp only [add_plain] at hx276_6 | skip); (first | simp only [add_plain] at hx276_7 | skip); (first | simp only [add_plain] at hx276_8 | skip); obtain ⟨ce9, hcl9, hM9, hcc9, hfr9⟩ := Kd.N_elem HO_3.out z69 (x9_1 : Int) p9 q9; obtain ⟨ua9_8, uc9_8, rfl, ul9_8, ge9_8⟩ := k69_openF hM9; have hx9_0 : w10.cell? ⟨go9, (x9_1 : Int).toNat * 9, none⟩ = some (.int .i64 ((rd_T69 x3_1 x9_1).f0)) := hcc9 0 _ rfl; have hx9_1 : w10.cell? ⟨go9, (x9_1 : Int).toNat * 9 + 1, none⟩ = some (.int .i64 ((rd_T69 x3_1 x9_1).f1)) := hcc9 1 _ rfl; have hx9_2 : w10.cell? ⟨go9, (x9_1 : Int).toNat * 9 + 2, none⟩ = some (.int .i64 ((rd_T69 x3_1 x9_1).f2)) := hcc9 2 _ rfl; have hx9_3 : w10.cell? ⟨go9, (x9_1 : Int).toNat * 9 + 3, none⟩ = some (.int .i64 ((rd_T69 x3_1 x9_1).f3)) := hcc9 3 _ rfl; have hx9_4 : w10.cell? ⟨go9, (x9_1 : Int).toNat * 9 + 4, none⟩ = some (.int .i64 ((rd_T69 x3_1 x9_1).f4)) := hcc9 4 _ rfl; have hx9_5 : w10.cell? ⟨go9, (x9_1 : Int).toNat * 9 + 5, none⟩ = some (.string ((rd_T69 x3_1 x9_1).f5)) := hcc9 5 _ rfl; have hx9_6 : w10.cell? ⟨go9, (x9_1 : Int).toNat * 9 + 6, none⟩ = some (.string ((rd_T69 x3_1 x9_1).f6)) := hcc9 6 _ rfl; have hx9_7 : w10.cell? ⟨go9, (x9_1 : Int).toNat * 9 + 7, none⟩ = some (.string ((rd_T69 x3_1 x9_1).f7)) := hcc9 7 _ rfl; have hx9_8 : w10.cell? ⟨go9, (x9_1 : Int).toNat * 9 + 8, none⟩ = some (.slice ua9_8 ((rd_T69 x3_1 x9_1).f8).length uc9_8) := hcc9 8 _ rfl; have hf9_0 : w10.frozen? ⟨go9, (x9_1 : Int).toNat * 9, none⟩ = false := hfr9 0; have hf9_1 : w10.frozen? ⟨go9, (x9_1 : Int).toNat * 9 + 1, none⟩ = false := hfr9 1; have hf9_2 : w10.frozen? ⟨go9, (x9_1 : Int).toNat * 9 + 2, none⟩ = false := hfr9 2; have hf9_3 : w10.frozen? ⟨go9, (x9_1 : Int).toNat * 9 + 3, none⟩ = false := hfr9 3; have hf9_4 : w10.frozen? ⟨go9, (x9_1 : Int).toNat * 9 + 4, none⟩ = false := hfr9 4; have hf9_5 : w10.frozen? ⟨go9, (x9_1 : Int).toNat * 9 + 5, none⟩ = false := hfr9 5; have hf9_6 : w10.frozen? ⟨go9, (x9_1 : Int).toNat * 9 + 6, none⟩ = false := hfr9 6; have hf9_7 : w10.frozen? ⟨go9, (x9_1 : Int).toNat * 9 + 7, none⟩ = false := hfr9 7; have hf9_8 : w10.frozen? ⟨go9, (x9_1 : Int).toNat * 9 + 8, none⟩ = false := hfr9 8; clear hcl9 hcc9 hfr9 hM9; replace p9 := eq_true p9; replace q9 := eq_true q9; have HX11 := q13 (show Kd.N k69 69 w10 w.heap.size (fun k_ => (P0_ k_ ∨ w.heap.size ≤ k_)) (.slice (some ⟨go9, 0, none⟩) x3_1.length co4) x3_1 from (by (with_reducible repeat (first | apply Kd.N_alloc | apply Kd.N_drewN | apply Kd.N_drew)); exact Kd.N_mono HO_3.out (fun _ hk => hk.1))); obtain ⟨ce11, hcl11, hM11, hcc11, hfr11⟩ := Kd.N_elem HX11.out z69 (x9_1 : Int) (q15 (by assumption)) (by have h_ : (x9_1 : Int) < ((x3_1.length : Int) : Int) := q15 (by assumption); first | exact h_ | (have e_ := (Kd.N_reads' HO_3.out).1; omega) | simpa using h_); obtain ⟨ua11_8, uc11_8, rfl, ul11_8, ge11_8⟩ := k69_openF hM11; have HP11 := Kd.N_seg HX11.out (x9_1 : Int) (q15 (by assumption)) (by have h_ : (x9_1 : Int) < ((x3_1.length : Int) : Int) := q15 (by assumption); first | exact h_ | (have e_ := (Kd.N_reads' HO_3.out).1; omega) | simpa using h_) (seg := [(.slice Av_ t277.length cv_)]) (j := 8) hcl11 hcc11 (show 9 ≤ 9 from by decide) (x' := (⟨(rd_T69 x3_1 x9_1).f0, (rd_T69 x3_1 x9_1).f1, (rd_T69 x3_1 x9_1).f2, (rd_T69 x3_1 x9_1).f3, (rd_T69 x3_1 x9_1).f4, (rd_T69 x3_1 x9_1).f5, (rd_T69 x3_1 x9_1).f6, (rd_T69 x3_1 x9_1).f7, t277⟩ : S69)) (k69_mkF _ _ (⟨(rd_T69 x3_1 x9_1).f0, (rd_T69 x3_1 x9_1).f1, (rd_T69 x3_1 x9_1).f2, (rd_T69 x3_1 x9_1).f3, (rd_T69 x3_1 x9_1).f4, (rd_T69 x3_1 x9_1).f5, (rd_T69 x3_1 x9_1).f6, (rd_T69 x3_1 x9_1).f7, t277⟩ : S69) (Kd.R_reads' (Kd.R_mono (ok' := (fun k_ => ((fun k_ => (P0_ k_ ∨ w.heap.size ≤ k_))) k_ ∧ k_ ≠ go9)) (Kd.R_apart' (HO279.out) (Kd.N_typed HO_3.out) (by decide)) (fun k_ hk => ⟨(.inr (hk.1.1)), fun e_ => (hk.2) (by rw [e_]; rfl)⟩))).2.1 (Kd.R_F (Kd.R_mono (ok' := (fun k_ => ((fun k_ => (P0_ k_ ∨ w.heap.size ≤ k_))) k_ ∧ k_ ≠ go9)) (Kd.R_apart' (HO279.out) (Kd.N_typed HO_3.out) (by decide)) (fun k_ hk => ⟨(.inr (hk.1.1)), fun e_ => (hk.2) (by rw [e_]; rfl)⟩)))) (fun _ hk => hk); have hx11_8 := hcc11 8 _ rfl; (try simp only [show (k69).sz = 9 from rfl, Nat.mul_one, Nat.add_zero] at hx11_8); have hf11_8 := hfr11 8; (try simp only [show (k69).sz = 9 from rfl, Nat.mul_one, Nat.add_zero] at hf11_8); clear hcl11 hcc11 hfr11 hM11) | ((with_reducible refine gate_store (t := 67) (p := 21) rfl ?_); refine store_event (t := 67) (p := 21) (v := ?vo_w12) (w1 := (w10.setCell ⟨go9, (x9_1 : Int).toNat * 9 + 8, none⟩ ((.slice Av_ t277.length cv_)))) ?hg ?ho ?hn ?hr ?_; (case ho => rfl); (case hg => rfl); (case hn => rfl); (case hr => first | (go_simp; done) | (go_simp; rfl)); intro w12 hw; have hg : w10.grownBy w12 (some go9) := (by rw [hw]; exact HP11.2); have hp_ : Kd.N k69 69 w12 w.heap.size (fun k_ => (P0_ k_ ∨ w.heap.size ≤ k_)) (.slice (some ⟨go9, 0, none⟩) x3_1.length co4) y280 := (by rw [hw, Ny280.out]; exact HP11.1); clear HP11; have n0_ := q13 (hp_); have n1_ := q13 (Kd.V_afterv (v := (.slice (some ⟨go9, 0, none⟩) x3_1.length co4)) (v1 := (.slice (some ⟨go9, 0, none⟩) x3_1.length co4)) (ok := (fun k_ => (P0_ k_ ∨ w.heap.size ≤ k_) ∧ some k_ ≠ ((.slice Av_ t277.length cv_) : Value).ownBlock)) (by (with_reducible repeat (first | apply Kd.V_alloc | apply Kd.V_drewN | apply Kd.V_drew)); exact q34 HL276_8.out (fun _ hk => ⟨⟨hk.1.1, hk.2⟩, hk.1.2⟩)) hg (.inl rfl)); have n2_ := q13 ((by rw [hw]; exact q6 (HB.out) GB9.out : Below w.heap.size w w12)); clear HO_3; clear HL276_8; clear HB; clear HO279; have HO_3 := n0_; have HL276_8 := n1_; have HB := n2_; clear n0_ n1_ n2_; clear hg hw hp_))
      (try simp only [← hl3_1])
      go_roundg k1
      case measure => have := HK1.out; omega
      case rel => exact ⟨(y280), (wrap64 (x9_1 + 1)), (by first | rfl | (simp; done) | (simp [*]; done)), H', ⟨by have := HK1.out; omega⟩, ⟨by (try simp only [hl3_1]); (with_reducible repeat (first | apply Kd.N_alloc | apply Kd.N_drewN | apply Kd.N_drew)); exact HO_3.out⟩, ⟨gB HB⟩⟩
     ·rw [if_neg c7] at H
      exact absurd H (by simp)
    ·rw [if_neg c6] at H
     exact absurd H (by simp)
   ·rw [if_neg c5] at H
    have c5b0 : decide (x9_1 < (t273.length : Int)) = false := decide_eq_false c5
    (try have c5b1 : decide (x9_1 < (x3_1.length : Int)) = false := by rw [← hl3_1]; exact c5b0)
    clear c5
    obtain rfl := Option.some.inj H
    go_wp2
    go_ret
    exact ⟨_, by first | rfl | (simp [errW_none, errW_some] <;> rfl) | (simp [*, errW_none, errW_some] <;> rfl), by (with_reducible repeat (first | apply Kd.N_alloc | apply Kd.N_drewN | apply Kd.N_drew)); exact HO_3.out, gB HB⟩

def compare_ownPage.f (k : Nat) (a0_0 : Int) (l0_1 : List (S69)) : Option (Int × (List (S69))) := (compare_own.f k l0_1).bind fun t283 => (some (a0_0, t283))
theorem compare_ownPage.mono : ∀ a0 a1 k, LeO (compare_ownPage.f k a0 a1) (compare_ownPage.f (k + 1) a0 a1) := by
 intro a0 a1 k
 unfold compare_ownPage.f
 repeat' first
   | (with_reducible exact compare_own.mono _ _)
   | (with_reducible exact LeO.refl _)
   | (with_reducible exact LeO.none _)
   | (with_reducible refine LeO.ite ?_ ?_)
   | (with_reducible refine LeO.bind ?_ (fun _ => ?_))
   | exact compare_own.mono _ _
   | exact LeO.none _
   | refine LeO.ite ?_ ?_
   | refine LeO.bind ?_ (fun _ => ?_)
set_option maxHeartbeats 8000000 in
set_option maxRecDepth 100000 in
theorem compare_ownPage.calls (k : Nat) (a0_0 : Int) (P0_1_ : Nat → Prop) (A0_1 : Option Addr) (c0_1 : Nat) (l0_1 : List (S69)) (r1 : Int) (r2 : List (S69)) (w : World) (hs0_1 : Kd.V k69 69 w w.heap.size (fun k_ => P0_1_ k_) (.slice A0_1 l0_1.length c0_1) l0_1) (h : compare_ownPage.f k a0_0 l0_1 = some (r1, r2)) :
  Calls Try.prog 36 #[.agg #[.int .i64 a0_0, .slice A0_1 l0_1.length c0_1]] w fun e w' => ∃ v1_ : Value, e = .returned (.agg #[.int .i64 r1, v1_]) ∧ Kd.N k69 69 w' w.heap.size (fun k_ => (P0_1_ k_ ∨ w.heap.size ≤ k_)) v1_ r2 ∧ Below w.heap.size w w' := by
 have hu24 := Try.underlying24
 have HO0_1 := q13 (show Kd.V k69 69 w w.heap.size (fun k_ => (P0_1_ k_ ∨ w.heap.size ≤ k_)) (.slice A0_1 l0_1.length c0_1) l0_1 from q34 hs0_1 (fun k_ hk => .inl hk))
 have HB := q13 (Below.refl w.heap.size w)
 have H : ((compare_own.f k l0_1).bind fun t283 => (some (a0_0, t283))) = some (r1, r2) := h
 clear h
 replace H := Option.bind_eq_some_iff.mp H
 obtain ⟨t283, A20, H⟩ := H
 replace H : (some (a0_0, t283)) = some (r1, r2) := H
 have A2 := q13 A20
 clear A20
 simp only [Option.some.injEq, Prod.mk.injEq] at H
 obtain ⟨rfl, rfl⟩ := H
 go_enter Try.func36, Try.ntmps36
 try go_wp2_with (first | ((with_reducible refine gate_dst (N := 1) rfl ?_); refine box_event ?hg (N := 1) ?hd (cs := #[.int .i64 a0_0, .slice A0_1 l0_1.length c0_1]) (t := 24) ?hr ?_; (case hd => rfl); (case hg => rfl); (case hr => first | (go_simp; done) | (go_simp; rfl)); intro gb281 hg w3 hbox hb; have n0_ := q13 (Kd.V_below (Kd.V_elderB (gV HO0_1) gb281 (Nat.le_of_eq hg.symm)) hb); have n1_ := q13 (q12 (gB HB) hb); have n2_ := q13 (hbox); have n3_ := q13 ((by rw [hg]; exact (q7 (gB HB)) : w.heap.size ≤ gb281)); have n4_ := q13 ((by rw [hg]; exact (q7 (gB HB)) : w.heap.size ≤ gb281)); clear HO0_1; clear HB; have HO0_1 := n0_; have HB := n1_; have BK281 := n2_; have GW281 := n3_; have GE281 := n4_; clear n0_ n1_ n2_ n3_ n4_; clear hb hbox hg) | ((with_reducible refine gate_dst (N := 2) rfl ?_); refine box_event ?hg (N := 2) ?hd (cs := #[.int .i64 0, .slice none 0 0]) (t := 24) ?hr ?_; (case hd => rfl); (case hg => rfl); (case hr => first | (go_simp; done) | (go_simp; rfl)); intro gb282 hg w4 hbox hb; have n0_ := q13 (Kd.V_below (Kd.V_elderB (gV HO0_1) gb282 (Nat.le_of_eq hg.symm)) hb); have n1_ := q13 (q8 (g := gb281) (o := .cells #[.int .i64 a0_0, .slice A0_1 l0_1.length c0_1] 24 (0, 0)) (gK BK281) hb); have n2_ := q13 (q12 (by repeat (first | (with_reducible first | exact HB.out | apply q3 | apply q4 | apply q5 | refine q6 ?_ GE281.out) | exact HB.out)) hb); have n3_ := q13 (hbox); have n4_ := q13 ((by rw [hg]; exact (q7 (by repeat (first | (with_reducible first | exact HB.out | apply q3 | apply q4 | apply q5 | refine q6 ?_ GE281.out) | exact HB.out))) : w.heap.size ≤ gb282)); have n5_ := q13 ((by rw [hg]; exact (q7 (by repeat (first | (with_reducible first | exact HB.out | apply q3 | apply q4 | apply q5 | refine q6 ?_ GE281.out) | exact HB.out))) : w.heap.size ≤ gb282)); have n6_ := q13 ((by rw [hg]; exact Nat.ne_of_lt (blk_lt (g := gb281) (o := .cells #[.int .i64 a0_0, .slice A0_1 l0_1.length c0_1] 24 (0, 0)) (gK BK281)) : gb281 ≠ gb282)); have n7_ := q13 ((by rw [hg]; exact Nat.ne_of_gt (blk_lt (g := gb281) (o := .cells #[.int .i64 a0_0, .slice A0_1 l0_1.length c0_1] 24 (0, 0)) (gK BK281)) : gb282 ≠ gb281)); clear HO0_1; clear BK281; clear HB; have HO0_1 := n0_; have BK281 := n1_; have HB := n2_; have BK282 := n3_; have GW282 := n4_; have GE282 := n5_; have NB281_282 := n6_; have NB282_281 := n7_; clear n0_ n1_ n2_ n3_ n4_ n5_ n6_ n7_; clear hb hbox hg))
 have n0_ := q13 (Kd.V_drew HO0_1.out)
 have n1_ := q13 (q1 BK281.out)
 have n2_ := q13 (q1 BK282.out)
 have n3_ := q13 (q5 HB.out)
 clear HO0_1
 clear BK281
 clear BK282
 clear HB
 have HO0_1 := n0_
 have BK281 := n1_
 have BK282 := n2_
 have HB := n3_
 clear n0_ n1_ n2_ n3_
 refine start_ (n := 7) (S := fun w' => w'.cell? ⟨gb281, 0, none⟩ = some (.int .i64 a0_0) ∧ w'.cell? ⟨gb281, 1, none⟩ = some (.slice A0_1 l0_1.length c0_1)) (ds := []) (Array.replicate 7 false) (by kernel_rfl) rfl rfl ⟨(q9 BK281.out 0).trans rfl, (q9 BK281.out 1).trans rfl⟩ (fun hHeld => ?_)
 generalize w4.drew = w5 at HO0_1 BK281 BK282 HB hHeld ⊢
 refine pure_ (i := 0) (N := some 3) (v := ?_) (a' := ?_) #[true, false, false, false, false, false, false] rfl rfl (by kernel_rfl) (fun _ _ _ h => h) (Or.inl ⟨by rfl, ?_⟩) ?_ ?_
 rotate_left
 ·intro w'
  go_simp
  with_reducible rfl
 rotate_left
 ·simp only [Act.put, List.setIfInBounds_toArray, List.set_cons_zero, List.set_cons_succ, i64_w, i32_w]
  rfl
 refine pure_ (i := 2) (N := some 5) (v := ?_) (a' := ?_) #[true, false, true, false, false, false, false] rfl rfl (by kernel_rfl) (fun _ _ _ h => h) (Or.inl ⟨by rfl, ?_⟩) ?_ ?_
 rotate_left
 ·intro w'
  go_simp
  with_reducible rfl
 rotate_left
 ·simp only [Act.put, List.setIfInBounds_toArray, List.set_cons_zero, List.set_cons_succ, i64_w, i32_w]
  rfl
 refine take_ (i := 1) (N := some 4) (v := ?_) (a' := ?_) #[true, true, true, false, false, false, false] rfl rfl (by kernel_rfl) (fun _ _ _ h => h) (Or.inl ⟨by rfl, ?_⟩) hHeld ?_ ?_
 rotate_left
 ·rintro w' ⟨s0, s1⟩
  go_simp
  with_reducible rfl
 rotate_left
 ·simp only [Act.put, List.setIfInBounds_toArray, List.set_cons_zero, List.set_cons_succ, i64_w, i32_w]
  rfl
 refine take_ (i := 3) (N := some 6) (v := ?_) (a' := ?_) #[true, true, true, true, false, false, false] rfl rfl (by kernel_rfl) (fun _ _ _ h => h) (Or.inl ⟨by rfl, ?_⟩) hHeld ?_ ?_
 rotate_left
 ·rintro w' ⟨s0, s1⟩
  go_simp
  with_reducible rfl
 rotate_left
 ·simp only [Act.put, List.setIfInBounds_toArray, List.set_cons_zero, List.set_cons_succ, i64_w, i32_w]
  rfl
 refine one_ (i := 4) (N := some 7) #[true, true, true, true, true, false, false] rfl rfl (by kernel_rfl) (by decide) (fun K hK => ?_)
 refine goes_ Try.func29 (by kernel_rfl) rfl #[.slice A0_1 l0_1.length c0_1] (by rfl) rfl rfl (by (try simp only [List.map_toArray, List.map_cons, List.map_nil]); first | done | rfl | (simp only [List.length_drop, List.length_take]; rfl)) ?_
 with_reducible refine (compare_own.calls k (fun k_ => (((P0_1_ k_ ∨ w.heap.size ≤ k_) ∧ k_ ≠ gb281) ∧ k_ ≠ gb282)) _ _ l0_1 t283 _ ?side1 A2.out).mono ?_
 (case side1 => exact HO0_1.out)
 rintro e w6 ⟨v284, rfl, ho0, hb⟩
 refine ⟨_, rfl, ?_⟩
 have n0_ := q13 (Kd.V_elder' (gV HO0_1) (by first | exact Kd.N_base ho0 | exact Kd.R_base ho0) hb)
 have n1_ := q13 (Kd.N_lower (Kd.N_mono (ok' := fun k_ => (P0_1_ k_ ∨ w.heap.size ≤ k_) ∧ k_ ≠ gb281 ∧ k_ ≠ gb282) ho0 (fun k_ hk_ => ⟨Or.elim hk_ (fun hs_ => hs_.1.1) (fun hn_ => (.inr (Nat.le_trans (q7 (by repeat (first | (with_reducible first | exact HB.out | apply q3 | apply q4 | apply q5 | refine q6 ?_ GE281.out | refine q6 ?_ GE282.out) | exact HB.out))) hn_))), Or.elim hk_ (fun hs_ => hs_.1.2) (fun hn_ => (Kd.freshB (g := gb281) (o := .cells #[.int .i64 a0_0, .slice A0_1 l0_1.length c0_1] 24 (0, 0)) (gK BK281) k_ hn_)), Or.elim hk_ (fun hs_ => hs_.2) (fun hn_ => (Kd.freshB (g := gb282) (o := .cells #[.int .i64 0, .slice none 0 0] 24 (0, 0)) (gK BK282) k_ hn_))⟩)) (q7 (by repeat (first | (with_reducible first | exact HB.out | apply q3 | apply q4 | apply q5 | refine q6 ?_ GE281.out | refine q6 ?_ GE282.out) | exact HB.out))))
 have n2_ := q13 (q8 (g := gb281) (o := .cells #[.int .i64 a0_0, .slice A0_1 l0_1.length c0_1] 24 (0, 0)) (gK BK281) hb)
 have n3_ := q13 (q8 (g := gb282) (o := .cells #[.int .i64 0, .slice none 0 0] 24 (0, 0)) (gK BK282) hb)
 have n4_ := q13 (q12 (by repeat (first | (with_reducible first | exact HB.out | apply q3 | apply q4 | apply q5 | refine q6 ?_ GE281.out | refine q6 ?_ GE282.out) | exact HB.out)) hb)
 clear HO0_1
 clear BK281
 clear BK282
 clear HB
 have HO0_1 := n0_
 have HO285 := n1_
 have BK281 := n2_
 have BK282 := n3_
 have HB := n4_
 clear n0_ n1_ n2_ n3_ n4_
 (try clear hb)
 (try clear hb2)
 (try clear hk)
 (try clear hi)
 (try clear ho0)
 obtain ⟨Ao7, co7, eo7⟩ := Kd.N_slice HO285.out
 (first | subst eo7 | (injection eo7 with f1_ f2_ f3_; have f4_ := f1_.symm; have f5_ := f3_.symm; clear f1_ f2_ f3_; subst f4_; subst f5_))
 refine hK.out _ _ ⟨(q9 BK281.out 0).trans rfl, (q9 BK281.out 1).trans rfl⟩ (fun hHeld => ?_)
 clear hK K
 refine norm_ (a' := ?_) ?_ ?_
 rotate_left
 ·show Act.put _ (some 7) _ = _
  simp only [Act.put, List.setIfInBounds_toArray, List.set_cons_zero, List.set_cons_succ, i64_w, i32_w]
  rfl
 refine pure_ (i := 5) (N := some 8) (v := ?_) (a' := ?_) #[true, true, true, true, true, true, false] rfl rfl (by kernel_rfl) (fun _ _ _ h => h) (Or.inl ⟨by rfl, ?_⟩) ?_ ?_
 rotate_left
 ·intro w'
  go_simp
  with_reducible rfl
 rotate_left
 ·simp only [Act.put, List.setIfInBounds_toArray, List.set_cons_zero, List.set_cons_succ, i64_w, i32_w]
  rfl
 refine one_ (i := 6) (N := none) #[true, true, true, true, true, true, true] rfl rfl (by kernel_rfl) (by decide) (fun K hK => ?_)
 have hs8 : w6.cell? ⟨gb282, 0, none⟩ = some (.int .i64 0) := (q9 BK282.out 0).trans rfl
 have hfs8 := q11 BK282.out 0
 have hns8_0 := NB281_282.out
 have hms8_0 := NB282_281.out
 have hs9 : w6.cell? ⟨gb282, 1, none⟩ = some (.slice none 0 0) := (q9 BK282.out 1).trans rfl
 have hfs9 := q11 BK282.out 1
 have hns9_0 := NB281_282.out
 have hms9_0 := NB282_281.out
 refine skip_ (w1 := ?_) (by rfl) rfl ?_ ?_
 rotate_left
 ·go_simp
  rfl
 refine hK.out _ _ ⟨((cell_far (p := ⟨gb282, _, none⟩) NB281_282.out _).trans (((cell_far (p := ⟨gb282, _, none⟩) NB281_282.out _).trans (hHeld.1)))), ((cell_far (p := ⟨gb282, _, none⟩) NB281_282.out _).trans (((cell_far (p := ⟨gb282, _, none⟩) NB281_282.out _).trans (hHeld.2))))⟩ (fun hHeld => ?_)
 clear hK K
 refine done_ (by kernel_rfl) ?_
 try go_wp2
 refine bodyPost_ret (results_cell_row rfl _ _ gb282 24 #[.int .i64 a0_0, .slice Ao7 t283.length co7] (0, 0) _ rfl (by (with_reducible repeat (first | refine q0 ?_ _ | refine q1 ?_ | refine q2 ?_ _)); refine blk_put (cs := #[.int .i64 a0_0, .slice none 0 0]) ?_ 1 _ rfl; (with_reducible repeat (first | refine q0 ?_ _ | refine q1 ?_ | refine q2 ?_ _)); refine blk_put (cs := #[.int .i64 0, .slice none 0 0]) ?_ 0 _ rfl; (with_reducible repeat (first | refine q0 ?_ _ | refine q1 ?_ | refine q2 ?_ _)); exact BK282.out) Try.underlying24 rfl (by kernel_rfl)) rfl ?_
 exact ⟨_, by first | rfl | (simp [errW_none, errW_some] <;> rfl) | (simp [*, errW_none, errW_some] <;> rfl), by (with_reducible repeat (first | apply Kd.N_alloc | apply Kd.N_drewN | apply Kd.N_drew)); exact Kd.N_mono (Kd.N_far (p := ⟨gb282, 1, none⟩) (Kd.N_far (p := ⟨gb282, 0, none⟩) (Kd.N_mono HO285.out (fun k_ hk => (⟨hk, hk.2.2⟩ : _ ∧ k_ ≠ gb282))) (fun _ hk => hk.2) (.int .i64 a0_0)) (fun _ hk => hk.2) (.slice Ao7 t283.length co7)) (fun _ hk => hk.1.1), by repeat (first | (with_reducible first | exact HB.out | apply q3 | apply q4 | apply q5 | refine q6 ?_ GE281.out | refine q6 ?_ GE282.out) | exact HB.out)⟩

mutual
def compare_Apply.l0 : Nat → List (S24) → List (S24) → List (S24) → Int → Int → List (S54) → Int → Int → Option ((List (S24)) × Int)
 | 0, _, _, _, _, _, _, _, _ => none
 | k + 1, x0, x2, x8, x9, x10, x13, x14, x15 => if x15 < x14 then (if 0 ≤ x15 then (if x15 < (x13.length : Int) then ((compare_fits.f k ((rd_T54 x13 x15).f0) ((rd_T54 x13 x15).f1) ((rd_T54 x13 x15).f2) x0 x2 x9 x10).bind fun t288 => (if (t288 = true) then (if ((rd_T54 x13 x15).f0) = 0 then (if 0 ≤ x9 then (if x9 < (x0.length : Int) then ((compare_ownPage.f k ((rd_T24 x0 x9).f0) ((rd_T24 x0 x9).f1)).bind fun bt290 => (if x8.length < 4398046511104 then (compare_Apply.l0 k x0 x2 (x8 ++ [(⟨bt290.1, bt290.2⟩ : S24)]) (wrap64 (x9 + 1)) (wrap64 (x10 + 1)) x13 x14 (wrap64 (x15 + 1))) else (none))) else (none)) else (none)) else (if ((rd_T54 x13 x15).f0) = 3 then (if 0 ≤ x10 then (if x10 < (x2.length : Int) then ((compare_ownPage.f k ((rd_T24 x2 x10).f0) ((rd_T24 x2 x10).f1)).bind fun bt298 => (if x8.length < 4398046511104 then (compare_Apply.l0 k x0 x2 (x8 ++ [(⟨bt298.1, bt298.2⟩ : S24)]) (wrap64 (x9 + 1)) (wrap64 (x10 + 1)) x13 x14 (wrap64 (x15 + 1))) else (none))) else (none)) else (none)) else (if ((rd_T54 x13 x15).f0) = 1 then (compare_Apply.l0 k x0 x2 x8 (wrap64 (x9 + 1)) x10 x13 x14 (wrap64 (x15 + 1))) else (if 0 ≤ x10 then (if x10 < (x2.length : Int) then ((compare_ownPage.f k ((rd_T24 x2 x10).f0) ((rd_T24 x2 x10).f1)).bind fun bt306 => (if x8.length < 4398046511104 then (compare_Apply.l0 k x0 x2 (x8 ++ [(⟨bt306.1, bt306.2⟩ : S24)]) x9 (wrap64 (x10 + 1)) x13 x14 (wrap64 (x15 + 1))) else (none))) else (none)) else (none))))) else (some (([] : List (S24)), 1)))) else (none)) else (none)) else (if x9 = (x0.length : Int) then (compare_Apply.j1 k x0 x2 x8 (x10 != (x2.length : Int))) else (compare_Apply.j1 k x0 x2 x8 true))
def compare_Apply.j1 : Nat → List (S24) → List (S24) → List (S24) → Bool → Option ((List (S24)) × Int)
 | 0, _, _, _, _ => none
 | k + 1, x0, x2, x8, x71 => if x71 = true then (some (([] : List (S24)), 1)) else (if (mx (x0.length : Int) (x2.length : Int)) > 200 then (some (([] : List (S24)), 2)) else (some (x8, 0)))
end
def compare_Apply.f (k : Nat) (l0 : List (S24)) (l1 : List (S54)) (l2 : List (S24)) : Option ((List (S24)) × Int) := compare_Apply.l0 k l0 l2 ([] : List (S24)) 0 0 l1 (l1.length : Int) 0
theorem compare_Apply.mono_l : ∀ k, (∀ y0 y1 y2 y3 y4 y5 y6 y7, LeO (compare_Apply.l0 k y0 y1 y2 y3 y4 y5 y6 y7) (compare_Apply.l0 (k + 1) y0 y1 y2 y3 y4 y5 y6 y7)) ∧ (∀ y0 y1 y2 y3, LeO (compare_Apply.j1 k y0 y1 y2 y3) (compare_Apply.j1 (k + 1) y0 y1 y2 y3))
 | 0 => ⟨fun _ _ _ _ _ _ _ _ r h => by simp [compare_Apply.l0] at h, fun _ _ _ _ r h => by simp [compare_Apply.j1] at h⟩
 | k + 1 => by
  obtain ⟨ih0, ih1⟩ := compare_Apply.mono_l k
  refine ⟨?_, ?_⟩
  ·intro y0 y1 y2 y3 y4 y5 y6 y7
   unfold compare_Apply.l0
   repeat' first
   | (with_reducible exact ih0 _ _ _ _ _ _ _ _)
   | (with_reducible exact ih1 _ _ _ _)
   | (with_reducible exact compare_fits.mono _ _ _ _ _ _ _ _)
   | (with_reducible exact compare_ownPage.mono _ _ _)
   | (with_reducible exact LeO.refl _)
   | (with_reducible exact LeO.none _)
   | (with_reducible refine LeO.ite ?_ ?_)
   | (with_reducible refine LeO.bind ?_ (fun _ => ?_))
   | exact ih0 _ _ _ _ _ _ _ _
   | exact ih1 _ _ _ _
   | exact compare_fits.mono _ _ _ _ _ _ _ _
   | exact compare_ownPage.mono _ _ _
   | exact LeO.none _
   | refine LeO.ite ?_ ?_
   | refine LeO.bind ?_ (fun _ => ?_)
  ·intro y0 y1 y2 y3
   unfold compare_Apply.j1
   repeat' first
   | (with_reducible exact ih0 _ _ _ _ _ _ _ _)
   | (with_reducible exact ih1 _ _ _ _)
   | (with_reducible exact compare_fits.mono _ _ _ _ _ _ _ _)
   | (with_reducible exact compare_ownPage.mono _ _ _)
   | (with_reducible exact LeO.refl _)
   | (with_reducible exact LeO.none _)
   | (with_reducible refine LeO.ite ?_ ?_)
   | (with_reducible refine LeO.bind ?_ (fun _ => ?_))
   | exact ih0 _ _ _ _ _ _ _ _
   | exact ih1 _ _ _ _
   | exact compare_fits.mono _ _ _ _ _ _ _ _
   | exact compare_ownPage.mono _ _ _
   | exact LeO.none _
   | refine LeO.ite ?_ ?_
   | refine LeO.bind ?_ (fun _ => ?_)
theorem compare_Apply.mono : ∀ a0 a1 a2 k, LeO (compare_Apply.f k a0 a1 a2) (compare_Apply.f (k + 1) a0 a1 a2) := by
 intro a0 a1 a2 k
 obtain ⟨ih0, ih1⟩ := compare_Apply.mono_l k
 unfold compare_Apply.f
 repeat' first
   | (with_reducible exact ih0 _ _ _ _ _ _ _ _)
   | (with_reducible exact ih1 _ _ _ _)
   | (with_reducible exact compare_fits.mono _ _ _ _ _ _ _ _)
   | (with_reducible exact compare_ownPage.mono _ _ _)
   | (with_reducible exact LeO.refl _)
   | (with_reducible exact LeO.none _)
   | (with_reducible refine LeO.ite ?_ ?_)
   | (with_reducible refine LeO.bind ?_ (fun _ => ?_))
   | exact ih0 _ _ _ _ _ _ _ _
   | exact ih1 _ _ _ _
   | exact compare_fits.mono _ _ _ _ _ _ _ _
   | exact compare_ownPage.mono _ _ _
   | exact LeO.none _
   | refine LeO.ite ?_ ?_
   | refine LeO.bind ?_ (fun _ => ?_)
set_option maxHeartbeats 8000000 in
set_option maxRecDepth 100000 in
theorem compare_Apply.calls (k : Nat) (P0_ : Nat → Prop) (A0 : Option Addr) (c0 : Nat) (l0 : List (S24)) (A1 : Option Addr) (c1 : Nat) (l1 : List (S54)) (P2_ : Nat → Prop) (A2 : Option Addr) (c2 : Nat) (l2 : List (S24)) (r1 : List (S24)) (r2 : Int) (w : World) (hs0 : Kd.V k24 24 w w.heap.size (fun k_ => P0_ k_) (.slice A0 l0.length c0) l0) (hr1 : Kd.C k54 w A1 l1.length l1) (hc1 : l1.length ≤ c1) (hs2 : Kd.V k24 24 w w.heap.size (fun k_ => P2_ k_) (.slice A2 l2.length c2) l2) (h : compare_Apply.f k l0 l1 l2 = some (r1, r2)) :
  Calls Try.prog 23 #[.slice A0 l0.length c0, .slice A1 l1.length c1, .slice A2 l2.length c2] w fun e w' => ∃ v0_ : Value, e = .returned (.tuple #[v0_, .int .i64 r2]) ∧ Kd.N k24 24 w' w.heap.size (fun k_ => ((P0_ k_ ∨ P2_ k_) ∨ w.heap.size ≤ k_)) v0_ r1 ∧ Below w.heap.size w w' := by
 have hu54 := Try.underlying54
 have hu24 := Try.underlying24
 have HO0 := q13 (show Kd.V k24 24 w w.heap.size (fun k_ => ((P0_ k_ ∨ P2_ k_) ∨ w.heap.size ≤ k_)) (.slice A0 l0.length c0) l0 from q34 hs0 (fun k_ hk => .inl (.inl hk)))
 have HR1 := q13 hr1
 have HC1 := q13 hc1
 clear hr1 hc1
 have HO2 := q13 (show Kd.V k24 24 w w.heap.size (fun k_ => ((P0_ k_ ∨ P2_ k_) ∨ w.heap.size ≤ k_)) (.slice A2 l2.length c2) l2 from q34 hs2 (fun k_ hk => .inl (.inr hk)))
 have HB := q13 (Below.refl w.heap.size w)
 have H : (compare_Apply.l0 k l0 l2 ([] : List (S24)) 0 0 l1 (l1.length : Int) 0) = some (r1, r2) := h
 clear h
 have H' := q13 H
 clear H
 go_enter Try.func23, Try.ntmps23
 go_wp2
 go_loopg [8, 9, 10, 15] k (fun kq v8 v9 v10 v15 w' => ∃ (x8_1 : List (S24)) (x9_1 : Int) (x10_1 : Int) (x15_1 : Int), v9 = .int .i64 x9_1 ∧ v10 = .int .i64 x10_1 ∧ v15 = .int .i64 x15_1 ∧ Aside0 (compare_Apply.l0 kq l0 l2 x8_1 x9_1 x10_1 l1 (l1.length : Int) x15_1 = some (r1, r2)) ∧ Aside0 (kq ≤ k) ∧ Aside0 (Kd.V k24 24 w' w.heap.size (fun k_ => ((P0_ k_ ∨ P2_ k_) ∨ w.heap.size ≤ k_) ∧ some k_ ≠ (v8 : Value).ownBlock) (.slice A0 l0.length c0) l0) ∧ Aside0 (Kd.V k24 24 w' w.heap.size (fun k_ => ((P0_ k_ ∨ P2_ k_) ∨ w.heap.size ≤ k_) ∧ some k_ ≠ (v8 : Value).ownBlock) (.slice A2 l2.length c2) l2) ∧ Aside0 (Kd.N k24 24 w' w.heap.size (fun k_ => ((P0_ k_ ∨ P2_ k_) ∨ w.heap.size ≤ k_)) v8 x8_1) ∧ Aside0 (Below w.heap.size w w'))
 case atStart => exact ⟨(([] : List (S24))), (0), (0), (0), (by first | rfl | (simp; done) | (simp [*]; done)), (by first | rfl | (simp; done) | (simp [*]; done)), (by first | rfl | (simp; done) | (simp [*]; done)), H', ⟨q17 _⟩, ⟨by (with_reducible repeat (first | apply Kd.V_alloc | apply Kd.V_drewN | apply Kd.V_drew)); exact q34 HO0.out (fun _ hk => ⟨hk, (by simp [Value.ownBlock])⟩)⟩, ⟨by (with_reducible repeat (first | apply Kd.V_alloc | apply Kd.V_drewN | apply Kd.V_drew)); exact q34 HO2.out (fun _ hk => ⟨hk, (by simp [Value.ownBlock])⟩)⟩, ⟨by first | exact Kd.R_nil _ _ _ _ _ | exact Kd.N_nil _ _ _ _ _ | exact Kd.V_nil _ _ _ _ _ | exact Kd.Q_nil _ _ _ _ _ | exact Kd.S_nil _ _ _ _ _⟩, ⟨gB HB⟩⟩
 case round =>
  clear H'
  try clear c1
  try clear c2
  try clear p2
  obtain ⟨x8_1, x9_1, x10_1, x15_1, rfl, rfl, rfl, HA, HK1, HO_0, HO_2, HO_8, HB⟩ := hrel
  cases gk with
  | zero => exact absurd HA.out (by simp [compare_Apply.l0])
  | succ k1 =>
   have H := HA.out
   clear HA
   simp only [compare_Apply.l0] at H
   by_cases c4 : x15_1 < (l1.length : Int)
   ·rw [if_pos c4] at H
    have c4b0 : decide (x15_1 < (l1.length : Int)) = true := decide_eq_true c4
    clear c4
    by_cases c5 : 0 ≤ x15_1
    ·rw [if_pos c5] at H
     have c5b0 : decide (0 ≤ x15_1) = true := decide_eq_true c5
     clear c5
     by_cases c6 : x15_1 < (l1.length : Int)
     ·rw [if_pos c6] at H
      have c6b0 : decide (x15_1 < (l1.length : Int)) = true := decide_eq_true c6
      clear c6
      replace H := Option.bind_eq_some_iff.mp H
      obtain ⟨t288, A70, H⟩ := H
      replace H : (if (t288 = true) then (if ((rd_T54 l1 x15_1).f0) = 0 then (if 0 ≤ x9_1 then (if x9_1 < (l0.length : Int) then ((compare_ownPage.f k1 ((rd_T24 l0 x9_1).f0) ((rd_T24 l0 x9_1).f1)).bind fun bt290 => (if x8_1.length < 4398046511104 then (compare_Apply.l0 k1 l0 l2 (x8_1 ++ [(⟨bt290.1, bt290.2⟩ : S24)]) (wrap64 (x9_1 + 1)) (wrap64 (x10_1 + 1)) l1 (l1.length : Int) (wrap64 (x15_1 + 1))) else (none))) else (none)) else (none)) else (if ((rd_T54 l1 x15_1).f0) = 3 then (if 0 ≤ x10_1 then (if x10_1 < (l2.length : Int) then ((compare_ownPage.f k1 ((rd_T24 l2 x10_1).f0) ((rd_T24 l2 x10_1).f1)).bind fun bt298 => (if x8_1.length < 4398046511104 then (compare_Apply.l0 k1 l0 l2 (x8_1 ++ [(⟨bt298.1, bt298.2⟩ : S24)]) (wrap64 (x9_1 + 1)) (wrap64 (x10_1 + 1)) l1 (l1.length : Int) (wrap64 (x15_1 + 1))) else (none))) else (none)) else (none)) else (if ((rd_T54 l1 x15_1).f0) = 1 then (compare_Apply.l0 k1 l0 l2 x8_1 (wrap64 (x9_1 + 1)) x10_1 l1 (l1.length : Int) (wrap64 (x15_1 + 1))) else (if 0 ≤ x10_1 then (if x10_1 < (l2.length : Int) then ((compare_ownPage.f k1 ((rd_T24 l2 x10_1).f0) ((rd_T24 l2 x10_1).f1)).bind fun bt306 => (if x8_1.length < 4398046511104 then (compare_Apply.l0 k1 l0 l2 (x8_1 ++ [(⟨bt306.1, bt306.2⟩ : S24)]) x9_1 (wrap64 (x10_1 + 1)) l1 (l1.length : Int) (wrap64 (x15_1 + 1))) else (none))) else (none)) else (none))))) else (some (([] : List (S24)), 1))) = some (r1, r2) := H
      have A7 := q13 A70
      clear A70
      by_cases c8 : (t288 = true)
      ·subst c8
       have H1 : (if ((rd_T54 l1 x15_1).f0) = 0 then (if 0 ≤ x9_1 then (if x9_1 < (l0.length : Int) then ((compare_ownPage.f k1 ((rd_T24 l0 x9_1).f0) ((rd_T24 l0 x9_1).f1)).bind fun bt290 => (if x8_1.length < 4398046511104 then (compare_Apply.l0 k1 l0 l2 (x8_1 ++ [(⟨bt290.1, bt290.2⟩ : S24)]) (wrap64 (x9_1 + 1)) (wrap64 (x10_1 + 1)) l1 (l1.length : Int) (wrap64 (x15_1 + 1))) else (none))) else (none)) else (none)) else (if ((rd_T54 l1 x15_1).f0) = 3 then (if 0 ≤ x10_1 then (if x10_1 < (l2.length : Int) then ((compare_ownPage.f k1 ((rd_T24 l2 x10_1).f0) ((rd_T24 l2 x10_1).f1)).bind fun bt298 => (if x8_1.length < 4398046511104 then (compare_Apply.l0 k1 l0 l2 (x8_1 ++ [(⟨bt298.1, bt298.2⟩ : S24)]) (wrap64 (x9_1 + 1)) (wrap64 (x10_1 + 1)) l1 (l1.length : Int) (wrap64 (x15_1 + 1))) else (none))) else (none)) else (none)) else (if ((rd_T54 l1 x15_1).f0) = 1 then (compare_Apply.l0 k1 l0 l2 x8_1 (wrap64 (x9_1 + 1)) x10_1 l1 (l1.length : Int) (wrap64 (x15_1 + 1))) else (if 0 ≤ x10_1 then (if x10_1 < (l2.length : Int) then ((compare_ownPage.f k1 ((rd_T24 l2 x10_1).f0) ((rd_T24 l2 x10_1).f1)).bind fun bt306 => (if x8_1.length < 4398046511104 then (compare_Apply.l0 k1 l0 l2 (x8_1 ++ [(⟨bt306.1, bt306.2⟩ : S24)]) x9_1 (wrap64 (x10_1 + 1)) l1 (l1.length : Int) (wrap64 (x15_1 + 1))) else (none))) else (none)) else (none))))) = some (r1, r2) := by rw [if_pos rfl] at H; exact H
       clear H
       have H := H1
       clear H1
       by_cases c9 : ((rd_T54 l1 x15_1).f0) = 0
       ·rw [if_pos c9] at H
        have c9b0 : (((rd_T54 l1 x15_1).f0) == 0) = true := beq_iff_eq.mpr c9
        have c9b1 : (((rd_T54 l1 x15_1).f0) != 0) = false := bne_eq_false_iff_eq.mpr c9
        clear c9
        by_cases c10 : 0 ≤ x9_1
        ·rw [if_pos c10] at H
         have c10b0 : decide (0 ≤ x9_1) = true := decide_eq_true c10
         clear c10
         by_cases c11 : x9_1 < (l0.length : Int)
         ·rw [if_pos c11] at H
          have c11b0 : decide (x9_1 < (l0.length : Int)) = true := decide_eq_true c11
          clear c11
          replace H := Option.bind_eq_some_iff.mp H
          obtain ⟨⟨t290, t291⟩, A120, H⟩ := H
          replace H : (if x8_1.length < 4398046511104 then (compare_Apply.l0 k1 l0 l2 (x8_1 ++ [(⟨t290, t291⟩ : S24)]) (wrap64 (x9_1 + 1)) (wrap64 (x10_1 + 1)) l1 (l1.length : Int) (wrap64 (x15_1 + 1))) else (none)) = some (r1, r2) := H
          have A12 := q13 A120
          clear A120
          by_cases c13 : x8_1.length < 4398046511104
          ·rw [if_pos c13] at H
           have LMc13 := q13 c13
           clear c13
           obtain ⟨y294, hy294⟩ : ∃ y_ : List (S24), y_ = (x8_1 ++ [(⟨t290, t291⟩ : S24)]) := ⟨_, rfl⟩
           replace H : (compare_Apply.l0 k1 l0 l2 y294 (wrap64 (x9_1 + 1)) (wrap64 (x10_1 + 1)) l1 (l1.length : Int) (wrap64 (x15_1 + 1))) = some (r1, r2) := by first | (rw [hy294]; with_reducible exact H) | (have H2_ := (Option.bind_some _ _).symm.trans H; rw [hy294]; with_reducible exact H2_) | (have H2_ := (Option.bind_some _ _).symm.trans H; with_reducible exact H2_) | with_reducible exact H | (rw [hy294]; exact H) | exact H
           have Ny294 := q13 hy294
           clear hy294
           have H' := q13 H
           clear H
           have p286 : 0 ≤ (x15_1 : Int) := q15 (by assumption)
           have q286 : x15_1 < (l1.length : Int) := q15 (by assumption)
           obtain ⟨ad286, e286, hx286_0, hx286_1, hx286_2⟩ := at_T54 HR1.out x15_1 p286 q286
           cases e286
           replace hx286_0 := cl HB.out hx286_0
           replace hx286_1 := cl HB.out hx286_1
           replace hx286_2 := cl HB.out hx286_2
           replace p286 := eq_true p286
           replace q286 := eq_true q286
           go_wp2_with (first | ((with_reducible refine gate_dst (N := 12) rfl ?_); (try (refine gate_guard (by rfl) ?_; dsimp only)); refine box_event ?hg (N := 12) ?hd (cs := #[.int .i64 0, .int .i64 0, .int .i64 0]) (t := 54) ?hr ?_; (case hd => rfl); (case hg => rfl); (case hr => first | (go_simp; done) | (go_simp; rfl)); intro gb287 hg w14 hbox hb; have n0_ := q13 (Kd.V_below (Kd.V_elderB (gV HO_0) gb287 (Nat.le_of_eq hg.symm)) hb); have n1_ := q13 (Kd.V_below (Kd.V_elderB (gV HO_2) gb287 (Nat.le_of_eq hg.symm)) hb); have n2_ := q13 (Kd.N_below (Kd.N_elderB (gN HO_8) gb287 (Nat.le_of_eq hg.symm)) hb); have n3_ := q13 (q12 (gB HB) hb); have n4_ := q13 (hbox); have n5_ := q13 ((by rw [hg]; exact (q7 (gB HB)) : w.heap.size ≤ gb287)); have n6_ := q13 ((by rw [hg]; exact (q7 (gB HB)) : w.heap.size ≤ gb287)); clear HO_0; clear HO_2; clear HO_8; clear HB; have HO_0 := n0_; have HO_2 := n1_; have HO_8 := n2_; have HB := n3_; have BK287 := n4_; have GW287 := n5_; have GE287 := n6_; clear n0_ n1_ n2_ n3_ n4_ n5_ n6_; clear hb hbox hg; have hcz15_0 : w14.cell? ⟨gb287, 0, none⟩ = some (.int .i64 0) := (q9 BK287.out 0).trans rfl; have hcz15_1 : w14.cell? ⟨gb287, 1, none⟩ = some (.int .i64 0) := (q9 BK287.out 1).trans rfl; have hcz15_2 : w14.cell? ⟨gb287, 2, none⟩ = some (.int .i64 0) := (q9 BK287.out 2).trans rfl; have hfz15_0 := q11 BK287.out 0; have hfz15_1 := q11 BK287.out 1; have hfz15_2 := q11 BK287.out 2) | ((with_reducible refine gate_callee (f := 35) rfl ?_); refine goesL_ (some 24) rfl rfl Try.func35 (by kernel_rfl) rfl #[.agg #[.int .i64 ((rd_T54 l1 x15_1).f0), .int .i64 ((rd_T54 l1 x15_1).f1), .int .i64 ((rd_T54 l1 x15_1).f2)], .slice A0 l0.length c0, .slice A2 l2.length c2, .int .i64 x9_1, .int .i64 x10_1] rfl (by (try simp only [List.map_toArray, List.map_cons, List.map_nil]); first | done | rfl | (simp only [List.length_drop, List.length_take]; rfl)) ?_; (with_reducible refine (compare_fits.calls k1 ((rd_T54 l1 x15_1).f0) ((rd_T54 l1 x15_1).f1) ((rd_T54 l1 x15_1).f2) _ _ l0 _ _ l2 x9_1 x10_1 true _ ?side1 ?side2 ?side3 ?side4 A7.out).mono ?_); (case side1 => refine (Kd.V_reads' (e := 24) (base := w.heap.size) (ok := fun k_ => ((((P0_ k_ ∨ P2_ k_) ∨ w.heap.size ≤ k_) ∧ some k_ ≠ (u8 : Value).ownBlock) ∧ k_ ≠ gb287)) (n := l0.length) (c := c0) ?_).2.2; exact (by (with_reducible repeat (first | apply Kd.V_alloc | apply Kd.V_drewN | apply Kd.V_drew)); exact (q34 (Kd.V_far (p := ⟨gb287, 2, none⟩) (Kd.V_far (p := ⟨gb287, 1, none⟩) (Kd.V_far (p := ⟨gb287, 0, none⟩) (q34 HO_0.out (fun k_ hk => (⟨hk, hk.2⟩ : _ ∧ k_ ≠ gb287))) (fun _ hk => hk.2) (.int .i64 ((rd_T54 l1 x15_1).f0))) (fun _ hk => hk.2) (.int .i64 ((rd_T54 l1 x15_1).f1))) (fun _ hk => hk.2) (.int .i64 ((rd_T54 l1 x15_1).f2))) (fun _ h_ => h_.1)))); (case side2 => exact (Kd.V_reads' HO_0.out).2.1); (case side3 => refine (Kd.V_reads' (e := 24) (base := w.heap.size) (ok := fun k_ => ((((P0_ k_ ∨ P2_ k_) ∨ w.heap.size ≤ k_) ∧ some k_ ≠ (u8 : Value).ownBlock) ∧ k_ ≠ gb287)) (n := l2.length) (c := c2) ?_).2.2; exact (by (with_reducible repeat (first | apply Kd.V_alloc | apply Kd.V_drewN | apply Kd.V_drew)); exact (q34 (Kd.V_far (p := ⟨gb287, 2, none⟩) (Kd.V_far (p := ⟨gb287, 1, none⟩) (Kd.V_far (p := ⟨gb287, 0, none⟩) (q34 HO_2.out (fun k_ hk => (⟨hk, hk.2⟩ : _ ∧ k_ ≠ gb287))) (fun _ hk => hk.2) (.int .i64 ((rd_T54 l1 x15_1).f0))) (fun _ hk => hk.2) (.int .i64 ((rd_T54 l1 x15_1).f1))) (fun _ hk => hk.2) (.int .i64 ((rd_T54 l1 x15_1).f2))) (fun _ h_ => h_.1)))); (case side4 => exact (Kd.V_reads' HO_2.out).2.1); rintro e w16 ⟨rfl, hb⟩; refine ⟨_, rfl, ?_⟩; have n0_ := q13 (Kd.V_below (by (with_reducible repeat (first | apply Kd.V_alloc | apply Kd.V_drewN | apply Kd.V_drew)); exact (q34 (Kd.V_far (p := ⟨gb287, 2, none⟩) (Kd.V_far (p := ⟨gb287, 1, none⟩) (Kd.V_far (p := ⟨gb287, 0, none⟩) (q34 HO_0.out (fun k_ hk => (⟨hk, hk.2⟩ : _ ∧ k_ ≠ gb287))) (fun _ hk => hk.2) (.int .i64 ((rd_T54 l1 x15_1).f0))) (fun _ hk => hk.2) (.int .i64 ((rd_T54 l1 x15_1).f1))) (fun _ hk => hk.2) (.int .i64 ((rd_T54 l1 x15_1).f2))) (fun _ h_ => h_.1))) hb); have n1_ := q13 (Kd.V_below (by (with_reducible repeat (first | apply Kd.V_alloc | apply Kd.V_drewN | apply Kd.V_drew)); exact (q34 (Kd.V_far (p := ⟨gb287, 2, none⟩) (Kd.V_far (p := ⟨gb287, 1, none⟩) (Kd.V_far (p := ⟨gb287, 0, none⟩) (q34 HO_2.out (fun k_ hk => (⟨hk, hk.2⟩ : _ ∧ k_ ≠ gb287))) (fun _ hk => hk.2) (.int .i64 ((rd_T54 l1 x15_1).f0))) (fun _ hk => hk.2) (.int .i64 ((rd_T54 l1 x15_1).f1))) (fun _ hk => hk.2) (.int .i64 ((rd_T54 l1 x15_1).f2))) (fun _ h_ => h_.1))) hb); have n2_ := q13 (Kd.N_below (by (with_reducible repeat (first | apply Kd.N_alloc | apply Kd.N_drewN | apply Kd.N_drew)); exact (Kd.N_mono (Kd.N_far (p := ⟨gb287, 2, none⟩) (Kd.N_far (p := ⟨gb287, 1, none⟩) (Kd.N_far (p := ⟨gb287, 0, none⟩) (Kd.N_mono HO_8.out (fun k_ hk => (⟨hk, hk.2⟩ : _ ∧ k_ ≠ gb287))) (fun _ hk => hk.2) (.int .i64 ((rd_T54 l1 x15_1).f0))) (fun _ hk => hk.2) (.int .i64 ((rd_T54 l1 x15_1).f1))) (fun _ hk => hk.2) (.int .i64 ((rd_T54 l1 x15_1).f2))) (fun _ h_ => h_.1))) hb); have n3_ := q13 (q8 (g := gb287) (o := .cells #[.int .i64 ((rd_T54 l1 x15_1).f0), .int .i64 ((rd_T54 l1 x15_1).f1), .int .i64 ((rd_T54 l1 x15_1).f2)] 54 (0, 0)) (by (with_reducible repeat (first | refine q0 ?_ _ | refine q1 ?_ | refine q2 ?_ _)); refine blk_put (cs := #[.int .i64 ((rd_T54 l1 x15_1).f0), .int .i64 ((rd_T54 l1 x15_1).f1), .int .i64 0]) ?_ 2 _ rfl; (with_reducible repeat (first | refine q0 ?_ _ | refine q1 ?_ | refine q2 ?_ _)); refine blk_put (cs := #[.int .i64 ((rd_T54 l1 x15_1).f0), .int .i64 0, .int .i64 0]) ?_ 1 _ rfl; (with_reducible repeat (first | refine q0 ?_ _ | refine q1 ?_ | refine q2 ?_ _)); refine blk_put (cs := #[.int .i64 0, .int .i64 0, .int .i64 0]) ?_ 0 _ rfl; (with_reducible repeat (first | refine q0 ?_ _ | refine q1 ?_ | refine q2 ?_ _)); exact BK287.out) hb); have n4_ := q13 (q12 (by repeat (first | (with_reducible first | exact HB.out | apply q3 | apply q4 | apply q5 | refine q6 ?_ GE287.out) | exact HB.out)) hb); clear HO_0; clear HO_2; clear HO_8; clear BK287; clear HB; have HO_0 := n0_; have HO_2 := n1_; have HO_8 := n2_; have BK287 := n3_; have HB := n4_; clear n0_ n1_ n2_ n3_ n4_; (try clear hb); (try clear hb2); (try clear hk); (try clear hi); have hcz17_0 : w16.cell? ⟨gb287, 0, none⟩ = some (.int .i64 ((rd_T54 l1 x15_1).f0)) := (q9 BK287.out 0).trans rfl; have hcz17_1 : w16.cell? ⟨gb287, 1, none⟩ = some (.int .i64 ((rd_T54 l1 x15_1).f1)) := (q9 BK287.out 1).trans rfl; have hcz17_2 : w16.cell? ⟨gb287, 2, none⟩ = some (.int .i64 ((rd_T54 l1 x15_1).f2)) := (q9 BK287.out 2).trans rfl; have hfz17_0 := q11 BK287.out 0; have hfz17_1 := q11 BK287.out 1; have hfz17_2 := q11 BK287.out 2; have p289 : 0 ≤ (x9_1 : Int) := q15 (by assumption); have q289 : x9_1 < (l0.length : Int) := q15 (by assumption); obtain ⟨ad289, A289_1, c289_1, e289, hx289_0, hx289_1, hl289_1, hi289_1⟩ := at_T24 (Kd.V_reads' HO_0.out).2.2 x9_1 p289 q289; cases e289; obtain ⟨ce289, hce289, hMe289, hcc289⟩ := Kd.V_get HO_0.out z24 x9_1 p289 (by first | exact q289 | exact q15 (by assumption) | (have e_ := (Kd.V_reads' HO_0.out).1; omega)); obtain ⟨ua289_1, uc289_1, rfl, ul289_1, ge289_1⟩ := k24_openF hMe289; have hv289_1 := hcc289 1 _ rfl; rw [add_field _ _ 1 (by omega)] at hv289_1; replace hv289_1 := Option.some.inj (hv289_1.symm.trans hx289_1); injection hv289_1 with hva_ hvn_ hvc_; rw [hva_] at ge289_1; rw [hvc_] at ul289_1; have HL289_1 := q13 (show Kd.V k69 69 _ w.heap.size _ _ ((rd_T24 l0 x9_1).f1) from Kd.V_mk ul289_1 ge289_1); clear hva_ hvn_ hvc_ ge289_1 ul289_1; clear hcc289 hce289; have HR289_1 := q13 hi289_1; have HC289_1 := q13 hl289_1; clear hi289_1 hl289_1; replace p289 := eq_true p289; replace q289 := eq_true q289) | ((with_reducible refine gate_callee (f := 36) rfl ?_); refine goesL_ (some 45) rfl rfl Try.func36 (by kernel_rfl) rfl #[.agg #[.int .i64 ((rd_T24 l0 x9_1).f0), .slice A289_1 ((rd_T24 l0 x9_1).f1).length c289_1]] rfl (by (try simp only [List.map_toArray, List.map_cons, List.map_nil]); first | done | rfl | (simp only [List.length_drop, List.length_take]; rfl)) ?_; (with_reducible refine (compare_ownPage.calls k1 ((rd_T24 l0 x9_1).f0) (fun k_ => ((((P0_ k_ ∨ P2_ k_) ∨ w.heap.size ≤ k_) ∧ some k_ ≠ (u8 : Value).ownBlock) ∧ k_ ≠ gb287)) _ _ ((rd_T24 l0 x9_1).f1) t290 t291 _ ?side1 A12.out).mono ?_); (case side1 => exact HL289_1.out); rintro e w18 ⟨v292, rfl, ho0, hb⟩; refine ⟨_, rfl, ?_⟩; have n0_ := q13 (Kd.V_elder' (gV HO_0) (by first | exact Kd.N_base ho0 | exact Kd.R_base ho0) hb); have n1_ := q13 (Kd.V_elder' (gV HO_2) (by first | exact Kd.N_base ho0 | exact Kd.R_base ho0) hb); have n2_ := q13 (Kd.N_elder' (gN HO_8) (by first | exact Kd.N_base ho0 | exact Kd.R_base ho0) hb); have n3_ := q13 (Kd.V_elder' (gV HL289_1) (by first | exact Kd.N_base ho0 | exact Kd.R_base ho0) hb); have n4_ := q13 (Kd.N_lower (Kd.N_mono (ok' := fun k_ => ((P0_ k_ ∨ P2_ k_) ∨ w.heap.size ≤ k_) ∧ some k_ ≠ (u8 : Value).ownBlock ∧ k_ ≠ gb287) ho0 (fun k_ hk_ => ⟨Or.elim hk_ (fun hs_ => hs_.1.1) (fun hn_ => (.inr (Nat.le_trans (q7 (by repeat (first | (with_reducible first | exact HB.out | apply q3 | apply q4 | apply q5 | refine q6 ?_ GE287.out) | exact HB.out))) hn_))), Or.elim hk_ (fun hs_ => hs_.1.2) (fun hn_ => (Kd.fresh' (Kd.N_lt (gN HO_8)) k_ hn_)), Or.elim hk_ (fun hs_ => hs_.2) (fun hn_ => (Kd.freshB (g := gb287) (o := .cells #[.int .i64 ((rd_T54 l1 x15_1).f0), .int .i64 ((rd_T54 l1 x15_1).f1), .int .i64 ((rd_T54 l1 x15_1).f2)] 54 (0, 0)) (gK BK287) k_ hn_))⟩)) (q7 (by repeat (first | (with_reducible first | exact HB.out | apply q3 | apply q4 | apply q5 | refine q6 ?_ GE287.out) | exact HB.out)))); have n5_ := q13 (q8 (g := gb287) (o := .cells #[.int .i64 ((rd_T54 l1 x15_1).f0), .int .i64 ((rd_T54 l1 x15_1).f1), .int .i64 ((rd_T54 l1 x15_1).f2)] 54 (0, 0)) (gK BK287) hb); have n6_ := q13 (Kd.C_below (by repeat (first | (with_reducible exact HR289_1.out) | (with_reducible refine q18 ?_ _) | (with_reducible refine q19 ?_ _) | (with_reducible refine q20 ?_) | exact HR289_1.out)) hb); have n7_ := q13 (q12 (by repeat (first | (with_reducible first | exact HB.out | apply q3 | apply q4 | apply q5 | refine q6 ?_ GE287.out) | exact HB.out)) hb); clear HO_0; clear HO_2; clear HO_8; clear HL289_1; clear BK287; clear HR289_1; clear HB; have HO_0 := n0_; have HO_2 := n1_; have HO_8 := n2_; have HL289_1 := n3_; have HO293 := n4_; have BK287 := n5_; have HR289_1 := n6_; have HB := n7_; clear n0_ n1_ n2_ n3_ n4_ n5_ n6_ n7_; (try clear hb); (try clear hb2); (try clear hk); (try clear hi); (try clear ho0); obtain ⟨Ao20, co20, eo20⟩ := Kd.N_slice HO293.out; subst eo20) | ((with_reducible refine gate_builtin (b := .append) (xs := #[.tmp 40, .tmp 46]) rfl ?_); (try (refine gate_guard (by rfl) ?_; dsimp only)); at_builtin; refine Kd.N_append k24 (w0 := w) w.heap.size rfl (.tmp 40) (.tmp 46) 26 24 (.agg #[(.int .i64 0), (.slice none 0 0)]) 32 rfl Try.underlying26 info24 rfl (by decide) (by omega) u8 x8_1 (⟨t290, t291⟩ : S24) [.int .i64 t290, .slice Ao20 t291.length co20] (fun k_ => ((P0_ k_ ∨ P2_ k_) ∨ w.heap.size ≤ k_) ∧ k_ ≠ gb287) (fun k_ => ((fun k_ => ((P0_ k_ ∨ P2_ k_) ∨ w.heap.size ≤ k_) ∧ k_ ≠ gb287)) k_ ∧ some k_ ≠ (u8 : Value).ownBlock) rfl rfl ?aP (fun _ hk => hk) ?aF ?aO ?aB ?aS ?aL ?_; (case aP => exact (k24_mkF _ _ (⟨t290, t291⟩ : S24) (Kd.N_reads' (Kd.N_mono (ok' := (fun k_ => ((fun k_ => ((P0_ k_ ∨ P2_ k_) ∨ w.heap.size ≤ k_) ∧ k_ ≠ gb287)) k_ ∧ some k_ ≠ (u8 : Value).ownBlock)) (HO293.out) (fun k_ hk => ⟨⟨hk.1, hk.2.2⟩, hk.2.1⟩))).2.1 (Kd.N_F (Kd.N_mono (ok' := (fun k_ => ((fun k_ => ((P0_ k_ ∨ P2_ k_) ∨ w.heap.size ≤ k_) ∧ k_ ≠ gb287)) k_ ∧ some k_ ≠ (u8 : Value).ownBlock)) (HO293.out) (fun k_ hk => ⟨⟨hk.1, hk.2.2⟩, hk.2.1⟩))))); (case aB => exact (by repeat (first | (with_reducible first | exact HB.out | apply q3 | apply q4 | apply q5 | refine q6 ?_ GE287.out) | exact HB.out))); (case aF => exact (fun k_ hk => ⟨(.inr (Nat.le_trans (q7 (by repeat (first | (with_reducible first | exact HB.out | apply q3 | apply q4 | apply q5 | refine q6 ?_ GE287.out) | exact HB.out))) hk)), Kd.freshB (g := gb287) (o := .cells #[.int .i64 ((rd_T54 l1 x15_1).f0), .int .i64 ((rd_T54 l1 x15_1).f1), .int .i64 ((rd_T54 l1 x15_1).f2)] 54 (0, 0)) (gK BK287) k_ hk⟩)); (case aO => exact (by (with_reducible repeat (first | apply Kd.N_alloc | apply Kd.N_drewN | apply Kd.N_drew)); exact Kd.N_mono HO_8.out (fun _ hk => ⟨hk.1.1, hk.1.2⟩))); (case aS => exact (q7 (by repeat (first | (with_reducible first | exact HB.out | apply q3 | apply q4 | apply q5 | refine q6 ?_ GE287.out) | exact HB.out)))); (case aL => have := LMc13.out; omega); intro v295 w19 ho hb hg hat; rw [← Ny294.out] at ho; have n0_ := q13 (Kd.V_afterv (ok := (fun k_ => ((P0_ k_ ∨ P2_ k_) ∨ w.heap.size ≤ k_) ∧ some k_ ≠ (.slice Ao20 t291.length co20 : Value).ownBlock ∧ k_ ≠ gb287)) (by (with_reducible repeat (first | apply Kd.V_alloc | apply Kd.V_drewN | apply Kd.V_drew)); exact q34 HO_0.out (fun _ hk => ⟨⟨hk.1.1.1, ⟨hk.2, hk.1.2⟩⟩, hk.1.1.2⟩)) hg hat); have n1_ := q13 (Kd.V_afterv (ok := (fun k_ => ((P0_ k_ ∨ P2_ k_) ∨ w.heap.size ≤ k_) ∧ some k_ ≠ (.slice Ao20 t291.length co20 : Value).ownBlock ∧ k_ ≠ gb287)) (by (with_reducible repeat (first | apply Kd.V_alloc | apply Kd.V_drewN | apply Kd.V_drew)); exact q34 HO_2.out (fun _ hk => ⟨⟨hk.1.1.1, ⟨hk.2, hk.1.2⟩⟩, hk.1.1.2⟩)) hg hat); have n2_ := q13 (blk_grown (g := gb287) (o := .cells #[.int .i64 ((rd_T54 l1 x15_1).f0), .int .i64 ((rd_T54 l1 x15_1).f1), .int .i64 ((rd_T54 l1 x15_1).f2)] 54 (0, 0)) (gK BK287) hg (Kd.N_ne HO_8.out BK287.out (by decide))); have n3_ := q13 (Kd.V_afterv (ok := (fun k_ => ((P0_ k_ ∨ P2_ k_) ∨ w.heap.size ≤ k_) ∧ some k_ ≠ (.slice Ao20 t291.length co20 : Value).ownBlock ∧ k_ ≠ gb287)) (by (with_reducible repeat (first | apply Kd.V_alloc | apply Kd.V_drewN | apply Kd.V_drew)); exact q34 HL289_1.out (fun _ hk => ⟨⟨hk.1.1.1, ⟨hk.2, hk.1.2⟩⟩, hk.1.1.2⟩)) hg hat); have n4_ := q13 (hb); have n5_ := q13 (ho); clear HO_0; clear HO_2; clear BK287; clear HL289_1; clear HB; clear HO_8; clear HO293; have HO_0 := n0_; have HO_2 := n1_; have BK287 := n2_; have HL289_1 := n3_; have HB := n4_; have HO296 := n5_; clear n0_ n1_ n2_ n3_ n4_ n5_; clear ho hb hg hat))
           go_roundg k1
           case measure => have := HK1.out; omega
           case rel => exact ⟨(y294), (wrap64 (x9_1 + 1)), (wrap64 (x10_1 + 1)), (wrap64 (x15_1 + 1)), (by first | rfl | (simp; done) | (simp [*]; done)), (by first | rfl | (simp; done) | (simp [*]; done)), (by first | rfl | (simp; done) | (simp [*]; done)), H', ⟨by have := HK1.out; omega⟩, ⟨by (with_reducible repeat (first | apply Kd.V_alloc | apply Kd.V_drewN | apply Kd.V_drew)); exact q34 HO_0.out (fun _ hk => ⟨hk.1.1, hk.2⟩)⟩, ⟨by (with_reducible repeat (first | apply Kd.V_alloc | apply Kd.V_drewN | apply Kd.V_drew)); exact q34 HO_2.out (fun _ hk => ⟨hk.1.1, hk.2⟩)⟩, ⟨by (with_reducible repeat (first | apply Kd.N_alloc | apply Kd.N_drewN | apply Kd.N_drew)); exact Kd.N_mono HO296.out (fun _ hk => hk.1)⟩, ⟨by repeat (first | (with_reducible first | exact HB.out | apply q3 | apply q4 | apply q5 | refine q6 ?_ GE287.out) | exact HB.out)⟩⟩
          ·rw [if_neg c13] at H
           exact absurd H (by simp)
         ·rw [if_neg c11] at H
          exact absurd H (by simp)
        ·rw [if_neg c10] at H
         exact absurd H (by simp)
       ·rw [if_neg c9] at H
        have c9b0 : (((rd_T54 l1 x15_1).f0) == 0) = false := beq_eq_false_iff_ne.mpr c9
        have c9b1 : (((rd_T54 l1 x15_1).f0) != 0) = true := bne_iff_ne.mpr c9
        by_cases c21 : ((rd_T54 l1 x15_1).f0) = 3
        ·rw [if_pos c21] at H
         have c21b0 : (((rd_T54 l1 x15_1).f0) == 3) = true := beq_iff_eq.mpr c21
         have c21b1 : (((rd_T54 l1 x15_1).f0) != 3) = false := bne_eq_false_iff_eq.mpr c21
         clear c21
         by_cases c22 : 0 ≤ x10_1
         ·rw [if_pos c22] at H
          have c22b0 : decide (0 ≤ x10_1) = true := decide_eq_true c22
          clear c22
          by_cases c23 : x10_1 < (l2.length : Int)
          ·rw [if_pos c23] at H
           have c23b0 : decide (x10_1 < (l2.length : Int)) = true := decide_eq_true c23
           clear c23
           replace H := Option.bind_eq_some_iff.mp H
           obtain ⟨⟨t298, t299⟩, A240, H⟩ := H
           replace H : (if x8_1.length < 4398046511104 then (compare_Apply.l0 k1 l0 l2 (x8_1 ++ [(⟨t298, t299⟩ : S24)]) (wrap64 (x9_1 + 1)) (wrap64 (x10_1 + 1)) l1 (l1.length : Int) (wrap64 (x15_1 + 1))) else (none)) = some (r1, r2) := H
           have A24 := q13 A240
           clear A240
           by_cases c25 : x8_1.length < 4398046511104
           ·rw [if_pos c25] at H
            have LMc25 := q13 c25
            clear c25
            obtain ⟨y302, hy302⟩ : ∃ y_ : List (S24), y_ = (x8_1 ++ [(⟨t298, t299⟩ : S24)]) := ⟨_, rfl⟩
            replace H : (compare_Apply.l0 k1 l0 l2 y302 (wrap64 (x9_1 + 1)) (wrap64 (x10_1 + 1)) l1 (l1.length : Int) (wrap64 (x15_1 + 1))) = some (r1, r2) := by first | (rw [hy302]; with_reducible exact H) | (have H2_ := (Option.bind_some _ _).symm.trans H; rw [hy302]; with_reducible exact H2_) | (have H2_ := (Option.bind_some _ _).symm.trans H; with_reducible exact H2_) | with_reducible exact H | (rw [hy302]; exact H) | exact H
            have Ny302 := q13 hy302
            clear hy302
            have H' := q13 H
            clear H
            have p286 : 0 ≤ (x15_1 : Int) := q15 (by assumption)
            have q286 : x15_1 < (l1.length : Int) := q15 (by assumption)
            obtain ⟨ad286, e286, hx286_0, hx286_1, hx286_2⟩ := at_T54 HR1.out x15_1 p286 q286
            cases e286
            replace hx286_0 := cl HB.out hx286_0
            replace hx286_1 := cl HB.out hx286_1
            replace hx286_2 := cl HB.out hx286_2
            replace p286 := eq_true p286
            replace q286 := eq_true q286
            go_wp2_with (first | ((with_reducible refine gate_dst (N := 12) rfl ?_); (try (refine gate_guard (by rfl) ?_; dsimp only)); refine box_event ?hg (N := 12) ?hd (cs := #[.int .i64 0, .int .i64 0, .int .i64 0]) (t := 54) ?hr ?_; (case hd => rfl); (case hg => rfl); (case hr => first | (go_simp; done) | (go_simp; rfl)); intro gb287 hg w26 hbox hb; have n0_ := q13 (Kd.V_below (Kd.V_elderB (gV HO_0) gb287 (Nat.le_of_eq hg.symm)) hb); have n1_ := q13 (Kd.V_below (Kd.V_elderB (gV HO_2) gb287 (Nat.le_of_eq hg.symm)) hb); have n2_ := q13 (Kd.N_below (Kd.N_elderB (gN HO_8) gb287 (Nat.le_of_eq hg.symm)) hb); have n3_ := q13 (q12 (gB HB) hb); have n4_ := q13 (hbox); have n5_ := q13 ((by rw [hg]; exact (q7 (gB HB)) : w.heap.size ≤ gb287)); have n6_ := q13 ((by rw [hg]; exact (q7 (gB HB)) : w.heap.size ≤ gb287)); clear HO_0; clear HO_2; clear HO_8; clear HB; have HO_0 := n0_; have HO_2 := n1_; have HO_8 := n2_; have HB := n3_; have BK287 := n4_; have GW287 := n5_; have GE287 := n6_; clear n0_ n1_ n2_ n3_ n4_ n5_ n6_; clear hb hbox hg; have hcz27_0 : w26.cell? ⟨gb287, 0, none⟩ = some (.int .i64 0) := (q9 BK287.out 0).trans rfl; have hcz27_1 : w26.cell? ⟨gb287, 1, none⟩ = some (.int .i64 0) := (q9 BK287.out 1).trans rfl; have hcz27_2 : w26.cell? ⟨gb287, 2, none⟩ = some (.int .i64 0) := (q9 BK287.out 2).trans rfl; have hfz27_0 := q11 BK287.out 0; have hfz27_1 := q11 BK287.out 1; have hfz27_2 := q11 BK287.out 2) | ((with_reducible refine gate_callee (f := 35) rfl ?_); refine goesL_ (some 24) rfl rfl Try.func35 (by kernel_rfl) rfl #[.agg #[.int .i64 ((rd_T54 l1 x15_1).f0), .int .i64 ((rd_T54 l1 x15_1).f1), .int .i64 ((rd_T54 l1 x15_1).f2)], .slice A0 l0.length c0, .slice A2 l2.length c2, .int .i64 x9_1, .int .i64 x10_1] rfl (by (try simp only [List.map_toArray, List.map_cons, List.map_nil]); first | done | rfl | (simp only [List.length_drop, List.length_take]; rfl)) ?_; (with_reducible refine (compare_fits.calls k1 ((rd_T54 l1 x15_1).f0) ((rd_T54 l1 x15_1).f1) ((rd_T54 l1 x15_1).f2) _ _ l0 _ _ l2 x9_1 x10_1 true _ ?side1 ?side2 ?side3 ?side4 A7.out).mono ?_); (case side1 => refine (Kd.V_reads' (e := 24) (base := w.heap.size) (ok := fun k_ => ((((P0_ k_ ∨ P2_ k_) ∨ w.heap.size ≤ k_) ∧ some k_ ≠ (u8 : Value).ownBlock) ∧ k_ ≠ gb287)) (n := l0.length) (c := c0) ?_).2.2; exact (by (with_reducible repeat (first | apply Kd.V_alloc | apply Kd.V_drewN | apply Kd.V_drew)); exact (q34 (Kd.V_far (p := ⟨gb287, 2, none⟩) (Kd.V_far (p := ⟨gb287, 1, none⟩) (Kd.V_far (p := ⟨gb287, 0, none⟩) (q34 HO_0.out (fun k_ hk => (⟨hk, hk.2⟩ : _ ∧ k_ ≠ gb287))) (fun _ hk => hk.2) (.int .i64 ((rd_T54 l1 x15_1).f0))) (fun _ hk => hk.2) (.int .i64 ((rd_T54 l1 x15_1).f1))) (fun _ hk => hk.2) (.int .i64 ((rd_T54 l1 x15_1).f2))) (fun _ h_ => h_.1)))); (case side2 => exact (Kd.V_reads' HO_0.out).2.1); (case side3 => refine (Kd.V_reads' (e := 24) (base := w.heap.size) (ok := fun k_ => ((((P0_ k_ ∨ P2_ k_) ∨ w.heap.size ≤ k_) ∧ some k_ ≠ (u8 : Value).ownBlock) ∧ k_ ≠ gb287)) (n := l2.length) (c := c2) ?_).2.2; exact (by (with_reducible repeat (first | apply Kd.V_alloc | apply Kd.V_drewN | apply Kd.V_drew)); exact (q34 (Kd.V_far (p := ⟨gb287, 2, none⟩) (Kd.V_far (p := ⟨gb287, 1, none⟩) (Kd.V_far (p := ⟨gb287, 0, none⟩) (q34 HO_2.out (fun k_ hk => (⟨hk, hk.2⟩ : _ ∧ k_ ≠ gb287))) (fun _ hk => hk.2) (.int .i64 ((rd_T54 l1 x15_1).f0))) (fun _ hk => hk.2) (.int .i64 ((rd_T54 l1 x15_1).f1))) (fun _ hk => hk.2) (.int .i64 ((rd_T54 l1 x15_1).f2))) (fun _ h_ => h_.1)))); (case side4 => exact (Kd.V_reads' HO_2.out).2.1); rintro e w28 ⟨rfl, hb⟩; refine ⟨_, rfl, ?_⟩; have n0_ := q13 (Kd.V_below (by (with_reducible repeat (first | apply Kd.V_alloc | apply Kd.V_drewN | apply Kd.V_drew)); exact (q34 (Kd.V_far (p := ⟨gb287, 2, none⟩) (Kd.V_far (p := ⟨gb287, 1, none⟩) (Kd.V_far (p := ⟨gb287, 0, none⟩) (q34 HO_0.out (fun k_ hk => (⟨hk, hk.2⟩ : _ ∧ k_ ≠ gb287))) (fun _ hk => hk.2) (.int .i64 ((rd_T54 l1 x15_1).f0))) (fun _ hk => hk.2) (.int .i64 ((rd_T54 l1 x15_1).f1))) (fun _ hk => hk.2) (.int .i64 ((rd_T54 l1 x15_1).f2))) (fun _ h_ => h_.1))) hb); have n1_ := q13 (Kd.V_below (by (with_reducible repeat (first | apply Kd.V_alloc | apply Kd.V_drewN | apply Kd.V_drew)); exact (q34 (Kd.V_far (p := ⟨gb287, 2, none⟩) (Kd.V_far (p := ⟨gb287, 1, none⟩) (Kd.V_far (p := ⟨gb287, 0, none⟩) (q34 HO_2.out (fun k_ hk => (⟨hk, hk.2⟩ : _ ∧ k_ ≠ gb287))) (fun _ hk => hk.2) (.int .i64 ((rd_T54 l1 x15_1).f0))) (fun _ hk => hk.2) (.int .i64 ((rd_T54 l1 x15_1).f1))) (fun _ hk => hk.2) (.int .i64 ((rd_T54 l1 x15_1).f2))) (fun _ h_ => h_.1))) hb); have n2_ := q13 (Kd.N_below (by (with_reducible repeat (first | apply Kd.N_alloc | apply Kd.N_drewN | apply Kd.N_drew)); exact (Kd.N_mono (Kd.N_far (p := ⟨gb287, 2, none⟩) (Kd.N_far (p := ⟨gb287, 1, none⟩) (Kd.N_far (p := ⟨gb287, 0, none⟩) (Kd.N_mono HO_8.out (fun k_ hk => (⟨hk, hk.2⟩ : _ ∧ k_ ≠ gb287))) (fun _ hk => hk.2) (.int .i64 ((rd_T54 l1 x15_1).f0))) (fun _ hk => hk.2) (.int .i64 ((rd_T54 l1 x15_1).f1))) (fun _ hk => hk.2) (.int .i64 ((rd_T54 l1 x15_1).f2))) (fun _ h_ => h_.1))) hb); have n3_ := q13 (q8 (g := gb287) (o := .cells #[.int .i64 ((rd_T54 l1 x15_1).f0), .int .i64 ((rd_T54 l1 x15_1).f1), .int .i64 ((rd_T54 l1 x15_1).f2)] 54 (0, 0)) (by (with_reducible repeat (first | refine q0 ?_ _ | refine q1 ?_ | refine q2 ?_ _)); refine blk_put (cs := #[.int .i64 ((rd_T54 l1 x15_1).f0), .int .i64 ((rd_T54 l1 x15_1).f1), .int .i64 0]) ?_ 2 _ rfl; (with_reducible repeat (first | refine q0 ?_ _ | refine q1 ?_ | refine q2 ?_ _)); refine blk_put (cs := #[.int .i64 ((rd_T54 l1 x15_1).f0), .int .i64 0, .int .i64 0]) ?_ 1 _ rfl; (with_reducible repeat (first | refine q0 ?_ _ | refine q1 ?_ | refine q2 ?_ _)); refine blk_put (cs := #[.int .i64 0, .int .i64 0, .int .i64 0]) ?_ 0 _ rfl; (with_reducible repeat (first | refine q0 ?_ _ | refine q1 ?_ | refine q2 ?_ _)); exact BK287.out) hb); have n4_ := q13 (q12 (by repeat (first | (with_reducible first | exact HB.out | apply q3 | apply q4 | apply q5 | refine q6 ?_ GE287.out) | exact HB.out)) hb); clear HO_0; clear HO_2; clear HO_8; clear BK287; clear HB; have HO_0 := n0_; have HO_2 := n1_; have HO_8 := n2_; have BK287 := n3_; have HB := n4_; clear n0_ n1_ n2_ n3_ n4_; (try clear hb); (try clear hb2); (try clear hk); (try clear hi); have hcz29_0 : w28.cell? ⟨gb287, 0, none⟩ = some (.int .i64 ((rd_T54 l1 x15_1).f0)) := (q9 BK287.out 0).trans rfl; have hcz29_1 : w28.cell? ⟨gb287, 1, none⟩ = some (.int .i64 ((rd_T54 l1 x15_1).f1)) := (q9 BK287.out 1).trans rfl; have hcz29_2 : w28.cell? ⟨gb287, 2, none⟩ = some (.int .i64 ((rd_T54 l1 x15_1).f2)) := (q9 BK287.out 2).trans rfl; have hfz29_0 := q11 BK287.out 0; have hfz29_1 := q11 BK287.out 1; have hfz29_2 := q11 BK287.out 2; have p297 : 0 ≤ (x10_1 : Int) := q15 (by assumption); have q297 : x10_1 < (l2.length : Int) := q15 (by assumption); obtain ⟨ad297, A297_1, c297_1, e297, hx297_0, hx297_1, hl297_1, hi297_1⟩ := at_T24 (Kd.V_reads' HO_2.out).2.2 x10_1 p297 q297; cases e297; obtain ⟨ce297, hce297, hMe297, hcc297⟩ := Kd.V_get HO_2.out z24 x10_1 p297 (by first | exact q297 | exact q15 (by assumption) | (have e_ := (Kd.V_reads' HO_2.out).1; omega)); obtain ⟨ua297_1, uc297_1, rfl, ul297_1, ge297_1⟩ := k24_openF hMe297; have hv297_1 := hcc297 1 _ rfl; rw [add_field _ _ 1 (by omega)] at hv297_1; replace hv297_1 := Option.some.inj (hv297_1.symm.trans hx297_1); injection hv297_1 with hva_ hvn_ hvc_; rw [hva_] at ge297_1; rw [hvc_] at ul297_1; have HL297_1 := q13 (show Kd.V k69 69 _ w.heap.size _ _ ((rd_T24 l2 x10_1).f1) from Kd.V_mk ul297_1 ge297_1); clear hva_ hvn_ hvc_ ge297_1 ul297_1; clear hcc297 hce297; have HR297_1 := q13 hi297_1; have HC297_1 := q13 hl297_1; clear hi297_1 hl297_1; replace p297 := eq_true p297; replace q297 := eq_true q297) | ((with_reducible refine gate_callee (f := 36) rfl ?_); refine goesL_ (some 59) rfl rfl Try.func36 (by kernel_rfl) rfl #[.agg #[.int .i64 ((rd_T24 l2 x10_1).f0), .slice A297_1 ((rd_T24 l2 x10_1).f1).length c297_1]] rfl (by (try simp only [List.map_toArray, List.map_cons, List.map_nil]); first | done | rfl | (simp only [List.length_drop, List.length_take]; rfl)) ?_; (with_reducible refine (compare_ownPage.calls k1 ((rd_T24 l2 x10_1).f0) (fun k_ => ((((P0_ k_ ∨ P2_ k_) ∨ w.heap.size ≤ k_) ∧ some k_ ≠ (u8 : Value).ownBlock) ∧ k_ ≠ gb287)) _ _ ((rd_T24 l2 x10_1).f1) t298 t299 _ ?side1 A24.out).mono ?_); (case side1 => exact HL297_1.out); rintro e w30 ⟨v300, rfl, ho0, hb⟩; refine ⟨_, rfl, ?_⟩; have n0_ := q13 (Kd.V_elder' (gV HO_0) (by first | exact Kd.N_base ho0 | exact Kd.R_base ho0) hb); have n1_ := q13 (Kd.V_elder' (gV HO_2) (by first | exact Kd.N_base ho0 | exact Kd.R_base ho0) hb); have n2_ := q13 (Kd.N_elder' (gN HO_8) (by first | exact Kd.N_base ho0 | exact Kd.R_base ho0) hb); have n3_ := q13 (Kd.V_elder' (gV HL297_1) (by first | exact Kd.N_base ho0 | exact Kd.R_base ho0) hb); have n4_ := q13 (Kd.N_lower (Kd.N_mono (ok' := fun k_ => ((P0_ k_ ∨ P2_ k_) ∨ w.heap.size ≤ k_) ∧ some k_ ≠ (u8 : Value).ownBlock ∧ k_ ≠ gb287) ho0 (fun k_ hk_ => ⟨Or.elim hk_ (fun hs_ => hs_.1.1) (fun hn_ => (.inr (Nat.le_trans (q7 (by repeat (first | (with_reducible first | exact HB.out | apply q3 | apply q4 | apply q5 | refine q6 ?_ GE287.out) | exact HB.out))) hn_))), Or.elim hk_ (fun hs_ => hs_.1.2) (fun hn_ => (Kd.fresh' (Kd.N_lt (gN HO_8)) k_ hn_)), Or.elim hk_ (fun hs_ => hs_.2) (fun hn_ => (Kd.freshB (g := gb287) (o := .cells #[.int .i64 ((rd_T54 l1 x15_1).f0), .int .i64 ((rd_T54 l1 x15_1).f1), .int .i64 ((rd_T54 l1 x15_1).f2)] 54 (0, 0)) (gK BK287) k_ hn_))⟩)) (q7 (by repeat (first | (with_reducible first | exact HB.out | apply q3 | apply q4 | apply q5 | refine q6 ?_ GE287.out) | exact HB.out)))); have n5_ := q13 (q8 (g := gb287) (o := .cells #[.int .i64 ((rd_T54 l1 x15_1).f0), .int .i64 ((rd_T54 l1 x15_1).f1), .int .i64 ((rd_T54 l1 x15_1).f2)] 54 (0, 0)) (gK BK287) hb); have n6_ := q13 (Kd.C_below (by repeat (first | (with_reducible exact HR297_1.out) | (with_reducible refine q18 ?_ _) | (with_reducible refine q19 ?_ _) | (with_reducible refine q20 ?_) | exact HR297_1.out)) hb); have n7_ := q13 (q12 (by repeat (first | (with_reducible first | exact HB.out | apply q3 | apply q4 | apply q5 | refine q6 ?_ GE287.out) | exact HB.out)) hb); clear HO_0; clear HO_2; clear HO_8; clear HL297_1; clear BK287; clear HR297_1; clear HB; have HO_0 := n0_; have HO_2 := n1_; have HO_8 := n2_; have HL297_1 := n3_; have HO301 := n4_; have BK287 := n5_; have HR297_1 := n6_; have HB := n7_; clear n0_ n1_ n2_ n3_ n4_ n5_ n6_ n7_; (try clear hb); (try clear hb2); (try clear hk); (try clear hi); (try clear ho0); obtain ⟨Ao32, co32, eo32⟩ := Kd.N_slice HO301.out; subst eo32) | ((with_reducible refine gate_builtin (b := .append) (xs := #[.tmp 54, .tmp 60]) rfl ?_); (try (refine gate_guard (by rfl) ?_; dsimp only)); at_builtin; refine Kd.N_append k24 (w0 := w) w.heap.size rfl (.tmp 54) (.tmp 60) 26 24 (.agg #[(.int .i64 0), (.slice none 0 0)]) 32 rfl Try.underlying26 info24 rfl (by decide) (by omega) u8 x8_1 (⟨t298, t299⟩ : S24) [.int .i64 t298, .slice Ao32 t299.length co32] (fun k_ => ((P0_ k_ ∨ P2_ k_) ∨ w.heap.size ≤ k_) ∧ k_ ≠ gb287) (fun k_ => ((fun k_ => ((P0_ k_ ∨ P2_ k_) ∨ w.heap.size ≤ k_) ∧ k_ ≠ gb287)) k_ ∧ some k_ ≠ (u8 : Value).ownBlock) rfl rfl ?aP (fun _ hk => hk) ?aF ?aO ?aB ?aS ?aL ?_; (case aP => exact (k24_mkF _ _ (⟨t298, t299⟩ : S24) (Kd.N_reads' (Kd.N_mono (ok' := (fun k_ => ((fun k_ => ((P0_ k_ ∨ P2_ k_) ∨ w.heap.size ≤ k_) ∧ k_ ≠ gb287)) k_ ∧ some k_ ≠ (u8 : Value).ownBlock)) (HO301.out) (fun k_ hk => ⟨⟨hk.1, hk.2.2⟩, hk.2.1⟩))).2.1 (Kd.N_F (Kd.N_mono (ok' := (fun k_ => ((fun k_ => ((P0_ k_ ∨ P2_ k_) ∨ w.heap.size ≤ k_) ∧ k_ ≠ gb287)) k_ ∧ some k_ ≠ (u8 : Value).ownBlock)) (HO301.out) (fun k_ hk => ⟨⟨hk.1, hk.2.2⟩, hk.2.1⟩))))); (case aB => exact (by repeat (first | (with_reducible first | exact HB.out | apply q3 | apply q4 | apply q5 | refine q6 ?_ GE287.out) | exact HB.out))); (case aF => exact (fun k_ hk => ⟨(.inr (Nat.le_trans (q7 (by repeat (first | (with_reducible first | exact HB.out | apply q3 | apply q4 | apply q5 | refine q6 ?_ GE287.out) | exact HB.out))) hk)), Kd.freshB (g := gb287) (o := .cells #[.int .i64 ((rd_T54 l1 x15_1).f0), .int .i64 ((rd_T54 l1 x15_1).f1), .int .i64 ((rd_T54 l1 x15_1).f2)] 54 (0, 0)) (gK BK287) k_ hk⟩)); (case aO => exact (by (with_reducible repeat (first | apply Kd.N_alloc | apply Kd.N_drewN | apply Kd.N_drew)); exact Kd.N_mono HO_8.out (fun _ hk => ⟨hk.1.1, hk.1.2⟩))); (case aS => exact (q7 (by repeat (first | (with_reducible first | exact HB.out | apply q3 | apply q4 | apply q5 | refine q6 ?_ GE287.out) | exact HB.out)))); (case aL => have := LMc25.out; omega); intro v303 w31 ho hb hg hat; rw [← Ny302.out] at ho; have n0_ := q13 (Kd.V_afterv (ok := (fun k_ => ((P0_ k_ ∨ P2_ k_) ∨ w.heap.size ≤ k_) ∧ some k_ ≠ (.slice Ao32 t299.length co32 : Value).ownBlock ∧ k_ ≠ gb287)) (by (with_reducible repeat (first | apply Kd.V_alloc | apply Kd.V_drewN | apply Kd.V_drew)); exact q34 HO_0.out (fun _ hk => ⟨⟨hk.1.1.1, ⟨hk.2, hk.1.2⟩⟩, hk.1.1.2⟩)) hg hat); have n1_ := q13 (Kd.V_afterv (ok := (fun k_ => ((P0_ k_ ∨ P2_ k_) ∨ w.heap.size ≤ k_) ∧ some k_ ≠ (.slice Ao32 t299.length co32 : Value).ownBlock ∧ k_ ≠ gb287)) (by (with_reducible repeat (first | apply Kd.V_alloc | apply Kd.V_drewN | apply Kd.V_drew)); exact q34 HO_2.out (fun _ hk => ⟨⟨hk.1.1.1, ⟨hk.2, hk.1.2⟩⟩, hk.1.1.2⟩)) hg hat); have n2_ := q13 (blk_grown (g := gb287) (o := .cells #[.int .i64 ((rd_T54 l1 x15_1).f0), .int .i64 ((rd_T54 l1 x15_1).f1), .int .i64 ((rd_T54 l1 x15_1).f2)] 54 (0, 0)) (gK BK287) hg (Kd.N_ne HO_8.out BK287.out (by decide))); have n3_ := q13 (Kd.V_afterv (ok := (fun k_ => ((P0_ k_ ∨ P2_ k_) ∨ w.heap.size ≤ k_) ∧ some k_ ≠ (.slice Ao32 t299.length co32 : Value).ownBlock ∧ k_ ≠ gb287)) (by (with_reducible repeat (first | apply Kd.V_alloc | apply Kd.V_drewN | apply Kd.V_drew)); exact q34 HL297_1.out (fun _ hk => ⟨⟨hk.1.1.1, ⟨hk.2, hk.1.2⟩⟩, hk.1.1.2⟩)) hg hat); have n4_ := q13 (hb); have n5_ := q13 (ho); clear HO_0; clear HO_2; clear BK287; clear HL297_1; clear HB; clear HO_8; clear HO301; have HO_0 := n0_; have HO_2 := n1_; have BK287 := n2_; have HL297_1 := n3_; have HB := n4_; have HO304 := n5_; clear n0_ n1_ n2_ n3_ n4_ n5_; clear ho hb hg hat))
            go_roundg k1
            case measure => have := HK1.out; omega
            case rel => exact ⟨(y302), (wrap64 (x9_1 + 1)), (wrap64 (x10_1 + 1)), (wrap64 (x15_1 + 1)), (by first | rfl | (simp; done) | (simp [*]; done)), (by first | rfl | (simp; done) | (simp [*]; done)), (by first | rfl | (simp; done) | (simp [*]; done)), H', ⟨by have := HK1.out; omega⟩, ⟨by (with_reducible repeat (first | apply Kd.V_alloc | apply Kd.V_drewN | apply Kd.V_drew)); exact q34 HO_0.out (fun _ hk => ⟨hk.1.1, hk.2⟩)⟩, ⟨by (with_reducible repeat (first | apply Kd.V_alloc | apply Kd.V_drewN | apply Kd.V_drew)); exact q34 HO_2.out (fun _ hk => ⟨hk.1.1, hk.2⟩)⟩, ⟨by (with_reducible repeat (first | apply Kd.N_alloc | apply Kd.N_drewN | apply Kd.N_drew)); exact Kd.N_mono HO304.out (fun _ hk => hk.1)⟩, ⟨by repeat (first | (with_reducible first | exact HB.out | apply q3 | apply q4 | apply q5 | refine q6 ?_ GE287.out) | exact HB.out)⟩⟩
           ·rw [if_neg c25] at H
            exact absurd H (by simp)
          ·rw [if_neg c23] at H
           exact absurd H (by simp)
         ·rw [if_neg c22] at H
          exact absurd H (by simp)
        ·rw [if_neg c21] at H
         have c21b0 : (((rd_T54 l1 x15_1).f0) == 3) = false := beq_eq_false_iff_ne.mpr c21
         have c21b1 : (((rd_T54 l1 x15_1).f0) != 3) = true := bne_iff_ne.mpr c21
         by_cases c33 : ((rd_T54 l1 x15_1).f0) = 1
         ·rw [if_pos c33] at H
          have c33b0 : (((rd_T54 l1 x15_1).f0) == 1) = true := beq_iff_eq.mpr c33
          have c33b1 : (((rd_T54 l1 x15_1).f0) != 1) = false := bne_eq_false_iff_eq.mpr c33
          clear c33
          have H' := q13 H
          clear H
          have p286 : 0 ≤ (x15_1 : Int) := q15 (by assumption)
          have q286 : x15_1 < (l1.length : Int) := q15 (by assumption)
          obtain ⟨ad286, e286, hx286_0, hx286_1, hx286_2⟩ := at_T54 HR1.out x15_1 p286 q286
          cases e286
          replace hx286_0 := cl HB.out hx286_0
          replace hx286_1 := cl HB.out hx286_1
          replace hx286_2 := cl HB.out hx286_2
          replace p286 := eq_true p286
          replace q286 := eq_true q286
          go_wp2_with (first | ((with_reducible refine gate_dst (N := 12) rfl ?_); (try (refine gate_guard (by rfl) ?_; dsimp only)); refine box_event ?hg (N := 12) ?hd (cs := #[.int .i64 0, .int .i64 0, .int .i64 0]) (t := 54) ?hr ?_; (case hd => rfl); (case hg => rfl); (case hr => first | (go_simp; done) | (go_simp; rfl)); intro gb287 hg w34 hbox hb; have n0_ := q13 (Kd.V_below (Kd.V_elderB (gV HO_0) gb287 (Nat.le_of_eq hg.symm)) hb); have n1_ := q13 (Kd.V_below (Kd.V_elderB (gV HO_2) gb287 (Nat.le_of_eq hg.symm)) hb); have n2_ := q13 (Kd.N_below (Kd.N_elderB (gN HO_8) gb287 (Nat.le_of_eq hg.symm)) hb); have n3_ := q13 (q12 (gB HB) hb); have n4_ := q13 (hbox); have n5_ := q13 ((by rw [hg]; exact (q7 (gB HB)) : w.heap.size ≤ gb287)); have n6_ := q13 ((by rw [hg]; exact (q7 (gB HB)) : w.heap.size ≤ gb287)); clear HO_0; clear HO_2; clear HO_8; clear HB; have HO_0 := n0_; have HO_2 := n1_; have HO_8 := n2_; have HB := n3_; have BK287 := n4_; have GW287 := n5_; have GE287 := n6_; clear n0_ n1_ n2_ n3_ n4_ n5_ n6_; clear hb hbox hg; have hcz35_0 : w34.cell? ⟨gb287, 0, none⟩ = some (.int .i64 0) := (q9 BK287.out 0).trans rfl; have hcz35_1 : w34.cell? ⟨gb287, 1, none⟩ = some (.int .i64 0) := (q9 BK287.out 1).trans rfl; have hcz35_2 : w34.cell? ⟨gb287, 2, none⟩ = some (.int .i64 0) := (q9 BK287.out 2).trans rfl; have hfz35_0 := q11 BK287.out 0; have hfz35_1 := q11 BK287.out 1; have hfz35_2 := q11 BK287.out 2) | ((with_reducible refine gate_callee (f := 35) rfl ?_); refine goesL_ (some 24) rfl rfl Try.func35 (by kernel_rfl) rfl #[.agg #[.int .i64 ((rd_T54 l1 x15_1).f0), .int .i64 ((rd_T54 l1 x15_1).f1), .int .i64 ((rd_T54 l1 x15_1).f2)], .slice A0 l0.length c0, .slice A2 l2.length c2, .int .i64 x9_1, .int .i64 x10_1] rfl (by (try simp only [List.map_toArray, List.map_cons, List.map_nil]); first | done | rfl | (simp only [List.length_drop, List.length_take]; rfl)) ?_; (with_reducible refine (compare_fits.calls k1 ((rd_T54 l1 x15_1).f0) ((rd_T54 l1 x15_1).f1) ((rd_T54 l1 x15_1).f2) _ _ l0 _ _ l2 x9_1 x10_1 true _ ?side1 ?side2 ?side3 ?side4 A7.out).mono ?_); (case side1 => refine (Kd.V_reads' (e := 24) (base := w.heap.size) (ok := fun k_ => ((((P0_ k_ ∨ P2_ k_) ∨ w.heap.size ≤ k_) ∧ some k_ ≠ (u8 : Value).ownBlock) ∧ k_ ≠ gb287)) (n := l0.length) (c := c0) ?_).2.2; exact (by (with_reducible repeat (first | apply Kd.V_alloc | apply Kd.V_drewN | apply Kd.V_drew)); exact (q34 (Kd.V_far (p := ⟨gb287, 2, none⟩) (Kd.V_far (p := ⟨gb287, 1, none⟩) (Kd.V_far (p := ⟨gb287, 0, none⟩) (q34 HO_0.out (fun k_ hk => (⟨hk, hk.2⟩ : _ ∧ k_ ≠ gb287))) (fun _ hk => hk.2) (.int .i64 ((rd_T54 l1 x15_1).f0))) (fun _ hk => hk.2) (.int .i64 ((rd_T54 l1 x15_1).f1))) (fun _ hk => hk.2) (.int .i64 ((rd_T54 l1 x15_1).f2))) (fun _ h_ => h_.1)))); (case side2 => exact (Kd.V_reads' HO_0.out).2.1); (case side3 => refine (Kd.V_reads' (e := 24) (base := w.heap.size) (ok := fun k_ => ((((P0_ k_ ∨ P2_ k_) ∨ w.heap.size ≤ k_) ∧ some k_ ≠ (u8 : Value).ownBlock) ∧ k_ ≠ gb287)) (n := l2.length) (c := c2) ?_).2.2; exact (by (with_reducible repeat (first | apply Kd.V_alloc | apply Kd.V_drewN | apply Kd.V_drew)); exact (q34 (Kd.V_far (p := ⟨gb287, 2, none⟩) (Kd.V_far (p := ⟨gb287, 1, none⟩) (Kd.V_far (p := ⟨gb287, 0, none⟩) (q34 HO_2.out (fun k_ hk => (⟨hk, hk.2⟩ : _ ∧ k_ ≠ gb287))) (fun _ hk => hk.2) (.int .i64 ((rd_T54 l1 x15_1).f0))) (fun _ hk => hk.2) (.int .i64 ((rd_T54 l1 x15_1).f1))) (fun _ hk => hk.2) (.int .i64 ((rd_T54 l1 x15_1).f2))) (fun _ h_ => h_.1)))); (case side4 => exact (Kd.V_reads' HO_2.out).2.1); rintro e w36 ⟨rfl, hb⟩; refine ⟨_, rfl, ?_⟩; have n0_ := q13 (Kd.V_below (by (with_reducible repeat (first | apply Kd.V_alloc | apply Kd.V_drewN | apply Kd.V_drew)); exact (q34 (Kd.V_far (p := ⟨gb287, 2, none⟩) (Kd.V_far (p := ⟨gb287, 1, none⟩) (Kd.V_far (p := ⟨gb287, 0, none⟩) (q34 HO_0.out (fun k_ hk => (⟨hk, hk.2⟩ : _ ∧ k_ ≠ gb287))) (fun _ hk => hk.2) (.int .i64 ((rd_T54 l1 x15_1).f0))) (fun _ hk => hk.2) (.int .i64 ((rd_T54 l1 x15_1).f1))) (fun _ hk => hk.2) (.int .i64 ((rd_T54 l1 x15_1).f2))) (fun _ h_ => h_.1))) hb); have n1_ := q13 (Kd.V_below (by (with_reducible repeat (first | apply Kd.V_alloc | apply Kd.V_drewN | apply Kd.V_drew)); exact (q34 (Kd.V_far (p := ⟨gb287, 2, none⟩) (Kd.V_far (p := ⟨gb287, 1, none⟩) (Kd.V_far (p := ⟨gb287, 0, none⟩) (q34 HO_2.out (fun k_ hk => (⟨hk, hk.2⟩ : _ ∧ k_ ≠ gb287))) (fun _ hk => hk.2) (.int .i64 ((rd_T54 l1 x15_1).f0))) (fun _ hk => hk.2) (.int .i64 ((rd_T54 l1 x15_1).f1))) (fun _ hk => hk.2) (.int .i64 ((rd_T54 l1 x15_1).f2))) (fun _ h_ => h_.1))) hb); have n2_ := q13 (Kd.N_below (by (with_reducible repeat (first | apply Kd.N_alloc | apply Kd.N_drewN | apply Kd.N_drew)); exact (Kd.N_mono (Kd.N_far (p := ⟨gb287, 2, none⟩) (Kd.N_far (p := ⟨gb287, 1, none⟩) (Kd.N_far (p := ⟨gb287, 0, none⟩) (Kd.N_mono HO_8.out (fun k_ hk => (⟨hk, hk.2⟩ : _ ∧ k_ ≠ gb287))) (fun _ hk => hk.2) (.int .i64 ((rd_T54 l1 x15_1).f0))) (fun _ hk => hk.2) (.int .i64 ((rd_T54 l1 x15_1).f1))) (fun _ hk => hk.2) (.int .i64 ((rd_T54 l1 x15_1).f2))) (fun _ h_ => h_.1))) hb); have n3_ := q13 (q8 (g := gb287) (o := .cells #[.int .i64 ((rd_T54 l1 x15_1).f0), .int .i64 ((rd_T54 l1 x15_1).f1), .int .i64 ((rd_T54 l1 x15_1).f2)] 54 (0, 0)) (by (with_reducible repeat (first | refine q0 ?_ _ | refine q1 ?_ | refine q2 ?_ _)); refine blk_put (cs := #[.int .i64 ((rd_T54 l1 x15_1).f0), .int .i64 ((rd_T54 l1 x15_1).f1), .int .i64 0]) ?_ 2 _ rfl; (with_reducible repeat (first | refine q0 ?_ _ | refine q1 ?_ | refine q2 ?_ _)); refine blk_put (cs := #[.int .i64 ((rd_T54 l1 x15_1).f0), .int .i64 0, .int .i64 0]) ?_ 1 _ rfl; (with_reducible repeat (first | refine q0 ?_ _ | refine q1 ?_ | refine q2 ?_ _)); refine blk_put (cs := #[.int .i64 0, .int .i64 0, .int .i64 0]) ?_ 0 _ rfl; (with_reducible repeat (first | refine q0 ?_ _ | refine q1 ?_ | refine q2 ?_ _)); exact BK287.out) hb); have n4_ := q13 (q12 (by repeat (first | (with_reducible first | exact HB.out | apply q3 | apply q4 | apply q5 | refine q6 ?_ GE287.out) | exact HB.out)) hb); clear HO_0; clear HO_2; clear HO_8; clear BK287; clear HB; have HO_0 := n0_; have HO_2 := n1_; have HO_8 := n2_; have BK287 := n3_; have HB := n4_; clear n0_ n1_ n2_ n3_ n4_; (try clear hb); (try clear hb2); (try clear hk); (try clear hi); have hcz37_0 : w36.cell? ⟨gb287, 0, none⟩ = some (.int .i64 ((rd_T54 l1 x15_1).f0)) := (q9 BK287.out 0).trans rfl; have hcz37_1 : w36.cell? ⟨gb287, 1, none⟩ = some (.int .i64 ((rd_T54 l1 x15_1).f1)) := (q9 BK287.out 1).trans rfl; have hcz37_2 : w36.cell? ⟨gb287, 2, none⟩ = some (.int .i64 ((rd_T54 l1 x15_1).f2)) := (q9 BK287.out 2).trans rfl; have hfz37_0 := q11 BK287.out 0; have hfz37_1 := q11 BK287.out 1; have hfz37_2 := q11 BK287.out 2))
          go_roundg k1
          case measure => have := HK1.out; omega
          case rel => exact ⟨(x8_1), (wrap64 (x9_1 + 1)), (x10_1), (wrap64 (x15_1 + 1)), (by first | rfl | (simp; done) | (simp [*]; done)), (by first | rfl | (simp; done) | (simp [*]; done)), (by first | rfl | (simp; done) | (simp [*]; done)), H', ⟨by have := HK1.out; omega⟩, ⟨by (with_reducible repeat (first | apply Kd.V_alloc | apply Kd.V_drewN | apply Kd.V_drew)); exact q34 HO_0.out (fun _ hk => ⟨hk.1.1, hk.1.2⟩)⟩, ⟨by (with_reducible repeat (first | apply Kd.V_alloc | apply Kd.V_drewN | apply Kd.V_drew)); exact q34 HO_2.out (fun _ hk => ⟨hk.1.1, hk.1.2⟩)⟩, ⟨by (with_reducible repeat (first | apply Kd.N_alloc | apply Kd.N_drewN | apply Kd.N_drew)); exact Kd.N_mono HO_8.out (fun _ hk => hk.1)⟩, ⟨by repeat (first | (with_reducible first | exact HB.out | apply q3 | apply q4 | apply q5 | refine q6 ?_ GE287.out) | exact HB.out)⟩⟩
         ·rw [if_neg c33] at H
          have c33b0 : (((rd_T54 l1 x15_1).f0) == 1) = false := beq_eq_false_iff_ne.mpr c33
          have c33b1 : (((rd_T54 l1 x15_1).f0) != 1) = true := bne_iff_ne.mpr c33
          by_cases c38 : 0 ≤ x10_1
          ·rw [if_pos c38] at H
           have c38b0 : decide (0 ≤ x10_1) = true := decide_eq_true c38
           clear c38
           by_cases c39 : x10_1 < (l2.length : Int)
           ·rw [if_pos c39] at H
            have c39b0 : decide (x10_1 < (l2.length : Int)) = true := decide_eq_true c39
            clear c39
            replace H := Option.bind_eq_some_iff.mp H
            obtain ⟨⟨t306, t307⟩, A400, H⟩ := H
            replace H : (if x8_1.length < 4398046511104 then (compare_Apply.l0 k1 l0 l2 (x8_1 ++ [(⟨t306, t307⟩ : S24)]) x9_1 (wrap64 (x10_1 + 1)) l1 (l1.length : Int) (wrap64 (x15_1 + 1))) else (none)) = some (r1, r2) := H
            have A40 := q13 A400
            clear A400
            by_cases c41 : x8_1.length < 4398046511104
            ·rw [if_pos c41] at H
             have LMc41 := q13 c41
             clear c41
             obtain ⟨y310, hy310⟩ : ∃ y_ : List (S24), y_ = (x8_1 ++ [(⟨t306, t307⟩ : S24)]) := ⟨_, rfl⟩
             replace H : (compare_Apply.l0 k1 l0 l2 y310 x9_1 (wrap64 (x10_1 + 1)) l1 (l1.length : Int) (wrap64 (x15_1 + 1))) = some (r1, r2) := by first | (rw [hy310]; with_reducible exact H) | (have H2_ := (Option.bind_some _ _).symm.trans H; rw [hy310]; with_reducible exact H2_) | (have H2_ := (Option.bind_some _ _).symm.trans H; with_reducible exact H2_) | with_reducible exact H | (rw [hy310]; exact H) | exact H
             have Ny310 := q13 hy310
             clear hy310
             have H' := q13 H
             clear H
             have p286 : 0 ≤ (x15_1 : Int) := q15 (by assumption)
             have q286 : x15_1 < (l1.length : Int) := q15 (by assumption)
             obtain ⟨ad286, e286, hx286_0, hx286_1, hx286_2⟩ := at_T54 HR1.out x15_1 p286 q286
             cases e286
             replace hx286_0 := cl HB.out hx286_0
             replace hx286_1 := cl HB.out hx286_1
             replace hx286_2 := cl HB.out hx286_2
             replace p286 := eq_true p286
             replace q286 := eq_true q286
             go_wp2_with (first | ((with_reducible refine gate_dst (N := 12) rfl ?_); (try (refine gate_guard (by rfl) ?_; dsimp only)); refine box_event ?hg (N := 12) ?hd (cs := #[.int .i64 0, .int .i64 0, .int .i64 0]) (t := 54) ?hr ?_; (case hd => rfl); (case hg => rfl); (case hr => first | (go_simp; done) | (go_simp; rfl)); intro gb287 hg w42 hbox hb; have n0_ := q13 (Kd.V_below (Kd.V_elderB (gV HO_0) gb287 (Nat.le_of_eq hg.symm)) hb); have n1_ := q13 (Kd.V_below (Kd.V_elderB (gV HO_2) gb287 (Nat.le_of_eq hg.symm)) hb); have n2_ := q13 (Kd.N_below (Kd.N_elderB (gN HO_8) gb287 (Nat.le_of_eq hg.symm)) hb); have n3_ := q13 (q12 (gB HB) hb); have n4_ := q13 (hbox); have n5_ := q13 ((by rw [hg]; exact (q7 (gB HB)) : w.heap.size ≤ gb287)); have n6_ := q13 ((by rw [hg]; exact (q7 (gB HB)) : w.heap.size ≤ gb287)); clear HO_0; clear HO_2; clear HO_8; clear HB; have HO_0 := n0_; have HO_2 := n1_; have HO_8 := n2_; have HB := n3_; have BK287 := n4_; have GW287 := n5_; have GE287 := n6_; clear n0_ n1_ n2_ n3_ n4_ n5_ n6_; clear hb hbox hg; have hcz43_0 : w42.cell? ⟨gb287, 0, none⟩ = some (.int .i64 0) := (q9 BK287.out 0).trans rfl; have hcz43_1 : w42.cell? ⟨gb287, 1, none⟩ = some (.int .i64 0) := (q9 BK287.out 1).trans rfl; have hcz43_2 : w42.cell? ⟨gb287, 2, none⟩ = some (.int .i64 0) := (q9 BK287.out 2).trans rfl; have hfz43_0 := q11 BK287.out 0; have hfz43_1 := q11 BK287.out 1; have hfz43_2 := q11 BK287.out 2) | ((with_reducible refine gate_callee (f := 35) rfl ?_); refine goesL_ (some 24) rfl rfl Try.func35 (by kernel_rfl) rfl #[.agg #[.int .i64 ((rd_T54 l1 x15_1).f0), .int .i64 ((rd_T54 l1 x15_1).f1), .int .i64 ((rd_T54 l1 x15_1).f2)], .slice A0 l0.length c0, .slice A2 l2.length c2, .int .i64 x9_1, .int .i64 x10_1] rfl (by (try simp only [List.map_toArray, List.map_cons, List.map_nil]); first | done | rfl | (simp only [List.length_drop, List.length_take]; rfl)) ?_; (with_reducible refine (compare_fits.calls k1 ((rd_T54 l1 x15_1).f0) ((rd_T54 l1 x15_1).f1) ((rd_T54 l1 x15_1).f2) _ _ l0 _ _ l2 x9_1 x10_1 true _ ?side1 ?side2 ?side3 ?side4 A7.out).mono ?_); (case side1 => refine (Kd.V_reads' (e := 24) (base := w.heap.size) (ok := fun k_ => ((((P0_ k_ ∨ P2_ k_) ∨ w.heap.size ≤ k_) ∧ some k_ ≠ (u8 : Value).ownBlock) ∧ k_ ≠ gb287)) (n := l0.length) (c := c0) ?_).2.2; exact (by (with_reducible repeat (first | apply Kd.V_alloc | apply Kd.V_drewN | apply Kd.V_drew)); exact (q34 (Kd.V_far (p := ⟨gb287, 2, none⟩) (Kd.V_far (p := ⟨gb287, 1, none⟩) (Kd.V_far (p := ⟨gb287, 0, none⟩) (q34 HO_0.out (fun k_ hk => (⟨hk, hk.2⟩ : _ ∧ k_ ≠ gb287))) (fun _ hk => hk.2) (.int .i64 ((rd_T54 l1 x15_1).f0))) (fun _ hk => hk.2) (.int .i64 ((rd_T54 l1 x15_1).f1))) (fun _ hk => hk.2) (.int .i64 ((rd_T54 l1 x15_1).f2))) (fun _ h_ => h_.1)))); (case side2 => exact (Kd.V_reads' HO_0.out).2.1); (case side3 => refine (Kd.V_reads' (e := 24) (base := w.heap.size) (ok := fun k_ => ((((P0_ k_ ∨ P2_ k_) ∨ w.heap.size ≤ k_) ∧ some k_ ≠ (u8 : Value).ownBlock) ∧ k_ ≠ gb287)) (n := l2.length) (c := c2) ?_).2.2; exact (by (with_reducible repeat (first | apply Kd.V_alloc | apply Kd.V_drewN | apply Kd.V_drew)); exact (q34 (Kd.V_far (p := ⟨gb287, 2, none⟩) (Kd.V_far (p := ⟨gb287, 1, none⟩) (Kd.V_far (p := ⟨gb287, 0, none⟩) (q34 HO_2.out (fun k_ hk => (⟨hk, hk.2⟩ : _ ∧ k_ ≠ gb287))) (fun _ hk => hk.2) (.int .i64 ((rd_T54 l1 x15_1).f0))) (fun _ hk => hk.2) (.int .i64 ((rd_T54 l1 x15_1).f1))) (fun _ hk => hk.2) (.int .i64 ((rd_T54 l1 x15_1).f2))) (fun _ h_ => h_.1)))); (case side4 => exact (Kd.V_reads' HO_2.out).2.1); rintro e w44 ⟨rfl, hb⟩; refine ⟨_, rfl, ?_⟩; have n0_ := q13 (Kd.V_below (by (with_reducible repeat (first | apply Kd.V_alloc | apply Kd.V_drewN | apply Kd.V_drew)); exact (q34 (Kd.V_far (p := ⟨gb287, 2, none⟩) (Kd.V_far (p := ⟨gb287, 1, none⟩) (Kd.V_far (p := ⟨gb287, 0, none⟩) (q34 HO_0.out (fun k_ hk => (⟨hk, hk.2⟩ : _ ∧ k_ ≠ gb287))) (fun _ hk => hk.2) (.int .i64 ((rd_T54 l1 x15_1).f0))) (fun _ hk => hk.2) (.int .i64 ((rd_T54 l1 x15_1).f1))) (fun _ hk => hk.2) (.int .i64 ((rd_T54 l1 x15_1).f2))) (fun _ h_ => h_.1))) hb); have n1_ := q13 (Kd.V_below (by (with_reducible repeat (first | apply Kd.V_alloc | apply Kd.V_drewN | apply Kd.V_drew)); exact (q34 (Kd.V_far (p := ⟨gb287, 2, none⟩) (Kd.V_far (p := ⟨gb287, 1, none⟩) (Kd.V_far (p := ⟨gb287, 0, none⟩) (q34 HO_2.out (fun k_ hk => (⟨hk, hk.2⟩ : _ ∧ k_ ≠ gb287))) (fun _ hk => hk.2) (.int .i64 ((rd_T54 l1 x15_1).f0))) (fun _ hk => hk.2) (.int .i64 ((rd_T54 l1 x15_1).f1))) (fun _ hk => hk.2) (.int .i64 ((rd_T54 l1 x15_1).f2))) (fun _ h_ => h_.1))) hb); have n2_ := q13 (Kd.N_below (by (with_reducible repeat (first | apply Kd.N_alloc | apply Kd.N_drewN | apply Kd.N_drew)); exact (Kd.N_mono (Kd.N_far (p := ⟨gb287, 2, none⟩) (Kd.N_far (p := ⟨gb287, 1, none⟩) (Kd.N_far (p := ⟨gb287, 0, none⟩) (Kd.N_mono HO_8.out (fun k_ hk => (⟨hk, hk.2⟩ : _ ∧ k_ ≠ gb287))) (fun _ hk => hk.2) (.int .i64 ((rd_T54 l1 x15_1).f0))) (fun _ hk => hk.2) (.int .i64 ((rd_T54 l1 x15_1).f1))) (fun _ hk => hk.2) (.int .i64 ((rd_T54 l1 x15_1).f2))) (fun _ h_ => h_.1))) hb); have n3_ := q13 (q8 (g := gb287) (o := .cells #[.int .i64 ((rd_T54 l1 x15_1).f0), .int .i64 ((rd_T54 l1 x15_1).f1), .int .i64 ((rd_T54 l1 x15_1).f2)] 54 (0, 0)) (by (with_reducible repeat (first | refine q0 ?_ _ | refine q1 ?_ | refine q2 ?_ _)); refine blk_put (cs := #[.int .i64 ((rd_T54 l1 x15_1).f0), .int .i64 ((rd_T54 l1 x15_1).f1), .int .i64 0]) ?_ 2 _ rfl; (with_reducible repeat (first | refine q0 ?_ _ | refine q1 ?_ | refine q2 ?_ _)); refine blk_put (cs := #[.int .i64 ((rd_T54 l1 x15_1).f0), .int .i64 0, .int .i64 0]) ?_ 1 _ rfl; (with_reducible repeat (first | refine q0 ?_ _ | refine q1 ?_ | refine q2 ?_ _)); refine blk_put (cs := #[.int .i64 0, .int .i64 0, .int .i64 0]) ?_ 0 _ rfl; (with_reducible repeat (first | refine q0 ?_ _ | refine q1 ?_ | refine q2 ?_ _)); exact BK287.out) hb); have n4_ := q13 (q12 (by repeat (first | (with_reducible first | exact HB.out | apply q3 | apply q4 | apply q5 | refine q6 ?_ GE287.out) | exact HB.out)) hb); clear HO_0; clear HO_2; clear HO_8; clear BK287; clear HB; have HO_0 := n0_; have HO_2 := n1_; have HO_8 := n2_; have BK287 := n3_; have HB := n4_; clear n0_ n1_ n2_ n3_ n4_; (try clear hb); (try clear hb2); (try clear hk); (try clear hi); have hcz45_0 : w44.cell? ⟨gb287, 0, none⟩ = some (.int .i64 ((rd_T54 l1 x15_1).f0)) := (q9 BK287.out 0).trans rfl; have hcz45_1 : w44.cell? ⟨gb287, 1, none⟩ = some (.int .i64 ((rd_T54 l1 x15_1).f1)) := (q9 BK287.out 1).trans rfl; have hcz45_2 : w44.cell? ⟨gb287, 2, none⟩ = some (.int .i64 ((rd_T54 l1 x15_1).f2)) := (q9 BK287.out 2).trans rfl; have hfz45_0 := q11 BK287.out 0; have hfz45_1 := q11 BK287.out 1; have hfz45_2 := q11 BK287.out 2; have p305 : 0 ≤ (x10_1 : Int) := q15 (by assumption); have q305 : x10_1 < (l2.length : Int) := q15 (by assumption); obtain ⟨ad305, A305_1, c305_1, e305, hx305_0, hx305_1, hl305_1, hi305_1⟩ := at_T24 (Kd.V_reads' HO_2.out).2.2 x10_1 p305 q305; cases e305; obtain ⟨ce305, hce305, hMe305, hcc305⟩ := Kd.V_get HO_2.out z24 x10_1 p305 (by first | exact q305 | exact q15 (by assumption) | (have e_ := (Kd.V_reads' HO_2.out).1; omega)); obtain ⟨ua305_1, uc305_1, rfl, ul305_1, ge305_1⟩ := k24_openF hMe305; have hv305_1 := hcc305 1 _ rfl; rw [add_field _ _ 1 (by omega)] at hv305_1; replace hv305_1 := Option.some.inj (hv305_1.symm.trans hx305_1); injection hv305_1 with hva_ hvn_ hvc_; rw [hva_] at ge305_1; rw [hvc_] at ul305_1; have HL305_1 := q13 (show Kd.V k69 69 _ w.heap.size _ _ ((rd_T24 l2 x10_1).f1) from Kd.V_mk ul305_1 ge305_1); clear hva_ hvn_ hvc_ ge305_1 ul305_1; clear hcc305 hce305; have HR305_1 := q13 hi305_1; have HC305_1 := q13 hl305_1; clear hi305_1 hl305_1; replace p305 := eq_true p305; replace q305 := eq_true q305) | ((with_reducible refine gate_callee (f := 36) rfl ?_); refine goesL_ (some 33) rfl rfl Try.func36 (by kernel_rfl) rfl #[.agg #[.int .i64 ((rd_T24 l2 x10_1).f0), .slice A305_1 ((rd_T24 l2 x10_1).f1).length c305_1]] rfl (by (try simp only [List.map_toArray, List.map_cons, List.map_nil]); first | done | rfl | (simp only [List.length_drop, List.length_take]; rfl)) ?_; (with_reducible refine (compare_ownPage.calls k1 ((rd_T24 l2 x10_1).f0) (fun k_ => ((((P0_ k_ ∨ P2_ k_) ∨ w.heap.size ≤ k_) ∧ some k_ ≠ (u8 : Value).ownBlock) ∧ k_ ≠ gb287)) _ _ ((rd_T24 l2 x10_1).f1) t306 t307 _ ?side1 A40.out).mono ?_); (case side1 => exact HL305_1.out); rintro e w46 ⟨v308, rfl, ho0, hb⟩; refine ⟨_, rfl, ?_⟩; have n0_ := q13 (Kd.V_elder' (gV HO_0) (by first | exact Kd.N_base ho0 | exact Kd.R_base ho0) hb); have n1_ := q13 (Kd.V_elder' (gV HO_2) (by first | exact Kd.N_base ho0 | exact Kd.R_base ho0) hb); have n2_ := q13 (Kd.N_elder' (gN HO_8) (by first | exact Kd.N_base ho0 | exact Kd.R_base ho0) hb); have n3_ := q13 (Kd.V_elder' (gV HL305_1) (by first | exact Kd.N_base ho0 | exact Kd.R_base ho0) hb); have n4_ := q13 (Kd.N_lower (Kd.N_mono (ok' := fun k_ => ((P0_ k_ ∨ P2_ k_) ∨ w.heap.size ≤ k_) ∧ some k_ ≠ (u8 : Value).ownBlock ∧ k_ ≠ gb287) ho0 (fun k_ hk_ => ⟨Or.elim hk_ (fun hs_ => hs_.1.1) (fun hn_ => (.inr (Nat.le_trans (q7 (by repeat (first | (with_reducible first | exact HB.out | apply q3 | apply q4 | apply q5 | refine q6 ?_ GE287.out) | exact HB.out))) hn_))), Or.elim hk_ (fun hs_ => hs_.1.2) (fun hn_ => (Kd.fresh' (Kd.N_lt (gN HO_8)) k_ hn_)), Or.elim hk_ (fun hs_ => hs_.2) (fun hn_ => (Kd.freshB (g := gb287) (o := .cells #[.int .i64 ((rd_T54 l1 x15_1).f0), .int .i64 ((rd_T54 l1 x15_1).f1), .int .i64 ((rd_T54 l1 x15_1).f2)] 54 (0, 0)) (gK BK287) k_ hn_))⟩)) (q7 (by repeat (first | (with_reducible first | exact HB.out | apply q3 | apply q4 | apply q5 | refine q6 ?_ GE287.out) | exact HB.out)))); have n5_ := q13 (q8 (g := gb287) (o := .cells #[.int .i64 ((rd_T54 l1 x15_1).f0), .int .i64 ((rd_T54 l1 x15_1).f1), .int .i64 ((rd_T54 l1 x15_1).f2)] 54 (0, 0)) (gK BK287) hb); have n6_ := q13 (Kd.C_below (by repeat (first | (with_reducible exact HR305_1.out) | (with_reducible refine q18 ?_ _) | (with_reducible refine q19 ?_ _) | (with_reducible refine q20 ?_) | exact HR305_1.out)) hb); have n7_ := q13 (q12 (by repeat (first | (with_reducible first | exact HB.out | apply q3 | apply q4 | apply q5 | refine q6 ?_ GE287.out) | exact HB.out)) hb); clear HO_0; clear HO_2; clear HO_8; clear HL305_1; clear BK287; clear HR305_1; clear HB; have HO_0 := n0_; have HO_2 := n1_; have HO_8 := n2_; have HL305_1 := n3_; have HO309 := n4_; have BK287 := n5_; have HR305_1 := n6_; have HB := n7_; clear n0_ n1_ n2_ n3_ n4_ n5_ n6_ n7_; (try clear hb); (try clear hb2); (try clear hk); (try clear hi); (try clear ho0); obtain ⟨Ao48, co48, eo48⟩ := Kd.N_slice HO309.out; subst eo48) | ((with_reducible refine gate_builtin (b := .append) (xs := #[.tmp 28, .tmp 34]) rfl ?_); (try (refine gate_guard (by rfl) ?_; dsimp only)); at_builtin; refine Kd.N_append k24 (w0 := w) w.heap.size rfl (.tmp 28) (.tmp 34) 26 24 (.agg #[(.int .i64 0), (.slice none 0 0)]) 32 rfl Try.underlying26 info24 rfl (by decide) (by omega) u8 x8_1 (⟨t306, t307⟩ : S24) [.int .i64 t306, .slice Ao48 t307.length co48] (fun k_ => ((P0_ k_ ∨ P2_ k_) ∨ w.heap.size ≤ k_) ∧ k_ ≠ gb287) (fun k_ => ((fun k_ => ((P0_ k_ ∨ P2_ k_) ∨ w.heap.size ≤ k_) ∧ k_ ≠ gb287)) k_ ∧ some k_ ≠ (u8 : Value).ownBlock) rfl rfl ?aP (fun _ hk => hk) ?aF ?aO ?aB ?aS ?aL ?_; (case aP => exact (k24_mkF _ _ (⟨t306, t307⟩ : S24) (Kd.N_reads' (Kd.N_mono (ok' := (fun k_ => ((fun k_ => ((P0_ k_ ∨ P2_ k_) ∨ w.heap.size ≤ k_) ∧ k_ ≠ gb287)) k_ ∧ some k_ ≠ (u8 : Value).ownBlock)) (HO309.out) (fun k_ hk => ⟨⟨hk.1, hk.2.2⟩, hk.2.1⟩))).2.1 (Kd.N_F (Kd.N_mono (ok' := (fun k_ => ((fun k_ => ((P0_ k_ ∨ P2_ k_) ∨ w.heap.size ≤ k_) ∧ k_ ≠ gb287)) k_ ∧ some k_ ≠ (u8 : Value).ownBlock)) (HO309.out) (fun k_ hk => ⟨⟨hk.1, hk.2.2⟩, hk.2.1⟩))))); (case aB => exact (by repeat (first | (with_reducible first | exact HB.out | apply q3 | apply q4 | apply q5 | refine q6 ?_ GE287.out) | exact HB.out))); (case aF => exact (fun k_ hk => ⟨(.inr (Nat.le_trans (q7 (by repeat (first | (with_reducible first | exact HB.out | apply q3 | apply q4 | apply q5 | refine q6 ?_ GE287.out) | exact HB.out))) hk)), Kd.freshB (g := gb287) (o := .cells #[.int .i64 ((rd_T54 l1 x15_1).f0), .int .i64 ((rd_T54 l1 x15_1).f1), .int .i64 ((rd_T54 l1 x15_1).f2)] 54 (0, 0)) (gK BK287) k_ hk⟩)); (case aO => exact (by (with_reducible repeat (first | apply Kd.N_alloc | apply Kd.N_drewN | apply Kd.N_drew)); exact Kd.N_mono HO_8.out (fun _ hk => ⟨hk.1.1, hk.1.2⟩))); (case aS => exact (q7 (by repeat (first | (with_reducible first | exact HB.out | apply q3 | apply q4 | apply q5 | refine q6 ?_ GE287.out) | exact HB.out)))); (case aL => have := LMc41.out; omega); intro v311 w47 ho hb hg hat; rw [← Ny310.out] at ho; have n0_ := q13 (Kd.V_afterv (ok := (fun k_ => ((P0_ k_ ∨ P2_ k_) ∨ w.heap.size ≤ k_) ∧ some k_ ≠ (.slice Ao48 t307.length co48 : Value).ownBlock ∧ k_ ≠ gb287)) (by (with_reducible repeat (first | apply Kd.V_alloc | apply Kd.V_drewN | apply Kd.V_drew)); exact q34 HO_0.out (fun _ hk => ⟨⟨hk.1.1.1, ⟨hk.2, hk.1.2⟩⟩, hk.1.1.2⟩)) hg hat); have n1_ := q13 (Kd.V_afterv (ok := (fun k_ => ((P0_ k_ ∨ P2_ k_) ∨ w.heap.size ≤ k_) ∧ some k_ ≠ (.slice Ao48 t307.length co48 : Value).ownBlock ∧ k_ ≠ gb287)) (by (with_reducible repeat (first | apply Kd.V_alloc | apply Kd.V_drewN | apply Kd.V_drew)); exact q34 HO_2.out (fun _ hk => ⟨⟨hk.1.1.1, ⟨hk.2, hk.1.2⟩⟩, hk.1.1.2⟩)) hg hat); have n2_ := q13 (blk_grown (g := gb287) (o := .cells #[.int .i64 ((rd_T54 l1 x15_1).f0), .int .i64 ((rd_T54 l1 x15_1).f1), .int .i64 ((rd_T54 l1 x15_1).f2)] 54 (0, 0)) (gK BK287) hg (Kd.N_ne HO_8.out BK287.out (by decide))); have n3_ := q13 (Kd.V_afterv (ok := (fun k_ => ((P0_ k_ ∨ P2_ k_) ∨ w.heap.size ≤ k_) ∧ some k_ ≠ (.slice Ao48 t307.length co48 : Value).ownBlock ∧ k_ ≠ gb287)) (by (with_reducible repeat (first | apply Kd.V_alloc | apply Kd.V_drewN | apply Kd.V_drew)); exact q34 HL305_1.out (fun _ hk => ⟨⟨hk.1.1.1, ⟨hk.2, hk.1.2⟩⟩, hk.1.1.2⟩)) hg hat); have n4_ := q13 (hb); have n5_ := q13 (ho); clear HO_0; clear HO_2; clear BK287; clear HL305_1; clear HB; clear HO_8; clear HO309; have HO_0 := n0_; have HO_2 := n1_; have BK287 := n2_; have HL305_1 := n3_; have HB := n4_; have HO312 := n5_; clear n0_ n1_ n2_ n3_ n4_ n5_; clear ho hb hg hat))
             go_roundg k1
             case measure => have := HK1.out; omega
             case rel => exact ⟨(y310), (x9_1), (wrap64 (x10_1 + 1)), (wrap64 (x15_1 + 1)), (by first | rfl | (simp; done) | (simp [*]; done)), (by first | rfl | (simp; done) | (simp [*]; done)), (by first | rfl | (simp; done) | (simp [*]; done)), H', ⟨by have := HK1.out; omega⟩, ⟨by (with_reducible repeat (first | apply Kd.V_alloc | apply Kd.V_drewN | apply Kd.V_drew)); exact q34 HO_0.out (fun _ hk => ⟨hk.1.1, hk.2⟩)⟩, ⟨by (with_reducible repeat (first | apply Kd.V_alloc | apply Kd.V_drewN | apply Kd.V_drew)); exact q34 HO_2.out (fun _ hk => ⟨hk.1.1, hk.2⟩)⟩, ⟨by (with_reducible repeat (first | apply Kd.N_alloc | apply Kd.N_drewN | apply Kd.N_drew)); exact Kd.N_mono HO312.out (fun _ hk => hk.1)⟩, ⟨by repeat (first | (with_reducible first | exact HB.out | apply q3 | apply q4 | apply q5 | refine q6 ?_ GE287.out) | exact HB.out)⟩⟩
            ·rw [if_neg c41] at H
             exact absurd H (by simp)
           ·rw [if_neg c39] at H
            exact absurd H (by simp)
          ·rw [if_neg c38] at H
           exact absurd H (by simp)
      ·replace c8 := Bool.eq_false_iff.mpr c8
       subst c8
       have H1 : (some (([] : List (S24)), 1)) = some (r1, r2) := by rw [if_neg (show ¬ (false = true) by decide)] at H; exact H
       clear H
       have H := H1
       clear H1
       simp only [Option.some.injEq, Prod.mk.injEq] at H
       obtain ⟨rfl, rfl⟩ := H
       have p286 : 0 ≤ (x15_1 : Int) := q15 (by assumption)
       have q286 : x15_1 < (l1.length : Int) := q15 (by assumption)
       obtain ⟨ad286, e286, hx286_0, hx286_1, hx286_2⟩ := at_T54 HR1.out x15_1 p286 q286
       cases e286
       replace hx286_0 := cl HB.out hx286_0
       replace hx286_1 := cl HB.out hx286_1
       replace hx286_2 := cl HB.out hx286_2
       replace p286 := eq_true p286
       replace q286 := eq_true q286
       go_wp2_with (first | ((with_reducible refine gate_dst (N := 12) rfl ?_); (try (refine gate_guard (by rfl) ?_; dsimp only)); refine box_event ?hg (N := 12) ?hd (cs := #[.int .i64 0, .int .i64 0, .int .i64 0]) (t := 54) ?hr ?_; (case hd => rfl); (case hg => rfl); (case hr => first | (go_simp; done) | (go_simp; rfl)); intro gb287 hg w49 hbox hb; have n0_ := q13 (Kd.V_below (Kd.V_elderB (gV HO_0) gb287 (Nat.le_of_eq hg.symm)) hb); have n1_ := q13 (Kd.V_below (Kd.V_elderB (gV HO_2) gb287 (Nat.le_of_eq hg.symm)) hb); have n2_ := q13 (Kd.N_below (Kd.N_elderB (gN HO_8) gb287 (Nat.le_of_eq hg.symm)) hb); have n3_ := q13 (q12 (gB HB) hb); have n4_ := q13 (hbox); have n5_ := q13 ((by rw [hg]; exact (q7 (gB HB)) : w.heap.size ≤ gb287)); have n6_ := q13 ((by rw [hg]; exact (q7 (gB HB)) : w.heap.size ≤ gb287)); clear HO_0; clear HO_2; clear HO_8; clear HB; have HO_0 := n0_; have HO_2 := n1_; have HO_8 := n2_; have HB := n3_; have BK287 := n4_; have GW287 := n5_; have GE287 := n6_; clear n0_ n1_ n2_ n3_ n4_ n5_ n6_; clear hb hbox hg; have hcz50_0 : w49.cell? ⟨gb287, 0, none⟩ = some (.int .i64 0) := (q9 BK287.out 0).trans rfl; have hcz50_1 : w49.cell? ⟨gb287, 1, none⟩ = some (.int .i64 0) := (q9 BK287.out 1).trans rfl; have hcz50_2 : w49.cell? ⟨gb287, 2, none⟩ = some (.int .i64 0) := (q9 BK287.out 2).trans rfl; have hfz50_0 := q11 BK287.out 0; have hfz50_1 := q11 BK287.out 1; have hfz50_2 := q11 BK287.out 2) | ((with_reducible refine gate_callee (f := 35) rfl ?_); refine goesL_ (some 24) rfl rfl Try.func35 (by kernel_rfl) rfl #[.agg #[.int .i64 ((rd_T54 l1 x15_1).f0), .int .i64 ((rd_T54 l1 x15_1).f1), .int .i64 ((rd_T54 l1 x15_1).f2)], .slice A0 l0.length c0, .slice A2 l2.length c2, .int .i64 x9_1, .int .i64 x10_1] rfl (by (try simp only [List.map_toArray, List.map_cons, List.map_nil]); first | done | rfl | (simp only [List.length_drop, List.length_take]; rfl)) ?_; (with_reducible refine (compare_fits.calls k1 ((rd_T54 l1 x15_1).f0) ((rd_T54 l1 x15_1).f1) ((rd_T54 l1 x15_1).f2) _ _ l0 _ _ l2 x9_1 x10_1 false _ ?side1 ?side2 ?side3 ?side4 A7.out).mono ?_); (case side1 => refine (Kd.V_reads' (e := 24) (base := w.heap.size) (ok := fun k_ => ((((P0_ k_ ∨ P2_ k_) ∨ w.heap.size ≤ k_) ∧ some k_ ≠ (u8 : Value).ownBlock) ∧ k_ ≠ gb287)) (n := l0.length) (c := c0) ?_).2.2; exact (by (with_reducible repeat (first | apply Kd.V_alloc | apply Kd.V_drewN | apply Kd.V_drew)); exact (q34 (Kd.V_far (p := ⟨gb287, 2, none⟩) (Kd.V_far (p := ⟨gb287, 1, none⟩) (Kd.V_far (p := ⟨gb287, 0, none⟩) (q34 HO_0.out (fun k_ hk => (⟨hk, hk.2⟩ : _ ∧ k_ ≠ gb287))) (fun _ hk => hk.2) (.int .i64 ((rd_T54 l1 x15_1).f0))) (fun _ hk => hk.2) (.int .i64 ((rd_T54 l1 x15_1).f1))) (fun _ hk => hk.2) (.int .i64 ((rd_T54 l1 x15_1).f2))) (fun _ h_ => h_.1)))); (case side2 => exact (Kd.V_reads' HO_0.out).2.1); (case side3 => refine (Kd.V_reads' (e := 24) (base := w.heap.size) (ok := fun k_ => ((((P0_ k_ ∨ P2_ k_) ∨ w.heap.size ≤ k_) ∧ some k_ ≠ (u8 : Value).ownBlock) ∧ k_ ≠ gb287)) (n := l2.length) (c := c2) ?_).2.2; exact (by (with_reducible repeat (first | apply Kd.V_alloc | apply Kd.V_drewN | apply Kd.V_drew)); exact (q34 (Kd.V_far (p := ⟨gb287, 2, none⟩) (Kd.V_far (p := ⟨gb287, 1, none⟩) (Kd.V_far (p := ⟨gb287, 0, none⟩) (q34 HO_2.out (fun k_ hk => (⟨hk, hk.2⟩ : _ ∧ k_ ≠ gb287))) (fun _ hk => hk.2) (.int .i64 ((rd_T54 l1 x15_1).f0))) (fun _ hk => hk.2) (.int .i64 ((rd_T54 l1 x15_1).f1))) (fun _ hk => hk.2) (.int .i64 ((rd_T54 l1 x15_1).f2))) (fun _ h_ => h_.1)))); (case side4 => exact (Kd.V_reads' HO_2.out).2.1); rintro e w51 ⟨rfl, hb⟩; refine ⟨_, rfl, ?_⟩; have n0_ := q13 (Kd.V_below (by (with_reducible repeat (first | apply Kd.V_alloc | apply Kd.V_drewN | apply Kd.V_drew)); exact (q34 (Kd.V_far (p := ⟨gb287, 2, none⟩) (Kd.V_far (p := ⟨gb287, 1, none⟩) (Kd.V_far (p := ⟨gb287, 0, none⟩) (q34 HO_0.out (fun k_ hk => (⟨hk, hk.2⟩ : _ ∧ k_ ≠ gb287))) (fun _ hk => hk.2) (.int .i64 ((rd_T54 l1 x15_1).f0))) (fun _ hk => hk.2) (.int .i64 ((rd_T54 l1 x15_1).f1))) (fun _ hk => hk.2) (.int .i64 ((rd_T54 l1 x15_1).f2))) (fun _ h_ => h_.1))) hb); have n1_ := q13 (Kd.V_below (by (with_reducible repeat (first | apply Kd.V_alloc | apply Kd.V_drewN | apply Kd.V_drew)); exact (q34 (Kd.V_far (p := ⟨gb287, 2, none⟩) (Kd.V_far (p := ⟨gb287, 1, none⟩) (Kd.V_far (p := ⟨gb287, 0, none⟩) (q34 HO_2.out (fun k_ hk => (⟨hk, hk.2⟩ : _ ∧ k_ ≠ gb287))) (fun _ hk => hk.2) (.int .i64 ((rd_T54 l1 x15_1).f0))) (fun _ hk => hk.2) (.int .i64 ((rd_T54 l1 x15_1).f1))) (fun _ hk => hk.2) (.int .i64 ((rd_T54 l1 x15_1).f2))) (fun _ h_ => h_.1))) hb); have n2_ := q13 (Kd.N_below (by (with_reducible repeat (first | apply Kd.N_alloc | apply Kd.N_drewN | apply Kd.N_drew)); exact (Kd.N_mono (Kd.N_far (p := ⟨gb287, 2, none⟩) (Kd.N_far (p := ⟨gb287, 1, none⟩) (Kd.N_far (p := ⟨gb287, 0, none⟩) (Kd.N_mono HO_8.out (fun k_ hk => (⟨hk, hk.2⟩ : _ ∧ k_ ≠ gb287))) (fun _ hk => hk.2) (.int .i64 ((rd_T54 l1 x15_1).f0))) (fun _ hk => hk.2) (.int .i64 ((rd_T54 l1 x15_1).f1))) (fun _ hk => hk.2) (.int .i64 ((rd_T54 l1 x15_1).f2))) (fun _ h_ => h_.1))) hb); have n3_ := q13 (q8 (g := gb287) (o := .cells #[.int .i64 ((rd_T54 l1 x15_1).f0), .int .i64 ((rd_T54 l1 x15_1).f1), .int .i64 ((rd_T54 l1 x15_1).f2)] 54 (0, 0)) (by (with_reducible repeat (first | refine q0 ?_ _ | refine q1 ?_ | refine q2 ?_ _)); refine blk_put (cs := #[.int .i64 ((rd_T54 l1 x15_1).f0), .int .i64 ((rd_T54 l1 x15_1).f1), .int .i64 0]) ?_ 2 _ rfl; (with_reducible repeat (first | refine q0 ?_ _ | refine q1 ?_ | refine q2 ?_ _)); refine blk_put (cs := #[.int .i64 ((rd_T54 l1 x15_1).f0), .int .i64 0, .int .i64 0]) ?_ 1 _ rfl; (with_reducible repeat (first | refine q0 ?_ _ | refine q1 ?_ | refine q2 ?_ _)); refine blk_put (cs := #[.int .i64 0, .int .i64 0, .int .i64 0]) ?_ 0 _ rfl; (with_reducible repeat (first | refine q0 ?_ _ | refine q1 ?_ | refine q2 ?_ _)); exact BK287.out) hb); have n4_ := q13 (q12 (by repeat (first | (with_reducible first | exact HB.out | apply q3 | apply q4 | apply q5 | refine q6 ?_ GE287.out) | exact HB.out)) hb); clear HO_0; clear HO_2; clear HO_8; clear BK287; clear HB; have HO_0 := n0_; have HO_2 := n1_; have HO_8 := n2_; have BK287 := n3_; have HB := n4_; clear n0_ n1_ n2_ n3_ n4_; (try clear hb); (try clear hb2); (try clear hk); (try clear hi)))
       go_ret2
       exact ⟨_, by first | rfl | (simp [errW_none, errW_some] <;> rfl) | (simp [*, errW_none, errW_some] <;> rfl), by first | exact Kd.R_nil _ _ _ _ _ | exact Kd.N_nil _ _ _ _ _ | exact Kd.V_nil _ _ _ _ _ | exact Kd.Q_nil _ _ _ _ _ | exact Kd.S_nil _ _ _ _ _, by repeat (first | (with_reducible first | exact HB.out | apply q3 | apply q4 | apply q5 | refine q6 ?_ GE287.out) | exact HB.out)⟩
     ·rw [if_neg c6] at H
      exact absurd H (by simp)
    ·rw [if_neg c5] at H
     exact absurd H (by simp)
   ·rw [if_neg c4] at H
    have c4b0 : decide (x15_1 < (l1.length : Int)) = false := decide_eq_false c4
    clear c4
    have HC52 := q13 H
    clear H
    go_upto_region 20 with (fail)
    go_cut [71] (fun v71 wc => ∃ (kq : Nat) (x71_51 : Bool), v71 = .bool x71_51 ∧ Aside0 (compare_Apply.j1 kq l0 l2 x8_1 x71_51 = some (r1, r2)) ∧ Aside0 (kq ≤ k1) ∧ Aside0 (Kd.V k24 24 wc w.heap.size (fun k_ => ((P0_ k_ ∨ P2_ k_) ∨ w.heap.size ≤ k_) ∧ some k_ ≠ (u8 : Value).ownBlock) (.slice A0 l0.length c0) l0) ∧ Aside0 (Kd.V k24 24 wc w.heap.size (fun k_ => ((P0_ k_ ∨ P2_ k_) ∨ w.heap.size ≤ k_) ∧ some k_ ≠ (u8 : Value).ownBlock) (.slice A2 l2.length c2) l2) ∧ Aside0 (Kd.N k24 24 wc w.heap.size (fun k_ => ((P0_ k_ ∨ P2_ k_) ∨ w.heap.size ≤ k_)) u8 x8_1) ∧ Aside0 (Below w.heap.size w wc))
    case first =>
     have H := HC52.out
     clear HC52
     by_cases c53 : x9_1 = (l0.length : Int)
     ·rw [if_pos c53] at H
      have c53b0 : (x9_1 == (l0.length : Int)) = true := beq_iff_eq.mpr c53
      have c53b1 : (x9_1 != (l0.length : Int)) = false := bne_eq_false_iff_eq.mpr c53
      clear c53
      (first | rw [c53b0] | (simp only [i64_w, i32_w]; rw [c53b0]) | skip)
      have H' := q13 H
      clear H
      go_wp2
      go_meet
      case rel => exact ⟨_, ((x10_1 != (l2.length : Int))), (by first | rfl | (simp; done) | (simp [*]; done)), H', ⟨by have := HK1.out; first | omega | exact q17 _⟩, ⟨by (with_reducible repeat (first | apply Kd.V_alloc | apply Kd.V_drewN | apply Kd.V_drew)); exact HO_0.out⟩, ⟨by (with_reducible repeat (first | apply Kd.V_alloc | apply Kd.V_drewN | apply Kd.V_drew)); exact HO_2.out⟩, ⟨by (with_reducible repeat (first | apply Kd.N_alloc | apply Kd.N_drewN | apply Kd.N_drew)); exact HO_8.out⟩, ⟨gB HB⟩⟩
     ·rw [if_neg c53] at H
      have c53b0 : (x9_1 == (l0.length : Int)) = false := beq_eq_false_iff_ne.mpr c53
      have c53b1 : (x9_1 != (l0.length : Int)) = true := bne_iff_ne.mpr c53
      (first | rw [c53b0] | (simp only [i64_w, i32_w]; rw [c53b0]) | skip)
      have H' := q13 H
      clear H
      go_wp2
      go_meet
      case rel => exact ⟨_, (true), (by first | rfl | (simp; done) | (simp [*]; done)), H', ⟨by have := HK1.out; first | omega | exact q17 _⟩, ⟨by (with_reducible repeat (first | apply Kd.V_alloc | apply Kd.V_drewN | apply Kd.V_drew)); exact HO_0.out⟩, ⟨by (with_reducible repeat (first | apply Kd.V_alloc | apply Kd.V_drewN | apply Kd.V_drew)); exact HO_2.out⟩, ⟨by (with_reducible repeat (first | apply Kd.N_alloc | apply Kd.N_drewN | apply Kd.N_drew)); exact HO_8.out⟩, ⟨gB HB⟩⟩
    case rest =>
     clear HC52
     try clear c1
     try clear c2
     try clear p2
     try clear q2
     try clear hx2
     try clear c3
     try clear p3
     try clear q3
     try clear hx3
     try clear c4
     try clear c4b0
     try clear c5
     try clear c5b0
     try clear c6
     try clear c6b0
     try clear p6
     try clear c8
     try clear c9
     try clear c9b0
     try clear c9b1
     try clear c10
     try clear c10b0
     try clear c11
     try clear c11b0
     try clear c13
     try clear c21
     try clear c21b0
     try clear c21b1
     try clear c22
     try clear c22b0
     try clear c23
     try clear c23b0
     try clear c25
     try clear c28
     try clear p28
     try clear q28
     try clear hx28
     try clear c29
     try clear p29
     try clear q29
     try clear hx29
     try clear c30
     try clear p30
     try clear q30
     try clear hx30
     try clear c33
     try clear c33b0
     try clear c33b1
     try clear c35
     try clear c36
     try clear c38
     try clear c38b0
     try clear c39
     try clear c39b0
     try clear c41
     try clear c53
     try clear c53b0
     try clear c53b1
     try clear hx286_0
     try clear hx286_1
     try clear hx286_2
     try clear hx289_0
     try clear hx289_1
     try clear hx297_0
     try clear hx297_1
     try clear hx305_0
     try clear hx305_1
     try clear p2
     try clear p286
     try clear p289
     try clear p297
     try clear p305
     try clear q286
     try clear q289
     try clear q297
     try clear q305
     obtain ⟨kq, x71_51, rfl, HA, HJ51, HO_0, HO_2, HO_8, HB⟩ := hcut
     cases kq with
     | zero => exact absurd HA.out (by simp [compare_Apply.j1])
     | succ kj51 =>
      have H := HA.out
      clear HA
      simp only [compare_Apply.j1] at H
      by_cases c54 : x71_51 = true
      ·subst c54
       have H1 : (some (([] : List (S24)), 1)) = some (r1, r2) := by rw [if_pos rfl] at H; exact H
       clear H
       have H := H1
       clear H1
       simp only [Option.some.injEq, Prod.mk.injEq] at H
       obtain ⟨rfl, rfl⟩ := H
       go_wp2
       go_ret2
       exact ⟨_, by first | rfl | (simp [errW_none, errW_some] <;> rfl) | (simp [*, errW_none, errW_some] <;> rfl), by first | exact Kd.R_nil _ _ _ _ _ | exact Kd.N_nil _ _ _ _ _ | exact Kd.V_nil _ _ _ _ _ | exact Kd.Q_nil _ _ _ _ _ | exact Kd.S_nil _ _ _ _ _, gB HB⟩
      ·replace c54 := Bool.eq_false_iff.mpr c54
       subst c54
       have H1 : (if (mx (l0.length : Int) (l2.length : Int)) > 200 then (some (([] : List (S24)), 2)) else (some (x8_1, 0))) = some (r1, r2) := by rw [if_neg (show ¬ (false = true) by decide)] at H; exact H
       clear H
       have H := H1
       clear H1
       obtain ⟨ji55, hji55⟩ : ∃ j_ : Int, (mx (l0.length : Int) (l2.length : Int)) = j_ := ⟨_, rfl⟩
       replace H : (if (ji55) > 200 then (some (([] : List (S24)), 2)) else (some (x8_1, 0))) = some (r1, r2) := by first | (rw [hji55] at H; exact H) | (simp only [hji55] at H ⊢; exact H)
       have hji55_ : (if (l0.length : Int) < (l2.length : Int) then (l2.length : Int) else (l0.length : Int)) = ji55 := hji55
       (try have hji55_n : (if l0.length < l2.length then (l2.length : Int) else (l0.length : Int)) = ji55 := by rw [← hji55_]; simp only [Int.ofNat_lt])
       by_cases c56 : (ji55) > 200
       ·rw [if_pos c56] at H
        have c56b0 : decide (200 < (ji55)) = true := decide_eq_true c56
        clear c56
        simp only [Option.some.injEq, Prod.mk.injEq] at H
        obtain ⟨rfl, rfl⟩ := H
        go_wp2
        go_ret2
        exact ⟨_, by first | rfl | (simp [errW_none, errW_some] <;> rfl) | (simp only [← hji55]; first | rfl | (simp [errW_none, errW_some] <;> rfl)) | (simp [*, errW_none, errW_some] <;> rfl), by first | exact Kd.R_nil _ _ _ _ _ | exact Kd.N_nil _ _ _ _ _ | exact Kd.V_nil _ _ _ _ _ | exact Kd.Q_nil _ _ _ _ _ | exact Kd.S_nil _ _ _ _ _, gB HB⟩
       ·rw [if_neg c56] at H
        have c56b0 : decide (200 < (ji55)) = false := decide_eq_false c56
        clear c56
        simp only [Option.some.injEq, Prod.mk.injEq] at H
        obtain ⟨rfl, rfl⟩ := H
        go_wp2
        go_ret2
        exact ⟨_, by first | rfl | (simp [errW_none, errW_some] <;> rfl) | (simp only [← hji55]; first | rfl | (simp [errW_none, errW_some] <;> rfl)) | (simp [*, errW_none, errW_some] <;> rfl), by (with_reducible repeat (first | apply Kd.N_alloc | apply Kd.N_drewN | apply Kd.N_drew)); exact HO_8.out, gB HB⟩

end Go.Proofs.Ytgjmljjnminefaa.QCompareApplies
