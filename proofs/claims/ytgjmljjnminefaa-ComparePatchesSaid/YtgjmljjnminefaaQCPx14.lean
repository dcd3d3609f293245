import Derived.Lib.SliceRun
import Derived.Test.YtgjmljjnminefaaQCPx0
import Derived.Test.YtgjmljjnminefaaQCPx10
import Derived.Test.YtgjmljjnminefaaFGrowCP
import Derived.Test.YtgjmljjnminefaaArrEq
import Derived.Test.YtgjmljjnminefaaZip
import Derived.Test.YtgjmljjnminefaaZip2
namespace Go.Proofs.Ytgjmljjnminefaa.QCP
open Go.Proofs.Ytgjmljjnminefaa.Zip2 Go.Proofs.Ytgjmljjnminefaa.Zip Go.RowKit Go.Proofs.YtgjmljjnminefaaW.PrintWords Go.Proofs.YtgjmljjnminefaaW.PrintLast Go.Proofs.YtgjmljjnminefaaW.PrintMore
attribute [local go_sem] max2_int min2_int max_two min_two max_three min_three max_four min_four   -- for this text's walks alone
set_option linter.unusedVariables false
set_option linter.unusedSimpArgs false

mutual
def api_Mark_34.l0 : Nat → List (List (S69)) → Int → List (List (S69)) → Int → Int → Option ((List (S69)))
 | 0, _, _, _, _, _ => none
 | k + 1, x0, x3, x9, x10, x11 => if x11 < x10 then (if 0 ≤ x11 then (if x11 < (x9.length : Int) then (if (wrap64 (x3 + ((rd_L4 x9 x11).length : Int))) < 0 then (none) else (api_Mark_34.l0 k x0 (wrap64 (x3 + ((rd_L4 x9 x11).length : Int))) x9 x10 (wrap64 (x11 + 1)))) else (none)) else (none)) else ((api_Mark_43.f ([] : List (S69)) x3).bind fun t329 => (api_Mark_34.l1 k t329 x0 (x0.length : Int) 0))
def api_Mark_34.l1 : Nat → List (S69) → List (List (S69)) → Int → Int → Option ((List (S69)))
 | 0, _, _, _, _ => none
 | k + 1, x6, x25, x26, x27 => if x27 < x26 then (if 0 ≤ x27 then (if x27 < (x25.length : Int) then (if x6.length + (rd_L4 x25 x27).length < 1256584717458 then (api_Mark_34.l1 k (x6 ++ (rd_L4 x25 x27)) x25 x26 (wrap64 (x27 + 1))) else (none)) else (none)) else (none)) else (some x6)
end
def api_Mark_34.f (k : Nat) (l0 : List (List (S69))) : Option ((List (S69))) := api_Mark_34.l0 k l0 0 l0 (l0.length : Int) 0
theorem api_Mark_34.mono_l : ∀ k, (∀ y0 y1 y2 y3 y4, LeO (api_Mark_34.l0 k y0 y1 y2 y3 y4) (api_Mark_34.l0 (k + 1) y0 y1 y2 y3 y4)) ∧ (∀ y0 y1 y2 y3, LeO (api_Mark_34.l1 k y0 y1 y2 y3) (api_Mark_34.l1 (k + 1) y0 y1 y2 y3))
 | 0 => ⟨fun _ _ _ _ _ r h => by simp [api_Mark_34.l0] at h, fun _ _ _ _ r h => by simp [api_Mark_34.l1] at h⟩
 | k + 1 => by
  obtain ⟨ih0, ih1⟩ := api_Mark_34.mono_l k
  refine ⟨?_, ?_⟩
  ·intro y0 y1 y2 y3 y4
   unfold api_Mark_34.l0
   repeat' first
   | (with_reducible exact ih0 _ _ _ _ _)
   | (with_reducible exact ih1 _ _ _ _)
   | (with_reducible exact LeO.refl _)
   | (with_reducible exact LeO.none _)
   | (with_reducible refine LeO.ite ?_ ?_)
   | (with_reducible refine LeO.bind ?_ (fun _ => ?_))
   | exact ih0 _ _ _ _ _
   | exact ih1 _ _ _ _
   | exact LeO.none _
   | refine LeO.ite ?_ ?_
   | refine LeO.bind ?_ (fun _ => ?_)
  ·intro y0 y1 y2 y3
   unfold api_Mark_34.l1
   repeat' first
   | (with_reducible exact ih0 _ _ _ _ _)
   | (with_reducible exact ih1 _ _ _ _)
   | (with_reducible exact LeO.refl _)
   | (with_reducible exact LeO.none _)
   | (with_reducible refine LeO.ite ?_ ?_)
   | (with_reducible refine LeO.bind ?_ (fun _ => ?_))
   | exact ih0 _ _ _ _ _
   | exact ih1 _ _ _ _
   | exact LeO.none _
   | refine LeO.ite ?_ ?_
   | refine LeO.bind ?_ (fun _ => ?_)
theorem api_Mark_34.mono : ∀ a0 k, LeO (api_Mark_34.f k a0) (api_Mark_34.f (k + 1) a0) := by
 intro a0 k
 obtain ⟨ih0, ih1⟩ := api_Mark_34.mono_l k
 unfold api_Mark_34.f
 repeat' first
   | (with_reducible exact ih0 _ _ _ _ _)
   | (with_reducible exact ih1 _ _ _ _)
   | (with_reducible exact LeO.refl _)
   | (with_reducible exact LeO.none _)
   | (with_reducible refine LeO.ite ?_ ?_)
   | (with_reducible refine LeO.bind ?_ (fun _ => ?_))
   | exact ih0 _ _ _ _ _
   | exact ih1 _ _ _ _
   | exact LeO.none _
   | refine LeO.ite ?_ ?_
   | refine LeO.bind ?_ (fun _ => ?_)
set_option maxHeartbeats 8000000 in
set_option maxRecDepth 100000 in
theorem api_Mark_34.calls (k : Nat) (P0_ : Nat → Prop) (A0 : Option Addr) (c0 : Nat) (l0 : List (List (S69))) (r : List (S69)) (w : World) (hs0 : Kd.V (Kd.slice 69 k69) 22 w w.heap.size (fun k_ => P0_ k_) (.slice A0 l0.length c0) l0) (h : api_Mark_34.f k l0 = some r) :
  Calls Try.prog 34 #[.slice A0 l0.length c0] w fun e w' => ∃ v0_ : Value, e = .returned (v0_) ∧ Kd.N k69 69 w' w.heap.size (fun k_ => (P0_ k_ ∨ w.heap.size ≤ k_)) v0_ r ∧ Below w.heap.size w w' := by
 have HO0 := q13 (show Kd.V (Kd.slice 69 k69) 22 w w.heap.size (fun k_ => (P0_ k_ ∨ w.heap.size ≤ k_)) (.slice A0 l0.length c0) l0 from Kd.V_mono hs0 (fun k_ hk => .inl hk))
 have HB := q13 (Below.refl w.heap.size w)
 have H : (api_Mark_34.l0 k l0 0 l0 (l0.length : Int) 0) = some r := h
 clear h
 have H' := q13 H
 clear H
 go_enter Try.func34, Try.ntmps34
 go_wp2
 go_loopg [3, 11] k (fun kq v3 v11 w' => ∃ (x3_1 : Int) (x11_1 : Int), v3 = .int .i64 x3_1 ∧ v11 = .int .i64 x11_1 ∧ Aside0 (api_Mark_34.l0 kq l0 x3_1 l0 (l0.length : Int) x11_1 = some r) ∧ Aside0 (kq ≤ k) ∧ Aside0 (Kd.V (Kd.slice 69 k69) 22 w' w.heap.size (fun k_ => (P0_ k_ ∨ w.heap.size ≤ k_)) (.slice A0 l0.length c0) l0) ∧ Aside0 (Kd.V (Kd.slice 69 k69) 22 w' w.heap.size (fun k_ => (P0_ k_ ∨ w.heap.size ≤ k_)) (.slice A0 l0.length c0) l0) ∧ Aside0 (Below w.heap.size w w'))
 case atStart => exact ⟨(0), (0), (by first | rfl | (simp; done) | (simp [*]; done)), (by first | rfl | (simp; done) | (simp [*]; done)), H', ⟨q17 _⟩, ⟨by (with_reducible repeat (first | apply Kd.V_alloc | apply Kd.V_drewN | apply Kd.V_drew)); exact HO0.out⟩, ⟨by (with_reducible repeat (first | apply Kd.V_alloc | apply Kd.V_drewN | apply Kd.V_drew)); exact HO0.out⟩, ⟨gB HB⟩⟩
 case round =>
  clear H'
  obtain ⟨x3_1, x11_1, rfl, rfl, HA, HK1, HO_0, HO_9, HB⟩ := hrel
  cases gk with
  | zero => exact absurd HA.out (by simp [api_Mark_34.l0])
  | succ k1 =>
   have H := HA.out
   clear HA
   simp only [api_Mark_34.l0] at H
   by_cases c2 : x11_1 < (l0.length : Int)
   ·rw [if_pos c2] at H
    have c2b0 : decide (x11_1 < (l0.length : Int)) = true := decide_eq_true c2
    clear c2
    by_cases c3 : 0 ≤ x11_1
    ·rw [if_pos c3] at H
     have c3b0 : decide (0 ≤ x11_1) = true := decide_eq_true c3
     clear c3
     by_cases c4 : x11_1 < (l0.length : Int)
     ·rw [if_pos c4] at H
      have c4b0 : decide (x11_1 < (l0.length : Int)) = true := decide_eq_true c4
      clear c4
      by_cases c5 : (wrap64 (x3_1 + ((rd_L4 l0 x11_1).length : Int))) < 0
      ·rw [if_pos c5] at H
       exact absurd H (by simp)
      ·rw [if_neg c5] at H
       have c5b0 : decide ((wrap64 (x3_1 + ((rd_L4 l0 x11_1).length : Int))) < 0) = false := decide_eq_false c5
       clear c5
       have H' := q13 H
       clear H
       have p328 : 0 ≤ (x11_1 : Int) := q15 (by assumption)
       have q328 : x11_1 < (l0.length : Int) := q15 (by assumption)
       obtain ⟨ad328, A328_0, c328_0, e328, hx328_0, hl328_0, hi328_0⟩ := at_L4 (Kd.V_reads' HO_9.out).2.2 x11_1 p328 q328
       cases e328
       obtain ⟨ce328, hce328, hMe328, hcc328⟩ := Kd.V_get HO_9.out [] x11_1 p328 (by first | exact q328 | exact q15 (by assumption) | (have e_ := (Kd.V_reads' HO_9.out).1; omega))
       obtain ⟨ua328_0, uc328_0, rfl, ul328_0, ge328_0⟩ := Kd.FK_slice_open hMe328
       have hv328_0 := hcc328 0 _ rfl
       rw [Nat.add_zero, show ((Kd.slice 69 k69)).sz = 1 from rfl, Nat.mul_one] at hv328_0
       replace hv328_0 := Option.some.inj (hv328_0.symm.trans hx328_0)
       injection hv328_0 with hva_ hvn_ hvc_
       rw [hva_] at ge328_0
       rw [hvc_] at ul328_0
       have HL328_0 := q13 (show Kd.V k69 69 _ w.heap.size _ _ (rd_L4 l0 x11_1) from Kd.V_mk ul328_0 ge328_0)
       clear hva_ hvn_ hvc_ ge328_0 ul328_0
       clear hcc328 hce328
       have HR328_0 := q13 hi328_0
       have HC328_0 := q13 hl328_0
       clear hi328_0 hl328_0
       replace p328 := eq_true p328
       replace q328 := eq_true q328
       go_wp2
       go_roundg k1
       case measure => have := HK1.out; omega
       case rel => exact ⟨(wrap64 (x3_1 + ((rd_L4 l0 x11_1).length : Int))), (wrap64 (x11_1 + 1)), (by first | rfl | (simp; done) | (simp [*]; done)), (by first | rfl | (simp; done) | (simp [*]; done)), H', ⟨by have := HK1.out; omega⟩, ⟨by (with_reducible repeat (first | apply Kd.V_alloc | apply Kd.V_drewN | apply Kd.V_drew)); exact HO_0.out⟩, ⟨by (with_reducible repeat (first | apply Kd.V_alloc | apply Kd.V_drewN | apply Kd.V_drew)); exact HO_9.out⟩, ⟨gB HB⟩⟩
     ·rw [if_neg c4] at H
      exact absurd H (by simp)
    ·rw [if_neg c3] at H
     exact absurd H (by simp)
   ·rw [if_neg c2] at H
    have c2b0 : decide (x11_1 < (l0.length : Int)) = false := decide_eq_false c2
    clear c2
    replace H := Option.bind_eq_some_iff.mp H
    obtain ⟨t329, A60, H⟩ := H
    replace H : (api_Mark_34.l1 k1 t329 l0 (l0.length : Int) 0) = some r := H
    have A6 := q13 A60
    clear A60
    have H' := q13 H
    clear H
    go_wp2_with (first | ((with_reducible refine gate_callee (f := 43) rfl ?_); refine goesL_ (some 24) rfl rfl Try.func43 (by kernel_rfl) rfl #[.slice none 0 0, .int .i64 x3_1] rfl (by (try simp only [List.map_toArray, List.map_cons, List.map_nil]); first | done | rfl | (simp only [List.length_drop, List.length_take]; rfl)) ?_; (refine (grow_nil x3_1 t329 _ A6.out).mono ?_); rintro e w7 ⟨v330, rfl, ho0, hb⟩; refine ⟨_, rfl, ?_⟩; have n0_ := q13 (Kd.V_elder' (gV HO_0) (by first | exact q43 ho0 | exact q44 ho0 | exact Kd.S_base ho0) hb); have n1_ := q13 (Kd.V_elder' (gV HO_9) (by first | exact q43 ho0 | exact q44 ho0 | exact Kd.S_base ho0) hb); have n2_ := q13 (Kd.N_lower (Kd.N_mono (ok' := fun k_ => (P0_ k_ ∨ w.heap.size ≤ k_)) (Kd.S_N (Kd.S_bound ho0)) (fun k_ hk_ => (.inr (Nat.le_trans (q7 (gB HB)) hk_.2.1)))) (q7 (gB HB))); have n3_ := q13 (q12 (gB HB) hb); clear HO_0; clear HO_9; clear HB; have HO_0 := n0_; have HO_9 := n1_; have HO331 := n2_; have HB := n3_; clear n0_ n1_ n2_ n3_; (try clear hb); (try clear hb2); (try clear hk); (try clear hi); (try clear ho0)))
    go_loopg [6, 27] k1 (fun kq v6 v27 w' => ∃ (x6_2 : List (S69)) (x27_2 : Int), v27 = .int .i64 x27_2 ∧ Aside0 (api_Mark_34.l1 kq x6_2 l0 (l0.length : Int) x27_2 = some r) ∧ Aside0 (kq ≤ k1) ∧ Aside0 (Kd.N k69 69 w' w.heap.size (fun k_ => (P0_ k_ ∨ w.heap.size ≤ k_)) v6 x6_2) ∧ Aside0 (Kd.V (Kd.slice 69 k69) 22 w' w.heap.size (fun k_ => (P0_ k_ ∨ w.heap.size ≤ k_) ∧ some k_ ≠ (v6 : Value).ownBlock) (.slice A0 l0.length c0) l0) ∧ Aside0 (Below w.heap.size w w'))
    case atStart => exact ⟨(t329), (0), (by first | rfl | (simp; done) | (simp [*]; done)), H', ⟨q17 _⟩, ⟨by (with_reducible repeat (first | apply Kd.N_alloc | apply Kd.N_drewN | apply Kd.N_drew)); exact HO331.out⟩, ⟨by (with_reducible repeat (first | apply Kd.V_alloc | apply Kd.V_drewN | apply Kd.V_drew)); exact HO_0.out⟩, ⟨gB HB⟩⟩
    case round =>
     clear H'
     try clear c2
     try clear c2b0
     try clear p2
     try clear c3
     try clear c3b0
     try clear p3
     try clear q3
     try clear hx3
     try clear c4
     try clear c4b0
     try clear c5
     try clear c5b0
     try clear p6
     try clear hx328_0
     try clear p328
     try clear q328
     obtain ⟨x6_2, x27_2, rfl, HA, HK2, HO_6, HO_25, HB⟩ := hrel
     cases gk with
     | zero => exact absurd HA.out (by simp [api_Mark_34.l1])
     | succ k2 =>
      have H := HA.out
      clear HA
      simp only [api_Mark_34.l1] at H
      by_cases c8 : x27_2 < (l0.length : Int)
      ·rw [if_pos c8] at H
       have c8b0 : decide (x27_2 < (l0.length : Int)) = true := decide_eq_true c8
       clear c8
       by_cases c9 : 0 ≤ x27_2
       ·rw [if_pos c9] at H
        have c9b0 : decide (0 ≤ x27_2) = true := decide_eq_true c9
        clear c9
        by_cases c10 : x27_2 < (l0.length : Int)
        ·rw [if_pos c10] at H
         have c10b0 : decide (x27_2 < (l0.length : Int)) = true := decide_eq_true c10
         clear c10
         by_cases c11 : x6_2.length + (rd_L4 l0 x27_2).length < 1256584717458
         ·rw [if_pos c11] at H
          have LMc11 := q13 c11
          clear c11
          obtain ⟨y333, hy333⟩ : ∃ y_ : List (S69), y_ = (x6_2 ++ (rd_L4 l0 x27_2)) := ⟨_, rfl⟩
          replace H : (api_Mark_34.l1 k2 y333 l0 (l0.length : Int) (wrap64 (x27_2 + 1))) = some r := by first | (rw [hy333]; with_reducible exact H) | (have H2_ := (Option.bind_some _ _).symm.trans H; rw [hy333]; with_reducible exact H2_) | (have H2_ := (Option.bind_some _ _).symm.trans H; with_reducible exact H2_) | with_reducible exact H | (rw [hy333]; exact H) | exact H
          have Ny333 := q13 hy333
          clear hy333
          have H' := q13 H
          clear H
          have p332 : 0 ≤ (x27_2 : Int) := q15 (by assumption)
          have q332 : x27_2 < (l0.length : Int) := q15 (by assumption)
          obtain ⟨ad332, A332_0, c332_0, e332, hx332_0, hl332_0, hi332_0⟩ := at_L4 (Kd.V_reads' HO_25.out).2.2 x27_2 p332 q332
          cases e332
          obtain ⟨ce332, hce332, hMe332, hcc332⟩ := Kd.V_get HO_25.out [] x27_2 p332 (by first | exact q332 | exact q15 (by assumption) | (have e_ := (Kd.V_reads' HO_25.out).1; omega))
          obtain ⟨ua332_0, uc332_0, rfl, ul332_0, ge332_0⟩ := Kd.FK_slice_open hMe332
          have hv332_0 := hcc332 0 _ rfl
          rw [Nat.add_zero, show ((Kd.slice 69 k69)).sz = 1 from rfl, Nat.mul_one] at hv332_0
          replace hv332_0 := Option.some.inj (hv332_0.symm.trans hx332_0)
          injection hv332_0 with hva_ hvn_ hvc_
          rw [hva_] at ge332_0
          rw [hvc_] at ul332_0
          have HL332_0 := q13 (show Kd.V k69 69 _ w.heap.size _ _ (rd_L4 l0 x27_2) from Kd.V_mk ul332_0 ge332_0)
          clear hva_ hvn_ hvc_ ge332_0 ul332_0
          clear hcc332 hce332
          have HR332_0 := q13 hi332_0
          have HC332_0 := q13 hl332_0
          clear hi332_0 hl332_0
          replace p332 := eq_true p332
          replace q332 := eq_true q332
          go_wp2_with (first | ((with_reducible refine gate_builtin (b := .append) (xs := #[.tmp 31, .tmp 32]) rfl ?_); at_builtin; refine Kd.N_append_rows k69 (w0 := w) w.heap.size rfl (.tmp 31) (.tmp 32) 22 69 (.agg #[(.int .i64 0), (.int .i64 0), (.int .i64 0), (.int .i64 0), (.int .i64 0), (.string ⟨#[]⟩), (.string ⟨#[]⟩), (.string ⟨#[]⟩), (.slice none 0 0)]) 112 rfl Try.underlying22 info69 rfl (by decide) (by omega) u6 x6_2 (rd_L4 l0 x27_2) _ _ _ (fun k_ => (P0_ k_ ∨ w.heap.size ≤ k_)) (fun k_ => ((fun k_ => (P0_ k_ ∨ w.heap.size ≤ k_))) k_ ∧ some k_ ≠ (u6 : Value).ownBlock) rfl rfl ?aO ?aR (fun _ hk => hk) ?aF ?aB ?aS ?aL ?_; (case aR => exact (by skip; exact Kd.V_F (Kd.V_mono (ok' := (fun k_ => ((fun k_ => (P0_ k_ ∨ w.heap.size ≤ k_))) k_ ∧ some k_ ≠ (u6 : Value).ownBlock)) (HL332_0.out) (fun k_ hk => ⟨hk.1, hk.2⟩)))); (case aB => exact (gB HB)); (case aF => exact (fun k_ hk => (.inr (Nat.le_trans (q7 (gB HB)) hk)))); (case aO => exact (gN HO_6)); (case aS => exact (q7 (gB HB))); (case aL => have := LMc11.out; omega); intro v334 w12 ho hb hg hat; rw [← Ny333.out] at ho; have n0_ := q13 (Kd.V_afterv (ok := (fun k_ => (P0_ k_ ∨ w.heap.size ≤ k_))) (gV HO_25) hg hat); have n1_ := q13 (Kd.V_afterv (ok := (fun k_ => (P0_ k_ ∨ w.heap.size ≤ k_))) (gV HL332_0) hg hat); have n2_ := q13 (hb); have n3_ := q13 (ho); clear HO_25; clear HL332_0; clear HB; clear HO_6; have HO_25 := n0_; have HL332_0 := n1_; have HB := n2_; have HO335 := n3_; clear n0_ n1_ n2_ n3_; clear ho hb hg hat))
          go_roundg k2
          case measure => have := HK1.out; have := HK2.out; omega
          case rel => exact ⟨(y333), (wrap64 (x27_2 + 1)), (by first | rfl | (simp; done) | (simp [*]; done)), H', ⟨by have := HK1.out; have := HK2.out; omega⟩, ⟨by (with_reducible repeat (first | apply Kd.N_alloc | apply Kd.N_drewN | apply Kd.N_drew)); exact HO335.out⟩, ⟨by (with_reducible repeat (first | apply Kd.V_alloc | apply Kd.V_drewN | apply Kd.V_drew)); exact HO_25.out⟩, ⟨gB HB⟩⟩
         ·rw [if_neg c11] at H
          exact absurd H (by simp)
        ·rw [if_neg c10] at H
         exact absurd H (by simp)
       ·rw [if_neg c9] at H
        exact absurd H (by simp)
      ·rw [if_neg c8] at H
       have c8b0 : decide (x27_2 < (l0.length : Int)) = false := decide_eq_false c8
       clear c8
       obtain rfl := Option.some.inj H
       go_wp2
       go_ret
       exact ⟨_, by first | rfl | (simp [errW_none, errW_some] <;> rfl) | (simp [*, errW_none, errW_some] <;> rfl), by (with_reducible repeat (first | apply Kd.N_alloc | apply Kd.N_drewN | apply Kd.N_drew)); exact HO_6.out, gB HB⟩

def compare_Use.j0 : Nat → List (S69) → Bool → Int → Int → List (S69) → Option ((List (S69)) × Int)
 | 0, _, _, _, _, _ => none
 | k + 1, x0, x30, x337000, x337001, x337002 => if x30 = true then (some (([] : List (S69)), 1)) else (if 0 ≤ x337000 then (if x337000 ≤ (x0.length : Int) then (if 0 ≤ (wrap64 (x337000 + x337001)) then (if (wrap64 (x337000 + x337001)) ≤ (x0.length : Int) then ((api_Mark_34.f k (([(x0.take (x337000 : Int).toNat), x337002, (x0.drop ((wrap64 (x337000 + x337001)) : Int).toNat)] : List (List (S69))))).bind fun t350 => ((compare_own.f k t350).bind fun t353 => (some (t353, 0)))) else (none)) else (none)) else (none)) else (none))
def compare_Use.f (k : Nat) (l0 : List (S69)) (a1_0 : Int) (a1_1 : Int) (l1_2 : List (S69)) : Option ((List (S69)) × Int) := if a1_0 < 0 then (compare_Use.j0 k l0 true a1_0 a1_1 l1_2) else (if a1_1 < 0 then (compare_Use.j0 k l0 true a1_0 a1_1 l1_2) else (if a1_0 > (l0.length : Int) then (compare_Use.j0 k l0 true a1_0 a1_1 l1_2) else (compare_Use.j0 k l0 (decide (a1_1 > (wrap64 ((l0.length : Int) - a1_0)))) a1_0 a1_1 l1_2)))
theorem compare_Use.mono_l : ∀ k, (∀ y0 y1 y2 y3 y4, LeO (compare_Use.j0 k y0 y1 y2 y3 y4) (compare_Use.j0 (k + 1) y0 y1 y2 y3 y4))
 | 0 => fun _ _ _ _ _ r h => by simp [compare_Use.j0] at h
 | k + 1 => by
  have ih0 := compare_Use.mono_l k
  ·intro y0 y1 y2 y3 y4
   unfold compare_Use.j0
   repeat' first
   | (with_reducible exact ih0 _ _ _ _ _)
   | (with_reducible exact api_Mark_34.mono _ _)
   | (with_reducible exact compare_own.mono _ _)
   | (with_reducible exact LeO.refl _)
   | (with_reducible exact LeO.none _)
   | (with_reducible refine LeO.ite ?_ ?_)
   | (with_reducible refine LeO.bind ?_ (fun _ => ?_))
   | exact ih0 _ _ _ _ _
   | exact api_Mark_34.mono _ _
   | exact compare_own.mono _ _
   | exact LeO.none _
   | refine LeO.ite ?_ ?_
   | refine LeO.bind ?_ (fun _ => ?_)
theorem compare_Use.mono : ∀ a0 a1 a2 a3 k, LeO (compare_Use.f k a0 a1 a2 a3) (compare_Use.f (k + 1) a0 a1 a2 a3) := by
 intro a0 a1 a2 a3 k
 have ih0 := compare_Use.mono_l k
 unfold compare_Use.f
 repeat' first
   | (with_reducible exact ih0 _ _ _ _ _)
   | (with_reducible exact api_Mark_34.mono _ _)
   | (with_reducible exact compare_own.mono _ _)
   | (with_reducible exact LeO.refl _)
   | (with_reducible exact LeO.none _)
   | (with_reducible refine LeO.ite ?_ ?_)
   | (with_reducible refine LeO.bind ?_ (fun _ => ?_))
   | exact ih0 _ _ _ _ _
   | exact api_Mark_34.mono _ _
   | exact compare_own.mono _ _
   | exact LeO.none _
   | refine LeO.ite ?_ ?_
   | refine LeO.bind ?_ (fun _ => ?_)
def compare_Use.T3 : Bool × List (List Nat × List Nat) := (true, [([], []), ([], []), ([1], [1]), ([0, 2], [0, 2]), ([], []), ([4], [4]), ([], []), ([], []), ([7], [7]), ([], []), ([9], [9]), ([8, 10], [8, 10]), ([6, 11], [6, 11]), ([3, 5, 12], [3, 5, 12]), ([13], [13]), ([14, 14], [14]), ([15, 15, 0, 1, 2, 3, 4, 5, 6, 7, 8, 9, 10, 11, 12, 13, 14, 15], [15]), ([16, 0, 1, 2, 3, 4, 5, 6, 7, 8, 9, 10, 11, 12, 13, 14, 15, 16], [])])
def compare_Use.B3 : List Nat := [0, 0, 2, 7, 0, 16, 0, 0, 128, 0, 512, 1920, 4032, 8191, 16383, 32767, 65535, 131071]
theorem compare_Use.tab3 : rtab .any (opsOf Try.f20 3) = compare_Use.T3 := by kernel_rfl
theorem compare_Use.bits3 : waitsOk compare_Use.T3.2 compare_Use.B3 = true := by kernel_rfl
set_option maxHeartbeats 8000000 in
set_option maxRecDepth 100000 in
theorem compare_Use.calls (k : Nat) (P0_ : Nat → Prop) (A0 : Option Addr) (c0 : Nat) (l0 : List (S69)) (a1_0 : Int) (a1_1 : Int) (P1_2_ : Nat → Prop) (A1_2 : Option Addr) (c1_2 : Nat) (l1_2 : List (S69)) (r1 : List (S69)) (r2 : Int) (w : World) (hs0 : Kd.V k69 69 w w.heap.size (fun k_ => P0_ k_) (.slice A0 l0.length c0) l0) (hs1_2 : Kd.V k69 69 w w.heap.size (fun k_ => P1_2_ k_) (.slice A1_2 l1_2.length c1_2) l1_2) (h : compare_Use.f k l0 a1_0 a1_1 l1_2 = some (r1, r2)) :
  Calls Try.prog 20 #[.slice A0 l0.length c0, .agg #[.int .i64 a1_0, .int .i64 a1_1, .slice A1_2 l1_2.length c1_2]] w fun e w' => ∃ v0_ : Value, e = .returned (.tuple #[v0_, .int .i64 r2]) ∧ Kd.N k69 69 w' w.heap.size (fun k_ => ((P0_ k_ ∨ P1_2_ k_) ∨ w.heap.size ≤ k_)) v0_ r1 ∧ Below w.heap.size w w' := by
 have hu39 := Try.underlying39
 have HO0 := q13 (show Kd.V k69 69 w w.heap.size (fun k_ => ((P0_ k_ ∨ P1_2_ k_) ∨ w.heap.size ≤ k_)) (.slice A0 l0.length c0) l0 from Kd.V_mono hs0 (fun k_ hk => .inl (.inl hk)))
 have HO1_2 := q13 (show Kd.V k69 69 w w.heap.size (fun k_ => ((P0_ k_ ∨ P1_2_ k_) ∨ w.heap.size ≤ k_)) (.slice A1_2 l1_2.length c1_2) l1_2 from Kd.V_mono hs1_2 (fun k_ hk => .inl (.inr hk)))
 have HB := q13 (Below.refl w.heap.size w)
 have H : (if a1_0 < 0 then (compare_Use.j0 k l0 true a1_0 a1_1 l1_2) else (if a1_1 < 0 then (compare_Use.j0 k l0 true a1_0 a1_1 l1_2) else (if a1_0 > (l0.length : Int) then (compare_Use.j0 k l0 true a1_0 a1_1 l1_2) else (compare_Use.j0 k l0 (decide (a1_1 > (wrap64 ((l0.length : Int) - a1_0)))) a1_0 a1_1 l1_2)))) = some (r1, r2) := h
 clear h
 have HC3 := q13 H
 clear H
 go_enter Try.func20, Try.ntmps20
 go_upto_region 1 with (first | ((with_reducible refine gate_dst (N := 3) rfl ?_); (try (refine gate_guard (by rfl) ?_; dsimp only)); refine box_event ?hg (N := 3) ?hd (cs := #[.int .i64 a1_0, .int .i64 a1_1, .slice A1_2 l1_2.length c1_2]) (t := 39) ?hr ?_; (case hd => rfl); (case hg => rfl); (case hr => first | (go_simp; done) | (go_simp; rfl)); intro gb336 hg w4 hbox hb; have n0_ := q13 (Kd.V_below (Kd.V_elderB (gV HO0) gb336 (Nat.le_of_eq hg.symm)) hb); have n1_ := q13 (Kd.V_below (Kd.V_elderB (gV HO1_2) gb336 (Nat.le_of_eq hg.symm)) hb); have n2_ := q13 (q12 (gB HB) hb); have n3_ := q13 (hbox); have n4_ := q13 ((by rw [hg]; exact (q7 (gB HB)) : w.heap.size ≤ gb336)); have n5_ := q13 ((by rw [hg]; exact (q7 (gB HB)) : w.heap.size ≤ gb336)); clear HO0; clear HO1_2; clear HB; have HO0 := n0_; have HO1_2 := n1_; have HB := n2_; have BK336 := n3_; have GW336 := n4_; have GE336 := n5_; clear n0_ n1_ n2_ n3_ n4_ n5_; clear hb hbox hg))
 (try simp only [Act.put, List.setIfInBounds_toArray, List.set_cons_zero, List.set_cons_succ])
 go_cut [30] (fun v30 wc => ∃ (kq : Nat) (x30_2 : Bool), v30 = .bool x30_2 ∧ Aside0 (compare_Use.j0 kq l0 x30_2 a1_0 a1_1 l1_2 = some (r1, r2)) ∧ Aside0 (kq ≤ k) ∧ Aside0 (Kd.V k69 69 wc w.heap.size (fun k_ => ((P0_ k_ ∨ P1_2_ k_) ∨ w.heap.size ≤ k_) ∧ k_ ≠ gb336) (.slice A0 l0.length c0) l0) ∧ Aside0 (Kd.V k69 69 wc w.heap.size (fun k_ => ((P0_ k_ ∨ P1_2_ k_) ∨ w.heap.size ≤ k_) ∧ k_ ≠ gb336) (.slice A1_2 l1_2.length c1_2) l1_2) ∧ Aside0 (wc.heap[gb336]? = some (.cells #[.int .i64 a1_0, .int .i64 a1_1, (.slice A1_2 l1_2.length c1_2)] 39 (0, 0))) ∧ Aside0 (Below w.heap.size w wc))
 case first =>
  have H := HC3.out
  clear HC3
  by_cases c5 : a1_0 < 0
  ·rw [if_pos c5] at H
   have c5b0 : decide (a1_0 < 0) = true := decide_eq_true c5
   clear c5
   (first | rw [c5b0] | (simp only [i64_w, i32_w]; rw [c5b0]) | skip)
   have H' := q13 H
   clear H
   have hcz6_0 : w4.cell? ⟨gb336, 0, none⟩ = some (.int .i64 a1_0) := (q9 BK336.out 0).trans rfl
   have hcz6_1 : w4.cell? ⟨gb336, 1, none⟩ = some (.int .i64 a1_1) := (q9 BK336.out 1).trans rfl
   have hcz6_2 : w4.cell? ⟨gb336, 2, none⟩ = some (.slice A1_2 l1_2.length c1_2) := (q9 BK336.out 2).trans rfl
   have hfz6_0 := q11 BK336.out 0
   have hfz6_1 := q11 BK336.out 1
   have hfz6_2 := q11 BK336.out 2
   go_wp2
   go_meet
   case rel => exact ⟨_, (true), (by first | rfl | (simp; done) | (simp [*]; done)), H', ⟨by first | omega | exact q17 _⟩, ⟨by (with_reducible repeat (first | apply Kd.V_alloc | apply Kd.V_drewN | apply Kd.V_drew)); exact HO0.out⟩, ⟨by (with_reducible repeat (first | apply Kd.V_alloc | apply Kd.V_drewN | apply Kd.V_drew)); exact HO1_2.out⟩, ⟨by (with_reducible repeat (first | refine q0 ?_ _ | refine q1 ?_ | refine q2 ?_ _)); exact BK336.out⟩, ⟨by repeat (first | (with_reducible first | exact HB.out | apply q3 | apply q4 | apply q5 | refine q6 ?_ GE336.out) | exact HB.out)⟩⟩
  ·rw [if_neg c5] at H
   have c5b0 : decide (a1_0 < 0) = false := decide_eq_false c5
   clear c5
   (first | rw [c5b0] | (simp only [i64_w, i32_w]; rw [c5b0]) | skip)
   by_cases c7 : a1_1 < 0
   ·rw [if_pos c7] at H
    have c7b0 : decide (a1_1 < 0) = true := decide_eq_true c7
    clear c7
    have H' := q13 H
    clear H
    have hcz8_0 : w4.cell? ⟨gb336, 0, none⟩ = some (.int .i64 a1_0) := (q9 BK336.out 0).trans rfl
    have hcz8_1 : w4.cell? ⟨gb336, 1, none⟩ = some (.int .i64 a1_1) := (q9 BK336.out 1).trans rfl
    have hcz8_2 : w4.cell? ⟨gb336, 2, none⟩ = some (.slice A1_2 l1_2.length c1_2) := (q9 BK336.out 2).trans rfl
    have hfz8_0 := q11 BK336.out 0
    have hfz8_1 := q11 BK336.out 1
    have hfz8_2 := q11 BK336.out 2
    go_wp2
    go_meet
    case rel => exact ⟨_, (true), (by first | rfl | (simp; done) | (simp [*]; done)), H', ⟨by first | omega | exact q17 _⟩, ⟨by (with_reducible repeat (first | apply Kd.V_alloc | apply Kd.V_drewN | apply Kd.V_drew)); exact HO0.out⟩, ⟨by (with_reducible repeat (first | apply Kd.V_alloc | apply Kd.V_drewN | apply Kd.V_drew)); exact HO1_2.out⟩, ⟨by (with_reducible repeat (first | refine q0 ?_ _ | refine q1 ?_ | refine q2 ?_ _)); exact BK336.out⟩, ⟨by repeat (first | (with_reducible first | exact HB.out | apply q3 | apply q4 | apply q5 | refine q6 ?_ GE336.out) | exact HB.out)⟩⟩
   ·rw [if_neg c7] at H
    have c7b0 : decide (a1_1 < 0) = false := decide_eq_false c7
    clear c7
    by_cases c9 : a1_0 > (l0.length : Int)
    ·rw [if_pos c9] at H
     have c9b0 : decide ((l0.length : Int) < a1_0) = true := decide_eq_true c9
     clear c9
     have H' := q13 H
     clear H
     have hcz10_0 : w4.cell? ⟨gb336, 0, none⟩ = some (.int .i64 a1_0) := (q9 BK336.out 0).trans rfl
     have hcz10_1 : w4.cell? ⟨gb336, 1, none⟩ = some (.int .i64 a1_1) := (q9 BK336.out 1).trans rfl
     have hcz10_2 : w4.cell? ⟨gb336, 2, none⟩ = some (.slice A1_2 l1_2.length c1_2) := (q9 BK336.out 2).trans rfl
     have hfz10_0 := q11 BK336.out 0
     have hfz10_1 := q11 BK336.out 1
     have hfz10_2 := q11 BK336.out 2
     go_wp2
     go_meet
     case rel => exact ⟨_, (true), (by first | rfl | (simp; done) | (simp [*]; done)), H', ⟨by first | omega | exact q17 _⟩, ⟨by (with_reducible repeat (first | apply Kd.V_alloc | apply Kd.V_drewN | apply Kd.V_drew)); exact HO0.out⟩, ⟨by (with_reducible repeat (first | apply Kd.V_alloc | apply Kd.V_drewN | apply Kd.V_drew)); exact HO1_2.out⟩, ⟨by (with_reducible repeat (first | refine q0 ?_ _ | refine q1 ?_ | refine q2 ?_ _)); exact BK336.out⟩, ⟨by repeat (first | (with_reducible first | exact HB.out | apply q3 | apply q4 | apply q5 | refine q6 ?_ GE336.out) | exact HB.out)⟩⟩
    ·rw [if_neg c9] at H
     have c9b0 : decide ((l0.length : Int) < a1_0) = false := decide_eq_false c9
     clear c9
     have H' := q13 H
     clear H
     have hcz11_0 : w4.cell? ⟨gb336, 0, none⟩ = some (.int .i64 a1_0) := (q9 BK336.out 0).trans rfl
     have hcz11_1 : w4.cell? ⟨gb336, 1, none⟩ = some (.int .i64 a1_1) := (q9 BK336.out 1).trans rfl
     have hcz11_2 : w4.cell? ⟨gb336, 2, none⟩ = some (.slice A1_2 l1_2.length c1_2) := (q9 BK336.out 2).trans rfl
     have hfz11_0 := q11 BK336.out 0
     have hfz11_1 := q11 BK336.out 1
     have hfz11_2 := q11 BK336.out 2
     go_wp2
     go_meet
     case rel => exact ⟨_, (decide (a1_1 > (wrap64 ((l0.length : Int) - a1_0)))), (by first | rfl | (simp; done) | (simp [*]; done)), H', ⟨by first | omega | exact q17 _⟩, ⟨by (with_reducible repeat (first | apply Kd.V_alloc | apply Kd.V_drewN | apply Kd.V_drew)); exact HO0.out⟩, ⟨by (with_reducible repeat (first | apply Kd.V_alloc | apply Kd.V_drewN | apply Kd.V_drew)); exact HO1_2.out⟩, ⟨by (with_reducible repeat (first | refine q0 ?_ _ | refine q1 ?_ | refine q2 ?_ _)); exact BK336.out⟩, ⟨by repeat (first | (with_reducible first | exact HB.out | apply q3 | apply q4 | apply q5 | refine q6 ?_ GE336.out) | exact HB.out)⟩⟩
 case rest =>
  clear HC3
  try clear c1
  try clear c2
  try clear p2
  try clear c5
  try clear c5b0
  try clear p6
  try clear c7
  try clear c7b0
  try clear c9
  try clear c9b0
  obtain ⟨kq, x30_2, rfl, HA, HJ2, HO_0, HO_337002, BK336, HB⟩ := hcut
  cases kq with
  | zero => exact absurd HA.out (by simp [compare_Use.j0])
  | succ kj2 =>
   have H := HA.out
   clear HA
   simp only [compare_Use.j0] at H
   by_cases c12 : x30_2 = true
   ·subst c12
    have H1 : (some (([] : List (S69)), 1)) = some (r1, r2) := by rw [if_pos rfl] at H; exact H
    clear H
    have H := H1
    clear H1
    simp only [Option.some.injEq, Prod.mk.injEq] at H
    obtain ⟨rfl, rfl⟩ := H
    go_wp2
    go_ret2
    exact ⟨_, by first | rfl | (simp [errW_none, errW_some] <;> rfl) | (simp [*, errW_none, errW_some] <;> rfl), by first | exact Kd.S_nil _ _ _ _ _ | exact Kd.N_nil _ _ _ _ _ | exact Kd.V_nil _ _ _ _ _ | exact Kd.Q_nil _ _ _ _ _ | exact Kd.R_nil _ _ _ _ _, by repeat (first | (with_reducible first | exact HB.out | apply q3 | apply q4 | apply q5 | refine q6 ?_ GE336.out) | exact HB.out)⟩
   ·replace c12 := Bool.eq_false_iff.mpr c12
    subst c12
    have H1 : (if 0 ≤ a1_0 then (if a1_0 ≤ (l0.length : Int) then (if 0 ≤ (wrap64 (a1_0 + a1_1)) then (if (wrap64 (a1_0 + a1_1)) ≤ (l0.length : Int) then ((api_Mark_34.f kj2 (([(l0.take (a1_0 : Int).toNat), l1_2, (l0.drop ((wrap64 (a1_0 + a1_1)) : Int).toNat)] : List (List (S69))))).bind fun t350 => ((compare_own.f kj2 t350).bind fun t353 => (some (t353, 0)))) else (none)) else (none)) else (none)) else (none)) = some (r1, r2) := by rw [if_neg (show ¬ (false = true) by decide)] at H; exact H
    clear H
    have H := H1
    clear H1
    by_cases c13 : 0 ≤ a1_0
    ·rw [if_pos c13] at H
     have c13b0 := eq_true c13
     have c13b1 : decide (0 ≤ a1_0) = true := decide_eq_true c13
     clear c13
     by_cases c14 : a1_0 ≤ (l0.length : Int)
     ·rw [if_pos c14] at H
      have c14b0 := eq_true c14
      have c14b1 : decide (a1_0 ≤ (l0.length : Int)) = true := decide_eq_true c14
      clear c14
      obtain ⟨y337, hy337⟩ : ∃ y_ : List (S69), y_ = (l0.take (a1_0 : Int).toNat) := ⟨_, rfl⟩
      replace H : (if 0 ≤ (wrap64 (a1_0 + a1_1)) then (if (wrap64 (a1_0 + a1_1)) ≤ (l0.length : Int) then ((api_Mark_34.f kj2 (([y337, l1_2, (l0.drop ((wrap64 (a1_0 + a1_1)) : Int).toNat)] : List (List (S69))))).bind fun t350 => ((compare_own.f kj2 t350).bind fun t353 => (some (t353, 0)))) else (none)) else (none)) = some (r1, r2) := by first | (rw [hy337]; with_reducible exact H) | (have H2_ := (Option.bind_some _ _).symm.trans H; rw [hy337]; with_reducible exact H2_) | (have H2_ := (Option.bind_some _ _).symm.trans H; with_reducible exact H2_) | with_reducible exact H | (rw [hy337]; exact H) | exact H
      have Ny337 := q13 hy337
      clear hy337
      obtain ⟨ji15, hji15⟩ : ∃ j_ : Int, (wrap64 (a1_0 + a1_1)) = j_ := ⟨_, rfl⟩
      replace H : (if 0 ≤ (ji15) then (if (ji15) ≤ (l0.length : Int) then ((api_Mark_34.f kj2 (([y337, l1_2, (l0.drop ((ji15) : Int).toNat)] : List (List (S69))))).bind fun t350 => ((compare_own.f kj2 t350).bind fun t353 => (some (t353, 0)))) else (none)) else (none)) = some (r1, r2) := by first | (rw [hji15] at H; exact H) | (simp only [hji15] at H ⊢; exact H)
      have hji15w : (IntKind.i64.wrap (a1_0 + a1_1)) = ji15 := (i64_w _).trans hji15
      by_cases c16 : 0 ≤ (ji15)
      ·rw [if_pos c16] at H
       have c16b0 := eq_true c16
       have c16b1 : decide (0 ≤ (ji15)) = true := decide_eq_true c16
       clear c16
       by_cases c17 : (ji15) ≤ (l0.length : Int)
       ·rw [if_pos c17] at H
        have c17b0 := eq_true c17
        have c17b1 : decide ((ji15) ≤ (l0.length : Int)) = true := decide_eq_true c17
        clear c17
        obtain ⟨y342, hy342⟩ : ∃ y_ : List (S69), y_ = (l0.drop ((ji15) : Int).toNat) := ⟨_, rfl⟩
        replace H : ((api_Mark_34.f kj2 (([y337, l1_2, y342] : List (List (S69))))).bind fun t350 => ((compare_own.f kj2 t350).bind fun t353 => (some (t353, 0)))) = some (r1, r2) := by first | (rw [hy342]; with_reducible exact H) | (have H2_ := (Option.bind_some _ _).symm.trans H; rw [hy342]; with_reducible exact H2_) | (have H2_ := (Option.bind_some _ _).symm.trans H; with_reducible exact H2_) | with_reducible exact H | (rw [hy342]; exact H) | exact H
        have Ny342 := q13 hy342
        clear hy342
        obtain ⟨y347, hy347⟩ : ∃ y_ : List (List (S69)), y_ = (([y337, l1_2, y342] : List (List (S69)))) := ⟨_, rfl⟩
        replace H : ((api_Mark_34.f kj2 y347).bind fun t350 => ((compare_own.f kj2 t350).bind fun t353 => (some (t353, 0)))) = some (r1, r2) := by first | (rw [hy347]; with_reducible exact H) | (have H2_ := (Option.bind_some _ _).symm.trans H; rw [hy347]; with_reducible exact H2_) | (have H2_ := (Option.bind_some _ _).symm.trans H; with_reducible exact H2_) | with_reducible exact H | (rw [hy347]; exact H) | exact H
        have Ny347 := q13 hy347
        clear hy347
        replace H := Option.bind_eq_some_iff.mp H
        obtain ⟨t350, A180, H⟩ := H
        replace H : ((compare_own.f kj2 t350).bind fun t353 => (some (t353, 0))) = some (r1, r2) := H
        have A18 := q13 A180
        clear A180
        replace H := Option.bind_eq_some_iff.mp H
        obtain ⟨t353, A190, H⟩ := H
        replace H : (some (t353, 0)) = some (r1, r2) := H
        have A19 := q13 A190
        clear A190
        simp only [Option.some.injEq, Prod.mk.injEq] at H
        obtain ⟨rfl, rfl⟩ := H
        try go_wp2
        have n0_ := q13 (Kd.V_drew HO_0.out)
        have n1_ := q13 (Kd.V_drew HO_337002.out)
        have n2_ := q13 (q1 BK336.out)
        have n3_ := q13 (q5 HB.out)
        clear HO_0
        clear HO_337002
        clear BK336
        clear HB
        have HO_0 := n0_
        have HO_337002 := n1_
        have BK336 := n2_
        have HB := n3_
        clear n0_ n1_ n2_ n3_
        have q21 : (a1_0 : Int) ≤ ((l0.length : Int) : Int) := q15 (by assumption)
        obtain ⟨i021, hi021, _, hsz21, _⟩ := info_parts info69
        have hroom21 : l0.length ≤ c0 := (Kd.V_reads' HO_0.out).2.1
        have hC21 : Kd.F k69 _ _ A0 l0.length l0 := (Kd.V_at (base := w.heap.size) HO_0.out).2.2
        have hcut21 := cut_to (P := Try.prog) 22 69 .i64 Try.underlying22 hi021 A0 l0.length c0 a1_0 (q15 (by assumption)) q21 hroom21
        have hr21 := Kd.F_take (m := (a1_0 : Int).toNat) hC21 (by omega)
        have hy21 : y337.length = (a1_0 : Int).toNat := (by rw [Ny337.out, List.length_take]; omega)
        rw [← Ny337.out] at hr21
        rw [← hy21] at hcut21
        have HO341 := q13 (show Kd.V k69 69 _ w.heap.size _ (.slice A0 y337.length c0) y337 from Kd.V_mk (by omega) hr21)
        have HC341 := q13 (show y337.length ≤ c0 from by omega)
        clear hr21 hC21 hroom21 hi021 hsz21
        have KY21 := q13 hy21
        clear hy21
        replace q21 := eq_true q21
        have q22 : ((ji15) : Int) ≤ ((l0.length : Int) : Int) := q15 (by assumption)
        obtain ⟨i022, hi022, _, hsz22, _⟩ := info_parts info69
        have hroom22 : l0.length ≤ c0 := (Kd.V_reads' HO_0.out).2.1
        have hC22 : Kd.F k69 _ _ A0 l0.length l0 := (Kd.V_at (base := w.heap.size) HO_0.out).2.2
        have q022 : (0 : Int) ≤ ((ji15) : Int) := q15 (by assumption)
        have hcut22 := cut_from (P := Try.prog) 22 69 .i64 Try.underlying22 hi022 9 hsz22 A0 l0.length c0 (ji15) q022 q22
        have hr22 := Kd.F_cut (m := ((ji15) : Int).toNat) (c := c0) hC22 (by omega) hroom22
        obtain ⟨A22, hA22⟩ : ∃ Aw_, Aw_ = (if c0 = ((ji15) : Int).toNat then A0 else (A0 : Option Addr).map (·.add (((ji15) : Int).toNat * 9))) := ⟨_, rfl⟩
        obtain ⟨c22, hc22⟩ : ∃ cw_, cw_ = c0 - ((ji15) : Int).toNat := ⟨_, rfl⟩
        have hy22 : y342.length = l0.length - ((ji15) : Int).toNat := (by rw [Ny342.out, List.length_drop] <;> omega)
        rw [show (l0).drop ((ji15) : Int).toNat = y342 from Ny342.out.symm] at hr22
        replace hr22 : Kd.F k69 _ _ A22 y342.length y342 := (by rw [hA22]; exact hr22)
        rw [← hy22, ← hA22, ← hc22] at hcut22
        have HO346 := q13 (show Kd.V k69 69 _ w.heap.size _ (.slice A22 y342.length c22) y342 from Kd.V_mk (by rw [hy22, hc22]; exact Nat.sub_le_sub_right hroom22 _) hr22)
        have HC346 := q13 (show y342.length ≤ c22 from by rw [hy22, hc22]; exact Nat.sub_le_sub_right hroom22 _)
        clear hr22 hC22 hroom22 hi022 hsz22 hc22
        have KY22 := q13 hy22
        have KA22 := q13 hA22
        clear hy22 hA22
        replace q22 := eq_true q22
        refine start_ (n := 18) (S := fun w' => w'.cell? ⟨gb336, 0, none⟩ = some (.int .i64 a1_0) ∧ w'.cell? ⟨gb336, 1, none⟩ = some (.int .i64 a1_1) ∧ w'.cell? ⟨gb336, 2, none⟩ = some (.slice A1_2 l1_2.length c1_2)) (ds := []) (Array.replicate 18 false) (by kernel_rfl) rfl rfl ⟨(q9 BK336.out 0).trans rfl, (q9 BK336.out 1).trans rfl, (q9 BK336.out 2).trans rfl⟩ (fun hHeld => ?_); refine with_tabW compare_Use.tab3 compare_Use.bits3 (fun HT_ HW_ => ?_)
        generalize wc.drew = w20 at HO_0 HO_337002 BK336 HB HO341 HO346 hHeld ⊢
        refine go_in [0, 1, 4, 6, 7, 9, 2, 3, 5, 8, 10, 11, 12] ?_
        repeat (first | (refine pz (v := ?_) (a' := ?_) HT_ rfl rfl (by kernel_rfl) (fun _ _ _ h => h) (Or.inl ⟨by rfl, ?_⟩) ?_ ?_; rotate_left; (focus intro w'; go_simp; with_reducible rfl); rotate_left; (focus simp only [Act.put, List.setIfInBounds_toArray, List.set_cons_zero, List.set_cons_succ, i64_w, i32_w, u8_w, u8_tm, u8_c, u8_cm]; rfl)) | (refine tz (v := ?_) (a' := ?_) HT_ HW_ rfl rfl hHeld (by kernel_rfl) (fun _ _ _ h => h) (Or.inl ⟨by rfl, ?_⟩) ?_ ?_; rotate_left; (focus rintro w' ⟨s0, s1, s2⟩; go_simp; with_reducible rfl); rotate_left; (focus simp only [Act.put, List.setIfInBounds_toArray, List.set_cons_zero, List.set_cons_succ, i64_w, i32_w, u8_w, u8_tm, u8_c, u8_cm]; rfl)))
        refine go_out ?_
        refine one_ (i := 13) (N := some 44) (fl 18 14 []) rfl rfl (one_of HT_.out (by kernel_rfl)) (by decide) (fun K hK => ?_)
        refine Kd.N_lit_step (Kd.slice 69 k69) _ 22 ?hg (N' := 44) ?hd (xs := ([y337, l1_2, y342] : List (List (S69)))) (inner := [.slice A0 y337.length c0, .slice A1_2 l1_2.length c1_2, .slice A22 y342.length c22]) (ok := (fun k_ => ((P0_ k_ ∨ P1_2_ k_) ∨ w.heap.size ≤ k_) ∧ k_ ≠ gb336)) (okp := (fun k_ => ((P0_ k_ ∨ P1_2_ k_) ∨ w.heap.size ≤ k_) ∧ k_ ≠ gb336)) ?hr ?hp (fun _ hk => hk) ((show ∀ k_, w20.heap.size ≤ k_ → (fun k_ => ((P0_ k_ ∨ P1_2_ k_) ∨ w.heap.size ≤ k_) ∧ k_ ≠ gb336) k_ from fun k_ hk => ⟨(.inr (Nat.le_trans (q7 (by repeat (first | (with_reducible first | exact HB.out | apply q3 | apply q4 | apply q5 | refine q6 ?_ GE336.out) | exact HB.out))) hk)), Kd.freshB (g := gb336) (o := .cells #[.int .i64 a1_0, .int .i64 a1_1, .slice A1_2 l1_2.length c1_2] 39 (0, 0)) (gK BK336) k_ hk⟩) _ (q17 _)) (Below.refl _ _) (q17 _) (by simp) ?_; (case hd => rfl); (case hg => rfl); (case hr => first | (go_simp; done) | (go_simp; rfl)); (case hp => exact (Reps.one (show Kd.FK (Kd.slice 69 k69) _ _ y337 [.slice A0 y337.length c0] from (Kd.FK_slice_mk (Kd.V_reads' (Kd.V_mono (ok' := (fun k_ => ((P0_ k_ ∨ P1_2_ k_) ∨ w.heap.size ≤ k_) ∧ k_ ≠ gb336)) (HO341.out) (fun k_ hk => ⟨hk.1, hk.2⟩))).2.1 (Kd.V_F (Kd.V_mono (ok' := (fun k_ => ((P0_ k_ ∨ P1_2_ k_) ∨ w.heap.size ≤ k_) ∧ k_ ≠ gb336)) (HO341.out) (fun k_ hk => ⟨hk.1, hk.2⟩))))) (Reps.one (show Kd.FK (Kd.slice 69 k69) _ _ l1_2 [.slice A1_2 l1_2.length c1_2] from (Kd.FK_slice_mk (Kd.V_reads' (Kd.V_mono (ok' := (fun k_ => ((P0_ k_ ∨ P1_2_ k_) ∨ w.heap.size ≤ k_) ∧ k_ ≠ gb336)) (HO_337002.out) (fun k_ hk => ⟨hk.1, hk.2⟩))).2.1 (Kd.V_F (Kd.V_mono (ok' := (fun k_ => ((P0_ k_ ∨ P1_2_ k_) ∨ w.heap.size ≤ k_) ∧ k_ ≠ gb336)) (HO_337002.out) (fun k_ hk => ⟨hk.1, hk.2⟩))))) (Reps.one (show Kd.FK (Kd.slice 69 k69) _ _ y342 [.slice A22 y342.length c22] from (Kd.FK_slice_mk (Kd.V_reads' (Kd.V_mono (ok' := (fun k_ => ((P0_ k_ ∨ P1_2_ k_) ∨ w.heap.size ≤ k_) ∧ k_ ≠ gb336)) (HO346.out) (fun k_ hk => ⟨hk.1, hk.2⟩))).2.1 (Kd.V_F (Kd.V_mono (ok' := (fun k_ => ((P0_ k_ ∨ P1_2_ k_) ∨ w.heap.size ≤ k_) ∧ k_ ≠ gb336)) (HO346.out) (fun k_ hk => ⟨hk.1, hk.2⟩))))) (Reps.none _ _)))))
        intro v348 w23 ho24 hb hg_ hnew_
        clear hg_ hnew_
        (first | rw [← Ny347.out] at ho24 | (simp only [Int.reduceToNat] at ho24; rw [← Ny347.out] at ho24))
        have n0_ := q13 (Kd.V_elder' (gV HO_0) (q43 ho24) hb)
        have n1_ := q13 (Kd.V_elder' (gV HO_337002) (q43 ho24) hb)
        have n2_ := q13 (Kd.V_elder' (gV HO341) (q43 ho24) hb)
        have n3_ := q13 (Kd.V_elder' (gV HO346) (q43 ho24) hb)
        have n4_ := q13 (Kd.N_lower ho24 (q7 (by repeat (first | (with_reducible first | exact HB.out | apply q3 | apply q4 | apply q5 | refine q6 ?_ GE336.out) | exact HB.out))))
        have n5_ := q13 (q8 (g := gb336) (o := .cells #[.int .i64 a1_0, .int .i64 a1_1, .slice A1_2 l1_2.length c1_2] 39 (0, 0)) (gK BK336) hb)
        have n6_ := q13 (q12 (by repeat (first | (with_reducible first | exact HB.out | apply q3 | apply q4 | apply q5 | refine q6 ?_ GE336.out) | exact HB.out)) hb)
        clear HO_0
        clear HO_337002
        clear HO341
        clear HO346
        clear BK336
        clear HB
        have HO_0 := n0_
        have HO_337002 := n1_
        have HO341 := n2_
        have HO346 := n3_
        have HO349 := n4_
        have BK336 := n5_
        have HB := n6_
        clear n0_ n1_ n2_ n3_ n4_ n5_ n6_
        clear hb ho24
        obtain ⟨Ao25, co25, eo25⟩ := Kd.N_slice HO349.out
        (first | subst eo25 | (injection eo25 with f1_ f2_ f3_; have f4_ := f1_.symm; have f5_ := f3_.symm; clear f1_ f2_ f3_; subst f4_; subst f5_))
        refine hK.out _ _ ⟨(q9 BK336.out 0).trans rfl, (q9 BK336.out 1).trans rfl, (q9 BK336.out 2).trans rfl⟩ (fun hHeld => ?_)
        clear hK K
        refine norm_ (a' := ?_) ?_ ?_
        rotate_left
        ·show Act.put _ (some 44) _ = _
         simp only [Act.put, List.setIfInBounds_toArray, List.set_cons_zero, List.set_cons_succ, i64_w, i32_w]
         rfl
        refine one_ (i := 14) (N := some 45) (fl 18 15 []) rfl rfl (one_of HT_.out (by kernel_rfl)) (by decide) (fun K hK => ?_)
        refine goes_ Try.func34 (by kernel_rfl) rfl #[.slice Ao25 y347.length co25] (by rfl) rfl rfl (by (try simp only [List.map_toArray, List.map_cons, List.map_nil]); first | done | rfl | (simp only [List.length_drop, List.length_take]; rfl)) ?_
        with_reducible refine (api_Mark_34.calls kj2 (fun k_ => (((P0_ k_ ∨ P1_2_ k_) ∨ w.heap.size ≤ k_) ∧ k_ ≠ gb336)) _ _ y347 t350 _ ?side1 A18.out).mono ?_
        (case side1 => exact Kd.N_V (HO349.out))
        rintro e w26 ⟨v351, rfl, ho0, hb⟩
        refine ⟨_, rfl, ?_⟩
        have n0_ := q13 (Kd.V_elder' (gV HO_0) (by first | exact q43 ho0 | exact q44 ho0 | exact Kd.S_base ho0) hb)
        have n1_ := q13 (Kd.V_elder' (gV HO_337002) (by first | exact q43 ho0 | exact q44 ho0 | exact Kd.S_base ho0) hb)
        have n2_ := q13 (Kd.V_elder' (gV HO341) (by first | exact q43 ho0 | exact q44 ho0 | exact Kd.S_base ho0) hb)
        have n3_ := q13 (Kd.V_elder' (gV HO346) (by first | exact q43 ho0 | exact q44 ho0 | exact Kd.S_base ho0) hb)
        have n4_ := q13 (Kd.N_elder' (gN HO349) (by first | exact q43 ho0 | exact q44 ho0 | exact Kd.S_base ho0) hb)
        have n5_ := q13 (Kd.N_lower (Kd.N_mono (ok' := fun k_ => ((P0_ k_ ∨ P1_2_ k_) ∨ w.heap.size ≤ k_) ∧ k_ ≠ gb336) ho0 (fun k_ hk_ => ⟨Or.elim hk_ (fun hs_ => hs_.1) (fun hn_ => (.inr (Nat.le_trans (q7 (by repeat (first | (with_reducible first | exact HB.out | apply q3 | apply q4 | apply q5 | refine q6 ?_ GE336.out) | exact HB.out))) hn_))), Or.elim hk_ (fun hs_ => hs_.2) (fun hn_ => (Kd.freshB (g := gb336) (o := .cells #[.int .i64 a1_0, .int .i64 a1_1, .slice A1_2 l1_2.length c1_2] 39 (0, 0)) (gK BK336) k_ hn_))⟩)) (q7 (by repeat (first | (with_reducible first | exact HB.out | apply q3 | apply q4 | apply q5 | refine q6 ?_ GE336.out) | exact HB.out))))
        have n6_ := q13 (q8 (g := gb336) (o := .cells #[.int .i64 a1_0, .int .i64 a1_1, .slice A1_2 l1_2.length c1_2] 39 (0, 0)) (gK BK336) hb)
        have n7_ := q13 (q12 (by repeat (first | (with_reducible first | exact HB.out | apply q3 | apply q4 | apply q5 | refine q6 ?_ GE336.out) | exact HB.out)) hb)
        clear HO_0
        clear HO_337002
        clear HO341
        clear HO346
        clear HO349
        clear BK336
        clear HB
        have HO_0 := n0_
        have HO_337002 := n1_
        have HO341 := n2_
        have HO346 := n3_
        have HO349 := n4_
        have HO352 := n5_
        have BK336 := n6_
        have HB := n7_
        clear n0_ n1_ n2_ n3_ n4_ n5_ n6_ n7_
        (try clear hb)
        (try clear hb2)
        (try clear hk)
        (try clear hi)
        (try clear ho0)
        obtain ⟨Ao27, co27, eo27⟩ := Kd.N_slice HO352.out
        (first | subst eo27 | (injection eo27 with f1_ f2_ f3_; have f4_ := f1_.symm; have f5_ := f3_.symm; clear f1_ f2_ f3_; subst f4_; subst f5_))
        refine hK.out _ _ ⟨(q9 BK336.out 0).trans rfl, (q9 BK336.out 1).trans rfl, (q9 BK336.out 2).trans rfl⟩ (fun hHeld => ?_)
        clear hK K
        refine norm_ (a' := ?_) ?_ ?_
        rotate_left
        ·show Act.put _ (some 45) _ = _
         simp only [Act.put, List.setIfInBounds_toArray, List.set_cons_zero, List.set_cons_succ, i64_w, i32_w]
         rfl
        refine one_ (i := 15) (N := some 46) (fl 18 16 []) rfl rfl (one_of HT_.out (by kernel_rfl)) (by decide) (fun K hK => ?_)
        refine goes_ Try.func29 (by kernel_rfl) rfl #[.slice Ao27 t350.length co27] (by rfl) rfl rfl (by (try simp only [List.map_toArray, List.map_cons, List.map_nil]); first | done | rfl | (simp only [List.length_drop, List.length_take]; rfl)) ?_
        with_reducible refine (compare_own.calls kj2 (fun k_ => (((P0_ k_ ∨ P1_2_ k_) ∨ w.heap.size ≤ k_) ∧ k_ ≠ gb336)) _ _ t350 t353 _ ?side1 A19.out).mono ?_
        (case side1 => exact Kd.N_V (HO352.out))
        rintro e w28 ⟨v354, rfl, ho0, hb⟩
        refine ⟨_, rfl, ?_⟩
        have n0_ := q13 (Kd.V_elder' (gV HO_0) (by first | exact q43 ho0 | exact q44 ho0 | exact Kd.S_base ho0) hb)
        have n1_ := q13 (Kd.V_elder' (gV HO_337002) (by first | exact q43 ho0 | exact q44 ho0 | exact Kd.S_base ho0) hb)
        have n2_ := q13 (Kd.V_elder' (gV HO341) (by first | exact q43 ho0 | exact q44 ho0 | exact Kd.S_base ho0) hb)
        have n3_ := q13 (Kd.V_elder' (gV HO346) (by first | exact q43 ho0 | exact q44 ho0 | exact Kd.S_base ho0) hb)
        have n4_ := q13 (Kd.N_elder' (gN HO349) (by first | exact q43 ho0 | exact q44 ho0 | exact Kd.S_base ho0) hb)
        have n5_ := q13 (Kd.N_elder' (gN HO352) (by first | exact q43 ho0 | exact q44 ho0 | exact Kd.S_base ho0) hb)
        have n6_ := q13 (Kd.N_lower (Kd.N_mono (ok' := fun k_ => ((P0_ k_ ∨ P1_2_ k_) ∨ w.heap.size ≤ k_) ∧ k_ ≠ gb336) ho0 (fun k_ hk_ => ⟨Or.elim hk_ (fun hs_ => hs_.1) (fun hn_ => (.inr (Nat.le_trans (q7 (by repeat (first | (with_reducible first | exact HB.out | apply q3 | apply q4 | apply q5 | refine q6 ?_ GE336.out) | exact HB.out))) hn_))), Or.elim hk_ (fun hs_ => hs_.2) (fun hn_ => (Kd.freshB (g := gb336) (o := .cells #[.int .i64 a1_0, .int .i64 a1_1, .slice A1_2 l1_2.length c1_2] 39 (0, 0)) (gK BK336) k_ hn_))⟩)) (q7 (by repeat (first | (with_reducible first | exact HB.out | apply q3 | apply q4 | apply q5 | refine q6 ?_ GE336.out) | exact HB.out))))
        have n7_ := q13 (q8 (g := gb336) (o := .cells #[.int .i64 a1_0, .int .i64 a1_1, .slice A1_2 l1_2.length c1_2] 39 (0, 0)) (gK BK336) hb)
        have n8_ := q13 (q12 (by repeat (first | (with_reducible first | exact HB.out | apply q3 | apply q4 | apply q5 | refine q6 ?_ GE336.out) | exact HB.out)) hb)
        clear HO_0
        clear HO_337002
        clear HO341
        clear HO346
        clear HO349
        clear HO352
        clear BK336
        clear HB
        have HO_0 := n0_
        have HO_337002 := n1_
        have HO341 := n2_
        have HO346 := n3_
        have HO349 := n4_
        have HO352 := n5_
        have HO355 := n6_
        have BK336 := n7_
        have HB := n8_
        clear n0_ n1_ n2_ n3_ n4_ n5_ n6_ n7_ n8_
        (try clear hb)
        (try clear hb2)
        (try clear hk)
        (try clear hi)
        (try clear ho0)
        refine hK.out _ _ ⟨(q9 BK336.out 0).trans rfl, (q9 BK336.out 1).trans rfl, (q9 BK336.out 2).trans rfl⟩ (fun hHeld => ?_)
        clear hK K
        refine norm_ (a' := ?_) ?_ ?_
        rotate_left
        ·show Act.put _ (some 46) _ = _
         simp only [Act.put, List.setIfInBounds_toArray, List.set_cons_zero, List.set_cons_succ, i64_w, i32_w]
         rfl
        refine go_in [16, 17] ?_
        repeat (first | (refine pz (v := ?_) (a' := ?_) HT_ rfl rfl (by kernel_rfl) (fun _ _ _ h => h) (Or.inl ⟨by rfl, ?_⟩) ?_ ?_; rotate_left; (focus intro w'; go_simp; with_reducible rfl); rotate_left; (focus simp only [Act.put, List.setIfInBounds_toArray, List.set_cons_zero, List.set_cons_succ, i64_w, i32_w, u8_w, u8_tm, u8_c, u8_cm]; rfl)))
        refine go_out ?_
        refine done_ (done_of HT_.out (by kernel_rfl)) ?_
        try go_wp2
        go_ret2
        exact ⟨_, by first | rfl | (simp [errW_none, errW_some] <;> rfl) | (simp only [← hji15]; first | rfl | (simp [errW_none, errW_some] <;> rfl)) | (simp [*, errW_none, errW_some] <;> rfl), by (with_reducible repeat (first | apply Kd.N_alloc | apply Kd.N_drewN | apply Kd.N_drew)); exact Kd.N_mono HO355.out (fun _ hk => hk.1), by repeat (first | (with_reducible first | exact HB.out | apply q3 | apply q4 | apply q5 | refine q6 ?_ GE336.out) | exact HB.out)⟩
       ·rw [if_neg c17] at H
        exact absurd H (by simp)
      ·rw [if_neg c16] at H
       exact absurd H (by simp)
     ·rw [if_neg c14] at H
      exact absurd H (by simp)
    ·rw [if_neg c13] at H
     exact absurd H (by simp)

end Go.Proofs.Ytgjmljjnminefaa.QCP
