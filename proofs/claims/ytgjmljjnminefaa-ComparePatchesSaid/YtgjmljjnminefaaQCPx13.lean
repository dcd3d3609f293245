import Derived.Lib.SliceRun
import Derived.Test.YtgjmljjnminefaaQCPx0
import Derived.Test.YtgjmljjnminefaaQCPx9
import Derived.Test.YtgjmljjnminefaaQCPx12
import Derived.Test.YtgjmljjnminefaaFGrowCP
import Derived.Test.YtgjmljjnminefaaArrEq
import Derived.Test.YtgjmljjnminefaaZip
import Derived.Test.YtgjmljjnminefaaZip2
namespace Go.Proofs.Ytgjmljjnminefaa.QCP
open Go.Proofs.Ytgjmljjnminefaa.Zip2 Go.Proofs.Ytgjmljjnminefaa.Zip Go.RowKit Go.Proofs.YtgjmljjnminefaaW.PrintWords Go.Proofs.YtgjmljjnminefaaW.PrintLast Go.Proofs.YtgjmljjnminefaaW.PrintMore
attribute [local go_sem] max2_int min2_int max_two min_two max_three min_three max_four min_four   -- for this text's walks alone
set_option linter.unusedVariables false
set_option linter.unusedSimpArgs false

mutual
def frisketref36_Patched.j1 : Nat → List (S69) → List (S69) → Int → Option (Int × Int × (List (S69)))
 | 0, _, _, _ => none
 | k + 1, x0, x1, x5 => frisketref36_Patched.l1 k x0 x1 x5 0
def frisketref36_Patched.l1 : Nat → List (S69) → List (S69) → Int → Int → Option (Int × Int × (List (S69)))
 | 0, _, _, _, _ => none
 | k + 1, x0, x1, x5, x6 => if x6 < (wrap64 ((x0.length : Int) - x5)) then (if x6 < (wrap64 ((x1.length : Int) - x5)) then (if 0 ≤ (wrap64 ((wrap64 ((x0.length : Int) - 1)) - x6)) then (if (wrap64 ((wrap64 ((x0.length : Int) - 1)) - x6)) < (x0.length : Int) then (if 0 ≤ (wrap64 ((wrap64 ((x1.length : Int) - 1)) - x6)) then (if (wrap64 ((wrap64 ((x1.length : Int) - 1)) - x6)) < (x1.length : Int) then ((frisketref36_SameMark.f k ((rd_T69 x0 (wrap64 ((wrap64 ((x0.length : Int) - 1)) - x6))).f0) ((rd_T69 x0 (wrap64 ((wrap64 ((x0.length : Int) - 1)) - x6))).f1) ((rd_T69 x0 (wrap64 ((wrap64 ((x0.length : Int) - 1)) - x6))).f2) ((rd_T69 x0 (wrap64 ((wrap64 ((x0.length : Int) - 1)) - x6))).f3) ((rd_T69 x0 (wrap64 ((wrap64 ((x0.length : Int) - 1)) - x6))).f4) ((rd_T69 x0 (wrap64 ((wrap64 ((x0.length : Int) - 1)) - x6))).f5) ((rd_T69 x0 (wrap64 ((wrap64 ((x0.length : Int) - 1)) - x6))).f6) ((rd_T69 x0 (wrap64 ((wrap64 ((x0.length : Int) - 1)) - x6))).f7) ((rd_T69 x0 (wrap64 ((wrap64 ((x0.length : Int) - 1)) - x6))).f8) ((rd_T69 x1 (wrap64 ((wrap64 ((x1.length : Int) - 1)) - x6))).f0) ((rd_T69 x1 (wrap64 ((wrap64 ((x1.length : Int) - 1)) - x6))).f1) ((rd_T69 x1 (wrap64 ((wrap64 ((x1.length : Int) - 1)) - x6))).f2) ((rd_T69 x1 (wrap64 ((wrap64 ((x1.length : Int) - 1)) - x6))).f3) ((rd_T69 x1 (wrap64 ((wrap64 ((x1.length : Int) - 1)) - x6))).f4) ((rd_T69 x1 (wrap64 ((wrap64 ((x1.length : Int) - 1)) - x6))).f5) ((rd_T69 x1 (wrap64 ((wrap64 ((x1.length : Int) - 1)) - x6))).f6) ((rd_T69 x1 (wrap64 ((wrap64 ((x1.length : Int) - 1)) - x6))).f7) ((rd_T69 x1 (wrap64 ((wrap64 ((x1.length : Int) - 1)) - x6))).f8)).bind fun t303 => (if t303 = true then (frisketref36_Patched.l1 k x0 x1 x5 (wrap64 (x6 + 1))) else (if 0 ≤ x5 then (if x5 ≤ (wrap64 ((x1.length : Int) - x6)) then (if (wrap64 ((x1.length : Int) - x6)) ≤ (x1.length : Int) then ((frisketref36_Own.f k ((x1.take ((wrap64 ((x1.length : Int) - x6)) : Int).toNat).drop (x5 : Int).toNat)).bind fun t309 => (some (x5, wrap64 ((wrap64 ((x0.length : Int) - x5)) - x6), t309))) else (none)) else (none)) else (none)))) else (none)) else (none)) else (none)) else (none)) else (if 0 ≤ x5 then (if x5 ≤ (wrap64 ((x1.length : Int) - x6)) then (if (wrap64 ((x1.length : Int) - x6)) ≤ (x1.length : Int) then ((frisketref36_Own.f k ((x1.take ((wrap64 ((x1.length : Int) - x6)) : Int).toNat).drop (x5 : Int).toNat)).bind fun t317 => (some (x5, wrap64 ((wrap64 ((x0.length : Int) - x5)) - x6), t317))) else (none)) else (none)) else (none))) else (if 0 ≤ x5 then (if x5 ≤ (wrap64 ((x1.length : Int) - x6)) then (if (wrap64 ((x1.length : Int) - x6)) ≤ (x1.length : Int) then ((frisketref36_Own.f k ((x1.take ((wrap64 ((x1.length : Int) - x6)) : Int).toNat).drop (x5 : Int).toNat)).bind fun t325 => (some (x5, wrap64 ((wrap64 ((x0.length : Int) - x5)) - x6), t325))) else (none)) else (none)) else (none))
def frisketref36_Patched.l0 : Nat → List (S69) → List (S69) → Int → Option (Int × Int × (List (S69)))
 | 0, _, _, _ => none
 | k + 1, x0, x1, x5 => if x5 < (x0.length : Int) then (if x5 < (x1.length : Int) then (if 0 ≤ x5 then ((frisketref36_SameMark.f k ((rd_T69 x0 x5).f0) ((rd_T69 x0 x5).f1) ((rd_T69 x0 x5).f2) ((rd_T69 x0 x5).f3) ((rd_T69 x0 x5).f4) ((rd_T69 x0 x5).f5) ((rd_T69 x0 x5).f6) ((rd_T69 x0 x5).f7) ((rd_T69 x0 x5).f8) ((rd_T69 x1 x5).f0) ((rd_T69 x1 x5).f1) ((rd_T69 x1 x5).f2) ((rd_T69 x1 x5).f3) ((rd_T69 x1 x5).f4) ((rd_T69 x1 x5).f5) ((rd_T69 x1 x5).f6) ((rd_T69 x1 x5).f7) ((rd_T69 x1 x5).f8)).bind fun t300 => (if t300 = true then (frisketref36_Patched.l0 k x0 x1 (wrap64 (x5 + 1))) else (frisketref36_Patched.j1 k x0 x1 x5))) else (none)) else (frisketref36_Patched.j1 k x0 x1 x5)) else (frisketref36_Patched.j1 k x0 x1 x5)
end
def frisketref36_Patched.f (k : Nat) (l0 : List (S69)) (l1 : List (S69)) : Option (Int × Int × (List (S69))) := frisketref36_Patched.l0 k l0 l1 0
theorem frisketref36_Patched.mono_l : ∀ k, (∀ y0 y1 y2, LeO (frisketref36_Patched.j1 k y0 y1 y2) (frisketref36_Patched.j1 (k + 1) y0 y1 y2)) ∧ (∀ y0 y1 y2 y3, LeO (frisketref36_Patched.l1 k y0 y1 y2 y3) (frisketref36_Patched.l1 (k + 1) y0 y1 y2 y3)) ∧ (∀ y0 y1 y2, LeO (frisketref36_Patched.l0 k y0 y1 y2) (frisketref36_Patched.l0 (k + 1) y0 y1 y2))
 | 0 => ⟨fun _ _ _ r h => by simp [frisketref36_Patched.j1] at h, fun _ _ _ _ r h => by simp [frisketref36_Patched.l1] at h, fun _ _ _ r h => by simp [frisketref36_Patched.l0] at h⟩
 | k + 1 => by
  obtain ⟨ih0, ih1, ih2⟩ := frisketref36_Patched.mono_l k
  refine ⟨?_, ?_, ?_⟩
  ·intro y0 y1 y2
   unfold frisketref36_Patched.j1
   repeat' first
   | (with_reducible exact ih0 _ _ _)
   | (with_reducible exact ih1 _ _ _ _)
   | (with_reducible exact ih2 _ _ _)
   | (with_reducible exact frisketref36_Own.mono _ _)
   | (with_reducible exact frisketref36_SameMark.mono _ _ _ _ _ _ _ _ _ _ _ _ _ _ _ _ _ _ _)
   | (with_reducible exact LeO.refl _)
   | (with_reducible exact LeO.none _)
   | (with_reducible refine LeO.ite ?_ ?_)
   | (with_reducible refine LeO.bind ?_ (fun _ => ?_))
   | exact ih0 _ _ _
   | exact ih1 _ _ _ _
   | exact ih2 _ _ _
   | exact frisketref36_Own.mono _ _
   | exact frisketref36_SameMark.mono _ _ _ _ _ _ _ _ _ _ _ _ _ _ _ _ _ _ _
   | exact LeO.none _
   | refine LeO.ite ?_ ?_
   | refine LeO.bind ?_ (fun _ => ?_)
  ·intro y0 y1 y2 y3
   unfold frisketref36_Patched.l1
   repeat' first
   | (with_reducible exact ih0 _ _ _)
   | (with_reducible exact ih1 _ _ _ _)
   | (with_reducible exact ih2 _ _ _)
   | (with_reducible exact frisketref36_Own.mono _ _)
   | (with_reducible exact frisketref36_SameMark.mono _ _ _ _ _ _ _ _ _ _ _ _ _ _ _ _ _ _ _)
   | (with_reducible exact LeO.refl _)
   | (with_reducible exact LeO.none _)
   | (with_reducible refine LeO.ite ?_ ?_)
   | (with_reducible refine LeO.bind ?_ (fun _ => ?_))
   | exact ih0 _ _ _
   | exact ih1 _ _ _ _
   | exact ih2 _ _ _
   | exact frisketref36_Own.mono _ _
   | exact frisketref36_SameMark.mono _ _ _ _ _ _ _ _ _ _ _ _ _ _ _ _ _ _ _
   | exact LeO.none _
   | refine LeO.ite ?_ ?_
   | refine LeO.bind ?_ (fun _ => ?_)
  ·intro y0 y1 y2
   unfold frisketref36_Patched.l0
   repeat' first
   | (with_reducible exact ih0 _ _ _)
   | (with_reducible exact ih1 _ _ _ _)
   | (with_reducible exact ih2 _ _ _)
   | (with_reducible exact frisketref36_Own.mono _ _)
   | (with_reducible exact frisketref36_SameMark.mono _ _ _ _ _ _ _ _ _ _ _ _ _ _ _ _ _ _ _)
   | (with_reducible exact LeO.refl _)
   | (with_reducible exact LeO.none _)
   | (with_reducible refine LeO.ite ?_ ?_)
   | (with_reducible refine LeO.bind ?_ (fun _ => ?_))
   | exact ih0 _ _ _
   | exact ih1 _ _ _ _
   | exact ih2 _ _ _
   | exact frisketref36_Own.mono _ _
   | exact frisketref36_SameMark.mono _ _ _ _ _ _ _ _ _ _ _ _ _ _ _ _ _ _ _
   | exact LeO.none _
   | refine LeO.ite ?_ ?_
   | refine LeO.bind ?_ (fun _ => ?_)
theorem frisketref36_Patched.mono : ∀ a0 a1 k, LeO (frisketref36_Patched.f k a0 a1) (frisketref36_Patched.f (k + 1) a0 a1) := by
 intro a0 a1 k
 obtain ⟨ih0, ih1, ih2⟩ := frisketref36_Patched.mono_l k
 unfold frisketref36_Patched.f
 repeat' first
   | (with_reducible exact ih0 _ _ _)
   | (with_reducible exact ih1 _ _ _ _)
   | (with_reducible exact ih2 _ _ _)
   | (with_reducible exact frisketref36_Own.mono _ _)
   | (with_reducible exact frisketref36_SameMark.mono _ _ _ _ _ _ _ _ _ _ _ _ _ _ _ _ _ _ _)
   | (with_reducible exact LeO.refl _)
   | (with_reducible exact LeO.none _)
   | (with_reducible refine LeO.ite ?_ ?_)
   | (with_reducible refine LeO.bind ?_ (fun _ => ?_))
   | exact ih0 _ _ _
   | exact ih1 _ _ _ _
   | exact ih2 _ _ _
   | exact frisketref36_Own.mono _ _
   | exact frisketref36_SameMark.mono _ _ _ _ _ _ _ _ _ _ _ _ _ _ _ _ _ _ _
   | exact LeO.none _
   | refine LeO.ite ?_ ?_
   | refine LeO.bind ?_ (fun _ => ?_)
def frisketref36_Patched.T2 : Bool × List (List Nat × List Nat) := (true, [([], []), ([], []), ([1], [1]), ([0, 2], [0, 2]), ([3], [3]), ([4], [4]), ([4], [4]), ([6, 4], [4, 6]), ([5, 7, 4], [4, 5, 7]), ([4, 8], [4, 8]), ([9, 4], [9]), ([10], [10]), ([10], [10]), ([11, 12, 10], [10, 11, 12]), ([13, 10], [10, 13]), ([10], [10]), ([10], [10]), ([15, 16, 10], [10, 15, 16]), ([17, 10], [10, 17]), ([14, 18, 10, 10], [10, 14, 18]), ([10, 19], [10, 19])])
def frisketref36_Patched.B2 : List Nat := [0, 0, 2, 7, 15, 31, 31, 95, 255, 511, 1023, 2047, 2047, 8191, 16383, 2047, 2047, 100351, 231423, 524287, 1048575]
theorem frisketref36_Patched.tab2 : rtab .any (opsOf Try.f19 2) = frisketref36_Patched.T2 := by kernel_rfl
theorem frisketref36_Patched.bits2 : waitsOk frisketref36_Patched.T2.2 frisketref36_Patched.B2 = true := by kernel_rfl
def frisketref36_Patched.T5 : Bool × List (List Nat × List Nat) := (true, [([], []), ([], []), ([1], [1]), ([], []), ([2, 3], [2, 3]), ([0, 4], [0, 4]), ([5], [5]), ([6], [6]), ([6], [6]), ([8, 6], [6, 8]), ([6], [6]), ([9, 10, 6], [6, 9, 10]), ([7, 11, 6], [6, 7, 11]), ([6, 12], [6, 12]), ([13, 6], [13]), ([14], [14]), ([14], [14]), ([16, 14], [14, 16]), ([17, 14], [14, 17]), ([14], [14]), ([18, 19, 14], [14, 18, 19]), ([15, 20, 14], [14, 15, 20]), ([21, 14], [14, 21]), ([14], [14]), ([14], [14]), ([24, 14], [14, 24]), ([25, 14], [14, 25]), ([14], [14]), ([26, 27, 14], [14, 26, 27]), ([23, 28, 14], [14, 23, 28]), ([29, 14], [14, 29]), ([22, 30, 14, 14], [14, 22, 30]), ([14, 31], [14, 31])])
def frisketref36_Patched.B5 : List Nat := [0, 0, 2, 0, 14, 31, 63, 127, 127, 383, 127, 1919, 4095, 8191, 16383, 32767, 32767, 98303, 229375, 32767, 1015807, 2097151, 4194303, 32767, 32767, 16809983, 50364415, 32767, 251691007, 528515071, 1065385983, 2147483647, 4294967295]
theorem frisketref36_Patched.tab5 : rtab .any (opsOf Try.f19 5) = frisketref36_Patched.T5 := by kernel_rfl
theorem frisketref36_Patched.bits5 : waitsOk frisketref36_Patched.T5.2 frisketref36_Patched.B5 = true := by kernel_rfl
set_option maxHeartbeats 8000000 in
set_option maxRecDepth 100000 in
theorem frisketref36_Patched.calls (k : Nat) (A0 : Option Addr) (c0 : Nat) (l0 : List (S69)) (P1_ : Nat → Prop) (A1 : Option Addr) (c1 : Nat) (l1 : List (S69)) (r1 : Int) (r2 : Int) (r3 : List (S69)) (w : World) (hr0 : Kd.C k69 w A0 l0.length l0) (hc0 : l0.length ≤ c0) (hs1 : Kd.V k69 69 w w.heap.size (fun k_ => P1_ k_) (.slice A1 l1.length c1) l1) (h : frisketref36_Patched.f k l0 l1 = some (r1, r2, r3)) :
  Calls Try.prog 19 #[.slice A0 l0.length c0, .slice A1 l1.length c1] w fun e w' => ∃ v2_ : Value, e = .returned (.agg #[.int .i64 r1, .int .i64 r2, v2_]) ∧ Kd.N k69 69 w' w.heap.size (fun k_ => (P1_ k_ ∨ w.heap.size ≤ k_)) v2_ r3 ∧ Below w.heap.size w w' := by
 have hu43 := Try.underlying43
 have hu69 := Try.underlying69
 have HR0 := q13 hr0
 have HC0 := q13 hc0
 clear hr0 hc0
 have HO1 := q13 (show Kd.V k69 69 w w.heap.size (fun k_ => (P1_ k_ ∨ w.heap.size ≤ k_)) (.slice A1 l1.length c1) l1 from Kd.V_mono hs1 (fun k_ hk => .inl hk))
 have HB := q13 (Below.refl w.heap.size w)
 have H : (frisketref36_Patched.l0 k l0 l1 0) = some (r1, r2, r3) := h
 clear h
 have HC3 := q13 H
 clear H
 go_enter Try.func19, Try.ntmps19
 go_upto_block 0 with (first | ((with_reducible refine gate_dst (N := 4) rfl ?_); (try (refine gate_guard (by rfl) ?_; dsimp only)); refine box_event ?hg (N := 4) ?hd (cs := #[.int .i64 0, .int .i64 0, .slice none 0 0]) (t := 43) ?hr ?_; (case hd => rfl); (case hg => rfl); (case hr => first | (go_simp; done) | (go_simp; rfl)); intro gb297 hg w4 hbox hb; have n0_ := q13 (Kd.V_below (Kd.V_elderB (gV HO1) gb297 (Nat.le_of_eq hg.symm)) hb); have n1_ := q13 (q12 (gB HB) hb); have n2_ := q13 (hbox); have n3_ := q13 ((by rw [hg]; exact (q7 (gB HB)) : w.heap.size ≤ gb297)); have n4_ := q13 ((by rw [hg]; exact (q7 (gB HB)) : w.heap.size ≤ gb297)); clear HO1; clear HB; have HO1 := n0_; have HB := n1_; have BK297 := n2_; have GW297 := n3_; have GE297 := n4_; clear n0_ n1_ n2_ n3_ n4_; clear hb hbox hg))
 (try simp only [Act.put, List.setIfInBounds_toArray, List.set_cons_zero, List.set_cons_succ])
 go_cut [5] (fun v5 wc => ∃ (kq : Nat) (x5_2 : Int), v5 = .int .i64 x5_2 ∧ Aside0 (frisketref36_Patched.j1 kq l0 l1 x5_2 = some (r1, r2, r3)) ∧ Aside0 (kq ≤ k) ∧ Aside0 (Kd.V k69 69 wc w.heap.size (fun k_ => (P1_ k_ ∨ w.heap.size ≤ k_) ∧ k_ ≠ gb297) (.slice A1 l1.length c1) l1) ∧ Aside0 (wc.heap[gb297]? = some (.cells #[.int .i64 0, .int .i64 0, (.slice none 0 0)] 43 (0, 0))) ∧ Aside0 (Below w.heap.size w wc))
 case first =>
  have H := HC3.out
  clear HC3
  have H' := q13 H
  clear H
  go_wp2
  go_loopg [5] k (fun kq v5 w' => ∃ (x5_1 : Int), v5 = .int .i64 x5_1 ∧ Aside0 (frisketref36_Patched.l0 kq l0 l1 x5_1 = some (r1, r2, r3)) ∧ Aside0 (kq ≤ k) ∧ Aside0 (Kd.V k69 69 w' w.heap.size (fun k_ => (P1_ k_ ∨ w.heap.size ≤ k_) ∧ k_ ≠ gb297) (.slice A1 l1.length c1) l1) ∧ Aside0 (w'.heap[gb297]? = some (.cells #[.int .i64 0, .int .i64 0, (.slice none 0 0)] 43 (0, 0))) ∧ Aside0 (Below w.heap.size w w'))
  case atStart => exact ⟨(0), (by first | rfl | (simp; done) | (simp [*]; done)), H', ⟨q17 _⟩, ⟨by (with_reducible repeat (first | apply Kd.V_alloc | apply Kd.V_drewN | apply Kd.V_drew)); exact HO1.out⟩, ⟨by (with_reducible repeat (first | refine q0 ?_ _ | refine q1 ?_ | refine q2 ?_ _)); exact BK297.out⟩, ⟨by repeat (first | (with_reducible first | exact HB.out | apply q3 | apply q4 | apply q5 | refine q6 ?_ GE297.out) | exact HB.out)⟩⟩
  case round =>
   clear H'
   try clear c1
   try clear p2
   obtain ⟨x5_1, rfl, HA, HK1, HO_1, BK297, HB⟩ := hrel
   cases gk with
   | zero => exact absurd HA.out (by simp [frisketref36_Patched.l0])
   | succ k1 =>
    have H := HA.out
    clear HA
    simp only [frisketref36_Patched.l0] at H
    by_cases c5 : x5_1 < (l0.length : Int)
    ·rw [if_pos c5] at H
     have c5b0 : decide (x5_1 < (l0.length : Int)) = true := decide_eq_true c5
     clear c5
     (first | rw [c5b0] | (simp only [i64_w, i32_w]; rw [c5b0]) | skip)
     by_cases c6 : x5_1 < (l1.length : Int)
     ·rw [if_pos c6] at H
      have c6b0 : decide (x5_1 < (l1.length : Int)) = true := decide_eq_true c6
      clear c6
      by_cases c7 : 0 ≤ x5_1
      ·rw [if_pos c7] at H
       have c7b0 : decide (0 ≤ x5_1) = true := decide_eq_true c7
       clear c7
       replace H := Option.bind_eq_some_iff.mp H
       obtain ⟨t300, A80, H⟩ := H
       replace H : (if t300 = true then (frisketref36_Patched.l0 k1 l0 l1 (wrap64 (x5_1 + 1))) else (frisketref36_Patched.j1 k1 l0 l1 x5_1)) = some (r1, r2, r3) := H
       have A8 := q13 A80
       clear A80
       by_cases c9 : t300 = true
       ·subst c9
        have H1 : (frisketref36_Patched.l0 k1 l0 l1 (wrap64 (x5_1 + 1))) = some (r1, r2, r3) := by rw [if_pos rfl] at H; exact H
        clear H
        have H := H1
        clear H1
        have H' := q13 H
        clear H
        try go_wp2
        have n0_ := q13 (Kd.V_drew HO_1.out)
        have n1_ := q13 (q1 BK297.out)
        have n2_ := q13 (q5 HB.out)
        clear HO_1
        clear BK297
        clear HB
        have HO_1 := n0_
        have BK297 := n1_
        have HB := n2_
        clear n0_ n1_ n2_
        have p298 : 0 ≤ (x5_1 : Int) := q15 (by assumption)
        have qz298 : x5_1 < (l0.length : Int) := q15 (by assumption)
        obtain ⟨ad298, A298_8, c298_8, e298, hx298_0, hx298_1, hx298_2, hx298_3, hx298_4, hx298_5, hx298_6, hx298_7, hx298_8, hl298_8, hi298_8⟩ := at_T69 HR0.out x5_1 p298 qz298
        have hw298_8 := hx298_8
        have hw298_7 := hx298_7
        have hw298_6 := hx298_6
        have hw298_5 := hx298_5
        have hw298_4 := hx298_4
        have hw298_3 := hx298_3
        have hw298_2 := hx298_2
        have hw298_1 := hx298_1
        have hw298_0 := hx298_0
        cases e298
        replace hx298_0 := cl HB.out hx298_0
        replace hx298_1 := cl HB.out hx298_1
        replace hx298_2 := cl HB.out hx298_2
        replace hx298_3 := cl HB.out hx298_3
        replace hx298_4 := cl HB.out hx298_4
        replace hx298_5 := cl HB.out hx298_5
        replace hx298_6 := cl HB.out hx298_6
        replace hx298_7 := cl HB.out hx298_7
        replace hx298_8 := cl HB.out hx298_8
        have HR298_8 := q13 hi298_8
        have HC298_8 := q13 hl298_8
        clear hi298_8 hl298_8
        replace p298 := eq_true p298
        replace qz298 := eq_true qz298
        have p299 : 0 ≤ (x5_1 : Int) := q15 (by assumption)
        have qz299 : x5_1 < (l1.length : Int) := q15 (by assumption)
        obtain ⟨ad299, A299_8, c299_8, e299, hx299_0, hx299_1, hx299_2, hx299_3, hx299_4, hx299_5, hx299_6, hx299_7, hx299_8, hl299_8, hi299_8⟩ := at_T69 (Kd.V_reads' HO_1.out).2.2 x5_1 p299 qz299
        cases e299
        obtain ⟨ce299, hce299, hMe299, hcc299⟩ := Kd.V_get HO_1.out z69 x5_1 p299 (by first | exact qz299 | exact q15 (by assumption) | (have e_ := (Kd.V_reads' HO_1.out).1; omega))
        obtain ⟨ua299_8, uc299_8, rfl, ul299_8, ge299_8⟩ := k69_openF hMe299
        have hv299_8 := hcc299 8 _ rfl
        rw [add_field _ _ 8 (by omega)] at hv299_8
        replace hv299_8 := Option.some.inj (hv299_8.symm.trans hx299_8)
        injection hv299_8 with hva_ hvn_ hvc_
        rw [hva_] at ge299_8
        rw [hvc_] at ul299_8
        have HL299_8 := q13 (show Kd.V (Kd.int .i64) 3 _ w.heap.size _ _ ((rd_T69 l1 x5_1).f8) from Kd.V_mk ul299_8 ge299_8)
        clear hva_ hvn_ hvc_ ge299_8 ul299_8
        clear hcc299 hce299
        have HR299_8 := q13 hi299_8
        have HC299_8 := q13 hl299_8
        clear hi299_8 hl299_8
        replace p299 := eq_true p299
        replace qz299 := eq_true qz299
        refine start_ (n := 21) (S := fun w' => w'.cell? (ad298.add ((x5_1).toNat * 9)) = some (.int .i64 ((rd_T69 l0 x5_1).f0)) ∧ w'.cell? ⟨(ad298.add ((x5_1).toNat * 9)).block, (ad298.add ((x5_1).toNat * 9)).off + 1, none⟩ = some (.int .i64 ((rd_T69 l0 x5_1).f1)) ∧ w'.cell? ⟨(ad298.add ((x5_1).toNat * 9)).block, (ad298.add ((x5_1).toNat * 9)).off + 2, none⟩ = some (.int .i64 ((rd_T69 l0 x5_1).f2)) ∧ w'.cell? ⟨(ad298.add ((x5_1).toNat * 9)).block, (ad298.add ((x5_1).toNat * 9)).off + 3, none⟩ = some (.int .i64 ((rd_T69 l0 x5_1).f3)) ∧ w'.cell? ⟨(ad298.add ((x5_1).toNat * 9)).block, (ad298.add ((x5_1).toNat * 9)).off + 4, none⟩ = some (.int .i64 ((rd_T69 l0 x5_1).f4)) ∧ w'.cell? ⟨(ad298.add ((x5_1).toNat * 9)).block, (ad298.add ((x5_1).toNat * 9)).off + 5, none⟩ = some (.string ((rd_T69 l0 x5_1).f5)) ∧ w'.cell? ⟨(ad298.add ((x5_1).toNat * 9)).block, (ad298.add ((x5_1).toNat * 9)).off + 6, none⟩ = some (.string ((rd_T69 l0 x5_1).f6)) ∧ w'.cell? ⟨(ad298.add ((x5_1).toNat * 9)).block, (ad298.add ((x5_1).toNat * 9)).off + 7, none⟩ = some (.string ((rd_T69 l0 x5_1).f7)) ∧ w'.cell? ⟨(ad298.add ((x5_1).toNat * 9)).block, (ad298.add ((x5_1).toNat * 9)).off + 8, none⟩ = some (.slice A298_8 ((rd_T69 l0 x5_1).f8).length c298_8) ∧ w'.cell? (ad299.add ((x5_1).toNat * 9)) = some (.int .i64 ((rd_T69 l1 x5_1).f0)) ∧ w'.cell? ⟨(ad299.add ((x5_1).toNat * 9)).block, (ad299.add ((x5_1).toNat * 9)).off + 1, none⟩ = some (.int .i64 ((rd_T69 l1 x5_1).f1)) ∧ w'.cell? ⟨(ad299.add ((x5_1).toNat * 9)).block, (ad299.add ((x5_1).toNat * 9)).off + 2, none⟩ = some (.int .i64 ((rd_T69 l1 x5_1).f2)) ∧ w'.cell? ⟨(ad299.add ((x5_1).toNat * 9)).block, (ad299.add ((x5_1).toNat * 9)).off + 3, none⟩ = some (.int .i64 ((rd_T69 l1 x5_1).f3)) ∧ w'.cell? ⟨(ad299.add ((x5_1).toNat * 9)).block, (ad299.add ((x5_1).toNat * 9)).off + 4, none⟩ = some (.int .i64 ((rd_T69 l1 x5_1).f4)) ∧ w'.cell? ⟨(ad299.add ((x5_1).toNat * 9)).block, (ad299.add ((x5_1).toNat * 9)).off + 5, none⟩ = some (.string ((rd_T69 l1 x5_1).f5)) ∧ w'.cell? ⟨(ad299.add ((x5_1).toNat * 9)).block, (ad299.add ((x5_1).toNat * 9)).off + 6, none⟩ = some (.string ((rd_T69 l1 x5_1).f6)) ∧ w'.cell? ⟨(ad299.add ((x5_1).toNat * 9)).block, (ad299.add ((x5_1).toNat * 9)).off + 7, none⟩ = some (.string ((rd_T69 l1 x5_1).f7)) ∧ w'.cell? ⟨(ad299.add ((x5_1).toNat * 9)).block, (ad299.add ((x5_1).toNat * 9)).off + 8, none⟩ = some (.slice A299_8 ((rd_T69 l1 x5_1).f8).length c299_8)) (ds := []) (Array.replicate 21 false) (by kernel_rfl) rfl rfl ⟨(cl HB.out hw298_0), (cl HB.out hw298_1), (cl HB.out hw298_2), (cl HB.out hw298_3), (cl HB.out hw298_4), (cl HB.out hw298_5), (cl HB.out hw298_6), (cl HB.out hw298_7), (cl HB.out hw298_8), hx299_0, hx299_1, hx299_2, hx299_3, hx299_4, hx299_5, hx299_6, hx299_7, hx299_8⟩ (fun hHeld => ?_); refine with_tabW frisketref36_Patched.tab2 frisketref36_Patched.bits2 (fun HT_ HW_ => ?_)
        generalize wr.drew = w10 at HO_1 BK297 HB HL299_8 HR298_8 HR299_8 hx298_0 hx298_1 hx298_2 hx298_3 hx298_4 hx298_5 hx298_6 hx298_7 hx298_8 hx299_0 hx299_1 hx299_2 hx299_3 hx299_4 hx299_5 hx299_6 hx299_7 hx299_8 hHeld ⊢
        refine go_in [0, 1, 2, 3, 4, 5, 6, 7, 8, 9, 10, 11, 12, 13, 15, 16, 17, 14, 18] ?_
        repeat (first | (refine pz (v := ?_) (a' := ?_) HT_ rfl rfl (by kernel_rfl) (fun _ _ _ h => h) (Or.inl ⟨by rfl, ?_⟩) ?_ ?_; rotate_left; (focus intro w'; go_simp; with_reducible rfl); rotate_left; (focus simp only [Act.put, List.setIfInBounds_toArray, List.set_cons_zero, List.set_cons_succ, i64_w, i32_w, u8_w, u8_tm, u8_c, u8_cm]; rfl)) | (refine tz (v := ?_) (a' := ?_) HT_ HW_ rfl rfl hHeld (by kernel_rfl) (fun _ _ _ h => h) (Or.inl ⟨by rfl, ?_⟩) ?_ ?_; rotate_left; (focus rintro w' ⟨s0, s1, s2, s3, s4, s5, s6, s7, s8, s9, s10, s11, s12, s13, s14, s15, s16, s17⟩; go_simp; with_reducible rfl); rotate_left; (focus simp only [Act.put, List.setIfInBounds_toArray, List.set_cons_zero, List.set_cons_succ, i64_w, i32_w, u8_w, u8_tm, u8_c, u8_cm]; rfl)))
        refine go_out ?_
        refine one_ (i := 19) (N := some 26) (fl 21 20 []) rfl rfl (one_of HT_.out (by kernel_rfl)) (by decide) (fun K hK => ?_)
        refine goes_ Try.func31 (by kernel_rfl) rfl #[.agg #[.int .i64 ((rd_T69 l0 x5_1).f0), .int .i64 ((rd_T69 l0 x5_1).f1), .int .i64 ((rd_T69 l0 x5_1).f2), .int .i64 ((rd_T69 l0 x5_1).f3), .int .i64 ((rd_T69 l0 x5_1).f4), .string ((rd_T69 l0 x5_1).f5), .string ((rd_T69 l0 x5_1).f6), .string ((rd_T69 l0 x5_1).f7), .slice A298_8 ((rd_T69 l0 x5_1).f8).length c298_8], .agg #[.int .i64 ((rd_T69 l1 x5_1).f0), .int .i64 ((rd_T69 l1 x5_1).f1), .int .i64 ((rd_T69 l1 x5_1).f2), .int .i64 ((rd_T69 l1 x5_1).f3), .int .i64 ((rd_T69 l1 x5_1).f4), .string ((rd_T69 l1 x5_1).f5), .string ((rd_T69 l1 x5_1).f6), .string ((rd_T69 l1 x5_1).f7), .slice A299_8 ((rd_T69 l1 x5_1).f8).length c299_8]] (by rfl) rfl rfl (by (try simp only [List.map_toArray, List.map_cons, List.map_nil]); first | done | rfl | (simp only [List.length_drop, List.length_take]; rfl)) ?_
        with_reducible refine (frisketref36_SameMark.calls k1 ((rd_T69 l0 x5_1).f0) ((rd_T69 l0 x5_1).f1) ((rd_T69 l0 x5_1).f2) ((rd_T69 l0 x5_1).f3) ((rd_T69 l0 x5_1).f4) ((rd_T69 l0 x5_1).f5) ((rd_T69 l0 x5_1).f6) ((rd_T69 l0 x5_1).f7) _ _ ((rd_T69 l0 x5_1).f8) ((rd_T69 l1 x5_1).f0) ((rd_T69 l1 x5_1).f1) ((rd_T69 l1 x5_1).f2) ((rd_T69 l1 x5_1).f3) ((rd_T69 l1 x5_1).f4) ((rd_T69 l1 x5_1).f5) ((rd_T69 l1 x5_1).f6) ((rd_T69 l1 x5_1).f7) _ _ ((rd_T69 l1 x5_1).f8) true _ ?side1 ?side2 ?side3 ?side4 A8.out).mono ?_
        (case side1 => repeat (first | exact (Kd.C_below HR298_8.out HB.out) | (with_reducible refine q18 ?_ _) | (with_reducible refine q19 ?_ _) | (with_reducible refine q20 ?_)))
        (case side2 => exact HC298_8.out)
        (case side3 => repeat (first | exact (by repeat (first | (with_reducible exact HR299_8.out) | (with_reducible refine q18 ?_ _) | (with_reducible refine q19 ?_ _) | (with_reducible refine q20 ?_) | exact HR299_8.out)) | (with_reducible refine q18 ?_ _) | (with_reducible refine q19 ?_ _) | (with_reducible refine q20 ?_)))
        (case side4 => exact HC299_8.out)
        rintro e w11 ⟨rfl, hb⟩
        have HS9_ := (hb.cell (q14 _ _ (hHeld.2.2.2.2.2.2.2.2.2.1))).trans (hHeld.2.2.2.2.2.2.2.2.2.1)
        have HS10_ := (hb.cell (q14 _ _ (hHeld.2.2.2.2.2.2.2.2.2.2.1))).trans (hHeld.2.2.2.2.2.2.2.2.2.2.1)
        have HS11_ := (hb.cell (q14 _ _ (hHeld.2.2.2.2.2.2.2.2.2.2.2.1))).trans (hHeld.2.2.2.2.2.2.2.2.2.2.2.1)
        have HS12_ := (hb.cell (q14 _ _ (hHeld.2.2.2.2.2.2.2.2.2.2.2.2.1))).trans (hHeld.2.2.2.2.2.2.2.2.2.2.2.2.1)
        have HS13_ := (hb.cell (q14 _ _ (hHeld.2.2.2.2.2.2.2.2.2.2.2.2.2.1))).trans (hHeld.2.2.2.2.2.2.2.2.2.2.2.2.2.1)
        have HS14_ := (hb.cell (q14 _ _ (hHeld.2.2.2.2.2.2.2.2.2.2.2.2.2.2.1))).trans (hHeld.2.2.2.2.2.2.2.2.2.2.2.2.2.2.1)
        have HS15_ := (hb.cell (q14 _ _ (hHeld.2.2.2.2.2.2.2.2.2.2.2.2.2.2.2.1))).trans (hHeld.2.2.2.2.2.2.2.2.2.2.2.2.2.2.2.1)
        have HS16_ := (hb.cell (q14 _ _ (hHeld.2.2.2.2.2.2.2.2.2.2.2.2.2.2.2.2.1))).trans (hHeld.2.2.2.2.2.2.2.2.2.2.2.2.2.2.2.2.1)
        have HS17_ := (hb.cell (q14 _ _ (hHeld.2.2.2.2.2.2.2.2.2.2.2.2.2.2.2.2.2))).trans (hHeld.2.2.2.2.2.2.2.2.2.2.2.2.2.2.2.2.2)
        refine ⟨_, rfl, ?_⟩
        have n0_ := q13 (Kd.V_below (gV HO_1) hb)
        have n1_ := q13 (Kd.V_below (gV HL299_8) hb)
        have n2_ := q13 (q8 (g := gb297) (o := .cells #[.int .i64 0, .int .i64 0, .slice none 0 0] 43 (0, 0)) (gK BK297) hb)
        have n3_ := q13 (Kd.C_below (by repeat (first | (with_reducible exact HR299_8.out) | (with_reducible refine q18 ?_ _) | (with_reducible refine q19 ?_ _) | (with_reducible refine q20 ?_) | exact HR299_8.out)) hb)
        have n4_ := q13 (q12 (by repeat (first | (with_reducible first | exact HB.out | apply q3 | apply q4 | apply q5 | refine q6 ?_ GE297.out) | exact HB.out)) hb)
        clear HO_1
        clear HL299_8
        clear BK297
        clear HR299_8
        clear HB
        have HO_1 := n0_
        have HL299_8 := n1_
        have BK297 := n2_
        have HR299_8 := n3_
        have HB := n4_
        clear n0_ n1_ n2_ n3_ n4_
        (try clear hb)
        (try clear hb2)
        (try clear hk)
        (try clear hi)
        refine hK.out _ _ ⟨(cl HB.out hw298_0), (cl HB.out hw298_1), (cl HB.out hw298_2), (cl HB.out hw298_3), (cl HB.out hw298_4), (cl HB.out hw298_5), (cl HB.out hw298_6), (cl HB.out hw298_7), (cl HB.out hw298_8), HS9_, HS10_, HS11_, HS12_, HS13_, HS14_, HS15_, HS16_, HS17_⟩ (fun hHeld => ?_)
        clear hK K
        refine norm_ (a' := ?_) ?_ ?_
        rotate_left
        ·show Act.put _ (some 26) _ = _
         simp only [Act.put, List.setIfInBounds_toArray, List.set_cons_zero, List.set_cons_succ, i64_w, i32_w]
         rfl
        refine go_in [20] ?_
        (refine pz (v := ?_) (a' := ?_) HT_ rfl rfl (by kernel_rfl) (fun _ _ _ h => h) (Or.inl ⟨by rfl, ?_⟩) ?_ ?_; rotate_left; (focus intro w'; go_simp; with_reducible rfl); rotate_left; (focus simp only [Act.put, List.setIfInBounds_toArray, List.set_cons_zero, List.set_cons_succ, i64_w, i32_w, u8_w, u8_tm, u8_c, u8_cm]; rfl))
        refine go_out ?_
        refine done_ (done_of HT_.out (by kernel_rfl)) ?_
        try go_wp2
        go_roundg k1
        case measure => have := HK1.out; omega
        case rel => exact ⟨(wrap64 (x5_1 + 1)), (by first | rfl | (simp; done) | (simp [*]; done)), H', ⟨by have := HK1.out; omega⟩, ⟨by (with_reducible repeat (first | apply Kd.V_alloc | apply Kd.V_drewN | apply Kd.V_drew)); exact HO_1.out⟩, ⟨by (with_reducible repeat (first | refine q0 ?_ _ | refine q1 ?_ | refine q2 ?_ _)); exact BK297.out⟩, ⟨by repeat (first | (with_reducible first | exact HB.out | apply q3 | apply q4 | apply q5 | refine q6 ?_ GE297.out) | exact HB.out)⟩⟩
       ·replace c9 := Bool.eq_false_iff.mpr c9
        subst c9
        have H1 : (frisketref36_Patched.j1 k1 l0 l1 x5_1) = some (r1, r2, r3) := by rw [if_neg (show ¬ (false = true) by decide)] at H; exact H
        clear H
        have H := H1
        clear H1
        have H' := q13 H
        clear H
        try go_wp2
        have n0_ := q13 (Kd.V_drew HO_1.out)
        have n1_ := q13 (q1 BK297.out)
        have n2_ := q13 (q5 HB.out)
        clear HO_1
        clear BK297
        clear HB
        have HO_1 := n0_
        have BK297 := n1_
        have HB := n2_
        clear n0_ n1_ n2_
        have p298 : 0 ≤ (x5_1 : Int) := q15 (by assumption)
        have qz298 : x5_1 < (l0.length : Int) := q15 (by assumption)
        obtain ⟨ad298, A298_8, c298_8, e298, hx298_0, hx298_1, hx298_2, hx298_3, hx298_4, hx298_5, hx298_6, hx298_7, hx298_8, hl298_8, hi298_8⟩ := at_T69 HR0.out x5_1 p298 qz298
        have hw298_8 := hx298_8
        have hw298_7 := hx298_7
        have hw298_6 := hx298_6
        have hw298_5 := hx298_5
        have hw298_4 := hx298_4
        have hw298_3 := hx298_3
        have hw298_2 := hx298_2
        have hw298_1 := hx298_1
        have hw298_0 := hx298_0
        cases e298
        replace hx298_0 := cl HB.out hx298_0
        replace hx298_1 := cl HB.out hx298_1
        replace hx298_2 := cl HB.out hx298_2
        replace hx298_3 := cl HB.out hx298_3
        replace hx298_4 := cl HB.out hx298_4
        replace hx298_5 := cl HB.out hx298_5
        replace hx298_6 := cl HB.out hx298_6
        replace hx298_7 := cl HB.out hx298_7
        replace hx298_8 := cl HB.out hx298_8
        have HR298_8 := q13 hi298_8
        have HC298_8 := q13 hl298_8
        clear hi298_8 hl298_8
        replace p298 := eq_true p298
        replace qz298 := eq_true qz298
        have p299 : 0 ≤ (x5_1 : Int) := q15 (by assumption)
        have qz299 : x5_1 < (l1.length : Int) := q15 (by assumption)
        obtain ⟨ad299, A299_8, c299_8, e299, hx299_0, hx299_1, hx299_2, hx299_3, hx299_4, hx299_5, hx299_6, hx299_7, hx299_8, hl299_8, hi299_8⟩ := at_T69 (Kd.V_reads' HO_1.out).2.2 x5_1 p299 qz299
        cases e299
        obtain ⟨ce299, hce299, hMe299, hcc299⟩ := Kd.V_get HO_1.out z69 x5_1 p299 (by first | exact qz299 | exact q15 (by assumption) | (have e_ := (Kd.V_reads' HO_1.out).1; omega))
        obtain ⟨ua299_8, uc299_8, rfl, ul299_8, ge299_8⟩ := k69_openF hMe299
        have hv299_8 := hcc299 8 _ rfl
        rw [add_field _ _ 8 (by omega)] at hv299_8
        replace hv299_8 := Option.some.inj (hv299_8.symm.trans hx299_8)
        injection hv299_8 with hva_ hvn_ hvc_
        rw [hva_] at ge299_8
        rw [hvc_] at ul299_8
        have HL299_8 := q13 (show Kd.V (Kd.int .i64) 3 _ w.heap.size _ _ ((rd_T69 l1 x5_1).f8) from Kd.V_mk ul299_8 ge299_8)
        clear hva_ hvn_ hvc_ ge299_8 ul299_8
        clear hcc299 hce299
        have HR299_8 := q13 hi299_8
        have HC299_8 := q13 hl299_8
        clear hi299_8 hl299_8
        replace p299 := eq_true p299
        replace qz299 := eq_true qz299
        refine start_ (n := 21) (S := fun w' => w'.cell? (ad298.add ((x5_1).toNat * 9)) = some (.int .i64 ((rd_T69 l0 x5_1).f0)) ∧ w'.cell? ⟨(ad298.add ((x5_1).toNat * 9)).block, (ad298.add ((x5_1).toNat * 9)).off + 1, none⟩ = some (.int .i64 ((rd_T69 l0 x5_1).f1)) ∧ w'.cell? ⟨(ad298.add ((x5_1).toNat * 9)).block, (ad298.add ((x5_1).toNat * 9)).off + 2, none⟩ = some (.int .i64 ((rd_T69 l0 x5_1).f2)) ∧ w'.cell? ⟨(ad298.add ((x5_1).toNat * 9)).block, (ad298.add ((x5_1).toNat * 9)).off + 3, none⟩ = some (.int .i64 ((rd_T69 l0 x5_1).f3)) ∧ w'.cell? ⟨(ad298.add ((x5_1).toNat * 9)).block, (ad298.add ((x5_1).toNat * 9)).off + 4, none⟩ = some (.int .i64 ((rd_T69 l0 x5_1).f4)) ∧ w'.cell? ⟨(ad298.add ((x5_1).toNat * 9)).block, (ad298.add ((x5_1).toNat * 9)).off + 5, none⟩ = some (.string ((rd_T69 l0 x5_1).f5)) ∧ w'.cell? ⟨(ad298.add ((x5_1).toNat * 9)).block, (ad298.add ((x5_1).toNat * 9)).off + 6, none⟩ = some (.string ((rd_T69 l0 x5_1).f6)) ∧ w'.cell? ⟨(ad298.add ((x5_1).toNat * 9)).block, (ad298.add ((x5_1).toNat * 9)).off + 7, none⟩ = some (.string ((rd_T69 l0 x5_1).f7)) ∧ w'.cell? ⟨(ad298.add ((x5_1).toNat * 9)).block, (ad298.add ((x5_1).toNat * 9)).off + 8, none⟩ = some (.slice A298_8 ((rd_T69 l0 x5_1).f8).length c298_8) ∧ w'.cell? (ad299.add ((x5_1).toNat * 9)) = some (.int .i64 ((rd_T69 l1 x5_1).f0)) ∧ w'.cell? ⟨(ad299.add ((x5_1).toNat * 9)).block, (ad299.add ((x5_1).toNat * 9)).off + 1, none⟩ = some (.int .i64 ((rd_T69 l1 x5_1).f1)) ∧ w'.cell? ⟨(ad299.add ((x5_1).toNat * 9)).block, (ad299.add ((x5_1).toNat * 9)).off + 2, none⟩ = some (.int .i64 ((rd_T69 l1 x5_1).f2)) ∧ w'.cell? ⟨(ad299.add ((x5_1).toNat * 9)).block, (ad299.add ((x5_1).toNat * 9)).off + 3, none⟩ = some (.int .i64 ((rd_T69 l1 x5_1).f3)) ∧ w'.cell? ⟨(ad299.add ((x5_1).toNat * 9)).block, (ad299.add ((x5_1).toNat * 9)).off + 4, none⟩ = some (.int .i64 ((rd_T69 l1 x5_1).f4)) ∧ w'.cell? ⟨(ad299.add ((x5_1).toNat * 9)).block, (ad299.add ((x5_1).toNat * 9)).off + 5, none⟩ = some (.string ((rd_T69 l1 x5_1).f5)) ∧ w'.cell? ⟨(ad299.add ((x5_1).toNat * 9)).block, (ad299.add ((x5_1).toNat * 9)).off + 6, none⟩ = some (.string ((rd_T69 l1 x5_1).f6)) ∧ w'.cell? ⟨(ad299.add ((x5_1).toNat * 9)).block, (ad299.add ((x5_1).toNat * 9)).off + 7, none⟩ = some (.string ((rd_T69 l1 x5_1).f7)) ∧ w'.cell? ⟨(ad299.add ((x5_1).toNat * 9)).block, (ad299.add ((x5_1).toNat * 9)).off + 8, none⟩ = some (.slice A299_8 ((rd_T69 l1 x5_1).f8).length c299_8)) (ds := []) (Array.replicate 21 false) (by kernel_rfl) rfl rfl ⟨(cl HB.out hw298_0), (cl HB.out hw298_1), (cl HB.out hw298_2), (cl HB.out hw298_3), (cl HB.out hw298_4), (cl HB.out hw298_5), (cl HB.out hw298_6), (cl HB.out hw298_7), (cl HB.out hw298_8), hx299_0, hx299_1, hx299_2, hx299_3, hx299_4, hx299_5, hx299_6, hx299_7, hx299_8⟩ (fun hHeld => ?_); refine with_tabW frisketref36_Patched.tab2 frisketref36_Patched.bits2 (fun HT_ HW_ => ?_)
        generalize wr.drew = w12 at HO_1 BK297 HB HL299_8 HR298_8 HR299_8 hx298_0 hx298_1 hx298_2 hx298_3 hx298_4 hx298_5 hx298_6 hx298_7 hx298_8 hx299_0 hx299_1 hx299_2 hx299_3 hx299_4 hx299_5 hx299_6 hx299_7 hx299_8 hHeld ⊢
        refine go_in [0, 1, 2, 3, 4, 5, 6, 7, 8, 9, 10, 11, 12, 13, 15, 16, 17, 14, 18] ?_
        repeat (first | (refine pz (v := ?_) (a' := ?_) HT_ rfl rfl (by kernel_rfl) (fun _ _ _ h => h) (Or.inl ⟨by rfl, ?_⟩) ?_ ?_; rotate_left; (focus intro w'; go_simp; with_reducible rfl); rotate_left; (focus simp only [Act.put, List.setIfInBounds_toArray, List.set_cons_zero, List.set_cons_succ, i64_w, i32_w, u8_w, u8_tm, u8_c, u8_cm]; rfl)) | (refine tz (v := ?_) (a' := ?_) HT_ HW_ rfl rfl hHeld (by kernel_rfl) (fun _ _ _ h => h) (Or.inl ⟨by rfl, ?_⟩) ?_ ?_; rotate_left; (focus rintro w' ⟨s0, s1, s2, s3, s4, s5, s6, s7, s8, s9, s10, s11, s12, s13, s14, s15, s16, s17⟩; go_simp; with_reducible rfl); rotate_left; (focus simp only [Act.put, List.setIfInBounds_toArray, List.set_cons_zero, List.set_cons_succ, i64_w, i32_w, u8_w, u8_tm, u8_c, u8_cm]; rfl)))
        refine go_out ?_
        refine one_ (i := 19) (N := some 26) (fl 21 20 []) rfl rfl (one_of HT_.out (by kernel_rfl)) (by decide) (fun K hK => ?_)
        refine goes_ Try.func31 (by kernel_rfl) rfl #[.agg #[.int .i64 ((rd_T69 l0 x5_1).f0), .int .i64 ((rd_T69 l0 x5_1).f1), .int .i64 ((rd_T69 l0 x5_1).f2), .int .i64 ((rd_T69 l0 x5_1).f3), .int .i64 ((rd_T69 l0 x5_1).f4), .string ((rd_T69 l0 x5_1).f5), .string ((rd_T69 l0 x5_1).f6), .string ((rd_T69 l0 x5_1).f7), .slice A298_8 ((rd_T69 l0 x5_1).f8).length c298_8], .agg #[.int .i64 ((rd_T69 l1 x5_1).f0), .int .i64 ((rd_T69 l1 x5_1).f1), .int .i64 ((rd_T69 l1 x5_1).f2), .int .i64 ((rd_T69 l1 x5_1).f3), .int .i64 ((rd_T69 l1 x5_1).f4), .string ((rd_T69 l1 x5_1).f5), .string ((rd_T69 l1 x5_1).f6), .string ((rd_T69 l1 x5_1).f7), .slice A299_8 ((rd_T69 l1 x5_1).f8).length c299_8]] (by rfl) rfl rfl (by (try simp only [List.map_toArray, List.map_cons, List.map_nil]); first | done | rfl | (simp only [List.length_drop, List.length_take]; rfl)) ?_
        with_reducible refine (frisketref36_SameMark.calls k1 ((rd_T69 l0 x5_1).f0) ((rd_T69 l0 x5_1).f1) ((rd_T69 l0 x5_1).f2) ((rd_T69 l0 x5_1).f3) ((rd_T69 l0 x5_1).f4) ((rd_T69 l0 x5_1).f5) ((rd_T69 l0 x5_1).f6) ((rd_T69 l0 x5_1).f7) _ _ ((rd_T69 l0 x5_1).f8) ((rd_T69 l1 x5_1).f0) ((rd_T69 l1 x5_1).f1) ((rd_T69 l1 x5_1).f2) ((rd_T69 l1 x5_1).f3) ((rd_T69 l1 x5_1).f4) ((rd_T69 l1 x5_1).f5) ((rd_T69 l1 x5_1).f6) ((rd_T69 l1 x5_1).f7) _ _ ((rd_T69 l1 x5_1).f8) false _ ?side1 ?side2 ?side3 ?side4 A8.out).mono ?_
        (case side1 => repeat (first | exact (Kd.C_below HR298_8.out HB.out) | (with_reducible refine q18 ?_ _) | (with_reducible refine q19 ?_ _) | (with_reducible refine q20 ?_)))
        (case side2 => exact HC298_8.out)
        (case side3 => repeat (first | exact (by repeat (first | (with_reducible exact HR299_8.out) | (with_reducible refine q18 ?_ _) | (with_reducible refine q19 ?_ _) | (with_reducible refine q20 ?_) | exact HR299_8.out)) | (with_reducible refine q18 ?_ _) | (with_reducible refine q19 ?_ _) | (with_reducible refine q20 ?_)))
        (case side4 => exact HC299_8.out)
        rintro e w13 ⟨rfl, hb⟩
        have HS9_ := (hb.cell (q14 _ _ (hHeld.2.2.2.2.2.2.2.2.2.1))).trans (hHeld.2.2.2.2.2.2.2.2.2.1)
        have HS10_ := (hb.cell (q14 _ _ (hHeld.2.2.2.2.2.2.2.2.2.2.1))).trans (hHeld.2.2.2.2.2.2.2.2.2.2.1)
        have HS11_ := (hb.cell (q14 _ _ (hHeld.2.2.2.2.2.2.2.2.2.2.2.1))).trans (hHeld.2.2.2.2.2.2.2.2.2.2.2.1)
        have HS12_ := (hb.cell (q14 _ _ (hHeld.2.2.2.2.2.2.2.2.2.2.2.2.1))).trans (hHeld.2.2.2.2.2.2.2.2.2.2.2.2.1)
        have HS13_ := (hb.cell (q14 _ _ (hHeld.2.2.2.2.2.2.2.2.2.2.2.2.2.1))).trans (hHeld.2.2.2.2.2.2.2.2.2.2.2.2.2.1)
        have HS14_ := (hb.cell (q14 _ _ (hHeld.2.2.2.2.2.2.2.2.2.2.2.2.2.2.1))).trans (hHeld.2.2.2.2.2.2.2.2.2.2.2.2.2.2.1)
        have HS15_ := (hb.cell (q14 _ _ (hHeld.2.2.2.2.2.2.2.2.2.2.2.2.2.2.2.1))).trans (hHeld.2.2.2.2.2.2.2.2.2.2.2.2.2.2.2.1)
        have HS16_ := (hb.cell (q14 _ _ (hHeld.2.2.2.2.2.2.2.2.2.2.2.2.2.2.2.2.1))).trans (hHeld.2.2.2.2.2.2.2.2.2.2.2.2.2.2.2.2.1)
        have HS17_ := (hb.cell (q14 _ _ (hHeld.2.2.2.2.2.2.2.2.2.2.2.2.2.2.2.2.2))).trans (hHeld.2.2.2.2.2.2.2.2.2.2.2.2.2.2.2.2.2)
        refine ⟨_, rfl, ?_⟩
        have n0_ := q13 (Kd.V_below (gV HO_1) hb)
        have n1_ := q13 (Kd.V_below (gV HL299_8) hb)
        have n2_ := q13 (q8 (g := gb297) (o := .cells #[.int .i64 0, .int .i64 0, .slice none 0 0] 43 (0, 0)) (gK BK297) hb)
        have n3_ := q13 (Kd.C_below (by repeat (first | (with_reducible exact HR299_8.out) | (with_reducible refine q18 ?_ _) | (with_reducible refine q19 ?_ _) | (with_reducible refine q20 ?_) | exact HR299_8.out)) hb)
        have n4_ := q13 (q12 (by repeat (first | (with_reducible first | exact HB.out | apply q3 | apply q4 | apply q5 | refine q6 ?_ GE297.out) | exact HB.out)) hb)
        clear HO_1
        clear HL299_8
        clear BK297
        clear HR299_8
        clear HB
        have HO_1 := n0_
        have HL299_8 := n1_
        have BK297 := n2_
        have HR299_8 := n3_
        have HB := n4_
        clear n0_ n1_ n2_ n3_ n4_
        (try clear hb)
        (try clear hb2)
        (try clear hk)
        (try clear hi)
        refine hK.out _ _ ⟨(cl HB.out hw298_0), (cl HB.out hw298_1), (cl HB.out hw298_2), (cl HB.out hw298_3), (cl HB.out hw298_4), (cl HB.out hw298_5), (cl HB.out hw298_6), (cl HB.out hw298_7), (cl HB.out hw298_8), HS9_, HS10_, HS11_, HS12_, HS13_, HS14_, HS15_, HS16_, HS17_⟩ (fun hHeld => ?_)
        clear hK K
        refine norm_ (a' := ?_) ?_ ?_
        rotate_left
        ·show Act.put _ (some 26) _ = _
         simp only [Act.put, List.setIfInBounds_toArray, List.set_cons_zero, List.set_cons_succ, i64_w, i32_w]
         rfl
        refine go_in [20] ?_
        (refine pz (v := ?_) (a' := ?_) HT_ rfl rfl (by kernel_rfl) (fun _ _ _ h => h) (Or.inl ⟨by rfl, ?_⟩) ?_ ?_; rotate_left; (focus intro w'; go_simp; with_reducible rfl); rotate_left; (focus simp only [Act.put, List.setIfInBounds_toArray, List.set_cons_zero, List.set_cons_succ, i64_w, i32_w, u8_w, u8_tm, u8_c, u8_cm]; rfl))
        refine go_out ?_
        refine done_ (done_of HT_.out (by kernel_rfl)) ?_
        try go_wp2
        go_meet
        case rel => exact ⟨_, (x5_1), (by first | rfl | (simp; done) | (simp [*]; done)), H', ⟨by have := HK1.out; first | omega | exact q17 _⟩, ⟨by (with_reducible repeat (first | apply Kd.V_alloc | apply Kd.V_drewN | apply Kd.V_drew)); exact HO_1.out⟩, ⟨by (with_reducible repeat (first | refine q0 ?_ _ | refine q1 ?_ | refine q2 ?_ _)); exact BK297.out⟩, ⟨by repeat (first | (with_reducible first | exact HB.out | apply q3 | apply q4 | apply q5 | refine q6 ?_ GE297.out) | exact HB.out)⟩⟩
      ·rw [if_neg c7] at H
       exact absurd H (by simp)
     ·rw [if_neg c6] at H
      have c6b0 : decide (x5_1 < (l1.length : Int)) = false := decide_eq_false c6
      clear c6
      have H' := q13 H
      clear H
      try go_wp2
      have n0_ := q13 (Kd.V_drew HO_1.out)
      have n1_ := q13 (q1 BK297.out)
      have n2_ := q13 (q5 HB.out)
      clear HO_1
      clear BK297
      clear HB
      have HO_1 := n0_
      have BK297 := n1_
      have HB := n2_
      clear n0_ n1_ n2_
      refine start_ (n := 21) (S := fun w' => True) (ds := []) (Array.replicate 21 false) (by kernel_rfl) rfl rfl trivial (fun hHeld => ?_); refine with_tabW frisketref36_Patched.tab2 frisketref36_Patched.bits2 (fun HT_ HW_ => ?_)
      generalize wr.drew = w14 at HO_1 BK297 HB hHeld ⊢
      refine go_in [0, 1, 2, 3, 4, 5, 6, 7, 8, 9, 10, 11, 12, 13, 14, 15, 16, 17, 18, 19, 20] ?_
      repeat (first | (refine pz (v := ?_) (a' := ?_) HT_ rfl rfl (by kernel_rfl) (fun _ _ _ h => h) (Or.inl ⟨by rfl, ?_⟩) ?_ ?_; rotate_left; (focus intro w'; go_simp; with_reducible rfl); rotate_left; (focus simp only [Act.put, List.setIfInBounds_toArray, List.set_cons_zero, List.set_cons_succ, i64_w, i32_w, u8_w, u8_tm, u8_c, u8_cm]; rfl)) | (refine pz (v := undef) (a' := ?_) HT_ rfl rfl (by kernel_rfl) (fun _ _ _ h => h) (Or.inr ⟨by rfl, rfl⟩) ?_ ?_; rotate_left; (focus simp only [Act.put, List.setIfInBounds_toArray, List.set_cons_zero, List.set_cons_succ, i64_w, i32_w, u8_w, u8_tm, u8_c, u8_cm]; rfl)))
      refine go_out ?_
      refine done_ (done_of HT_.out (by kernel_rfl)) ?_
      try go_wp2
      go_meet
      case rel => exact ⟨_, (x5_1), (by first | rfl | (simp; done) | (simp [*]; done)), H', ⟨by have := HK1.out; first | omega | exact q17 _⟩, ⟨by (with_reducible repeat (first | apply Kd.V_alloc | apply Kd.V_drewN | apply Kd.V_drew)); exact HO_1.out⟩, ⟨by (with_reducible repeat (first | refine q0 ?_ _ | refine q1 ?_ | refine q2 ?_ _)); exact BK297.out⟩, ⟨by repeat (first | (with_reducible first | exact HB.out | apply q3 | apply q4 | apply q5 | refine q6 ?_ GE297.out) | exact HB.out)⟩⟩
    ·rw [if_neg c5] at H
     have c5b0 : decide (x5_1 < (l0.length : Int)) = false := decide_eq_false c5
     clear c5
     (first | rw [c5b0] | (simp only [i64_w, i32_w]; rw [c5b0]) | skip)
     have H' := q13 H
     clear H
     try go_wp2
     have n0_ := q13 (Kd.V_drew HO_1.out)
     have n1_ := q13 (q1 BK297.out)
     have n2_ := q13 (q5 HB.out)
     clear HO_1
     clear BK297
     clear HB
     have HO_1 := n0_
     have BK297 := n1_
     have HB := n2_
     clear n0_ n1_ n2_
     refine start_ (n := 21) (S := fun w' => True) (ds := []) (Array.replicate 21 false) (by kernel_rfl) rfl rfl trivial (fun hHeld => ?_); refine with_tabW frisketref36_Patched.tab2 frisketref36_Patched.bits2 (fun HT_ HW_ => ?_)
     generalize wr.drew = w15 at HO_1 BK297 HB hHeld ⊢
     refine go_in [0, 1, 2, 3, 4, 5, 6, 7, 8, 9, 10, 11, 12, 13, 14, 15, 16, 17, 18, 19, 20] ?_
     repeat (first | (refine pz (v := ?_) (a' := ?_) HT_ rfl rfl (by kernel_rfl) (fun _ _ _ h => h) (Or.inl ⟨by rfl, ?_⟩) ?_ ?_; rotate_left; (focus intro w'; go_simp; with_reducible rfl); rotate_left; (focus simp only [Act.put, List.setIfInBounds_toArray, List.set_cons_zero, List.set_cons_succ, i64_w, i32_w, u8_w, u8_tm, u8_c, u8_cm]; rfl)) | (refine pz (v := undef) (a' := ?_) HT_ rfl rfl (by kernel_rfl) (fun _ _ _ h => h) (Or.inr ⟨by rfl, rfl⟩) ?_ ?_; rotate_left; (focus simp only [Act.put, List.setIfInBounds_toArray, List.set_cons_zero, List.set_cons_succ, i64_w, i32_w, u8_w, u8_tm, u8_c, u8_cm]; rfl)))
     refine go_out ?_
     refine done_ (done_of HT_.out (by kernel_rfl)) ?_
     try go_wp2
     go_meet
     case rel => exact ⟨_, (x5_1), (by first | rfl | (simp; done) | (simp [*]; done)), H', ⟨by have := HK1.out; first | omega | exact q17 _⟩, ⟨by (with_reducible repeat (first | apply Kd.V_alloc | apply Kd.V_drewN | apply Kd.V_drew)); exact HO_1.out⟩, ⟨by (with_reducible repeat (first | refine q0 ?_ _ | refine q1 ?_ | refine q2 ?_ _)); exact BK297.out⟩, ⟨by repeat (first | (with_reducible first | exact HB.out | apply q3 | apply q4 | apply q5 | refine q6 ?_ GE297.out) | exact HB.out)⟩⟩
 case rest =>
  clear HC3
  try clear c2
  try clear p2
  try clear qz2
  try clear hx2
  try clear c3
  try clear c5
  try clear c5b0
  try clear c6
  try clear c6b0
  try clear p6
  try clear c7
  try clear c9
  try clear hx298_0
  try clear hx298_1
  try clear hx298_2
  try clear hx298_3
  try clear hx298_4
  try clear hx298_5
  try clear hx298_6
  try clear hx298_7
  try clear hx298_8
  try clear hx299_0
  try clear hx299_1
  try clear hx299_2
  try clear hx299_3
  try clear hx299_4
  try clear hx299_5
  try clear hx299_6
  try clear hx299_7
  try clear hx299_8
  try clear p298
  try clear p299
  try clear qz298
  try clear qz299
  obtain ⟨kq, x5_2, rfl, HA, HJ2, HO_1, BK297, HB⟩ := hcut
  cases kq with
  | zero => exact absurd HA.out (by simp [frisketref36_Patched.j1])
  | succ kj2 =>
   have H := HA.out
   clear HA
   simp only [frisketref36_Patched.j1] at H
   have H' := q13 H
   clear H
   go_wp2
   go_loopg [6] kj2 (fun kq v6 w' => ∃ (x6_2 : Int), v6 = .int .i64 x6_2 ∧ Aside0 (frisketref36_Patched.l1 kq l0 l1 x5_2 x6_2 = some (r1, r2, r3)) ∧ Aside0 (kq ≤ kj2) ∧ Aside0 (Kd.V k69 69 w' w.heap.size (fun k_ => (P1_ k_ ∨ w.heap.size ≤ k_) ∧ k_ ≠ gb297) (.slice A1 l1.length c1) l1) ∧ Aside0 (w'.heap[gb297]? = some (.cells #[.int .i64 0, .int .i64 0, (.slice none 0 0)] 43 (0, 0))) ∧ Aside0 (Below w.heap.size w w'))
   case atStart => exact ⟨(0), (by first | rfl | (simp; done) | (simp [*]; done)), H', ⟨q17 _⟩, ⟨by (with_reducible repeat (first | apply Kd.V_alloc | apply Kd.V_drewN | apply Kd.V_drew)); exact HO_1.out⟩, ⟨by (with_reducible repeat (first | refine q0 ?_ _ | refine q1 ?_ | refine q2 ?_ _)); exact BK297.out⟩, ⟨by repeat (first | (with_reducible first | exact HB.out | apply q3 | apply q4 | apply q5 | refine q6 ?_ GE297.out) | exact HB.out)⟩⟩
   case round =>
    clear H'
    try clear c1
    try clear c2
    try clear p2
    try clear qz2
    try clear hx2
    try clear c3
    try clear c5
    try clear c5b0
    try clear c6
    try clear c6b0
    try clear p6
    try clear c7
    try clear c9
    try clear hx298_0
    try clear hx298_1
    try clear hx298_2
    try clear hx298_3
    try clear hx298_4
    try clear hx298_5
    try clear hx298_6
    try clear hx298_7
    try clear hx298_8
    try clear hx299_0
    try clear hx299_1
    try clear hx299_2
    try clear hx299_3
    try clear hx299_4
    try clear hx299_5
    try clear hx299_6
    try clear hx299_7
    try clear hx299_8
    try clear p2
    try clear p298
    try clear p299
    try clear p6
    try clear qz2
    try clear qz298
    try clear qz299
    obtain ⟨x6_2, rfl, HA, HK2, HO_1, BK297, HB⟩ := hrel
    cases gk with
    | zero => exact absurd HA.out (by simp [frisketref36_Patched.l1])
    | succ k2 =>
     have H := HA.out
     clear HA
     simp only [frisketref36_Patched.l1] at H
     by_cases c16 : x6_2 < (wrap64 ((l0.length : Int) - x5_2))
     ·rw [if_pos c16] at H
      have c16b0 : decide (x6_2 < (wrap64 ((l0.length : Int) - x5_2))) = true := decide_eq_true c16
      clear c16
      by_cases c17 : x6_2 < (wrap64 ((l1.length : Int) - x5_2))
      ·rw [if_pos c17] at H
       have c17b0 : decide (x6_2 < (wrap64 ((l1.length : Int) - x5_2))) = true := decide_eq_true c17
       clear c17
       obtain ⟨ji18, hji18⟩ : ∃ j_ : Int, (wrap64 ((wrap64 ((l0.length : Int) - 1)) - x6_2)) = j_ := ⟨_, rfl⟩
       replace H : (if 0 ≤ (ji18) then (if (ji18) < (l0.length : Int) then (if 0 ≤ (wrap64 ((wrap64 ((l1.length : Int) - 1)) - x6_2)) then (if (wrap64 ((wrap64 ((l1.length : Int) - 1)) - x6_2)) < (l1.length : Int) then ((frisketref36_SameMark.f k2 ((rd_T69 l0 (ji18)).f0) ((rd_T69 l0 (ji18)).f1) ((rd_T69 l0 (ji18)).f2) ((rd_T69 l0 (ji18)).f3) ((rd_T69 l0 (ji18)).f4) ((rd_T69 l0 (ji18)).f5) ((rd_T69 l0 (ji18)).f6) ((rd_T69 l0 (ji18)).f7) ((rd_T69 l0 (ji18)).f8) ((rd_T69 l1 (wrap64 ((wrap64 ((l1.length : Int) - 1)) - x6_2))).f0) ((rd_T69 l1 (wrap64 ((wrap64 ((l1.length : Int) - 1)) - x6_2))).f1) ((rd_T69 l1 (wrap64 ((wrap64 ((l1.length : Int) - 1)) - x6_2))).f2) ((rd_T69 l1 (wrap64 ((wrap64 ((l1.length : Int) - 1)) - x6_2))).f3) ((rd_T69 l1 (wrap64 ((wrap64 ((l1.length : Int) - 1)) - x6_2))).f4) ((rd_T69 l1 (wrap64 ((wrap64 ((l1.length : Int) - 1)) - x6_2))).f5) ((rd_T69 l1 (wrap64 ((wrap64 ((l1.length : Int) - 1)) - x6_2))).f6) ((rd_T69 l1 (wrap64 ((wrap64 ((l1.length : Int) - 1)) - x6_2))).f7) ((rd_T69 l1 (wrap64 ((wrap64 ((l1.length : Int) - 1)) - x6_2))).f8)).bind fun t303 => (if t303 = true then (frisketref36_Patched.l1 k2 l0 l1 x5_2 (wrap64 (x6_2 + 1))) else (if 0 ≤ x5_2 then (if x5_2 ≤ (wrap64 ((l1.length : Int) - x6_2)) then (if (wrap64 ((l1.length : Int) - x6_2)) ≤ (l1.length : Int) then ((frisketref36_Own.f k2 ((l1.take ((wrap64 ((l1.length : Int) - x6_2)) : Int).toNat).drop (x5_2 : Int).toNat)).bind fun t309 => (some (x5_2, wrap64 ((wrap64 ((l0.length : Int) - x5_2)) - x6_2), t309))) else (none)) else (none)) else (none)))) else (none)) else (none)) else (none)) else (none)) = some (r1, r2, r3) := by first | (rw [hji18] at H; exact H) | (simp only [hji18] at H ⊢; exact H)
       have hji18w : (IntKind.i64.wrap ((wrap64 ((l0.length : Int) - 1)) - x6_2)) = ji18 := (i64_w _).trans hji18
       by_cases c19 : 0 ≤ (ji18)
       ·rw [if_pos c19] at H
        have c19b0 : decide (0 ≤ (ji18)) = true := decide_eq_true c19
        clear c19
        by_cases c20 : (ji18) < (l0.length : Int)
        ·rw [if_pos c20] at H
         have c20b0 : decide ((ji18) < (l0.length : Int)) = true := decide_eq_true c20
         clear c20
         obtain ⟨ji21, hji21⟩ : ∃ j_ : Int, (wrap64 ((wrap64 ((l1.length : Int) - 1)) - x6_2)) = j_ := ⟨_, rfl⟩
         replace H : (if 0 ≤ (ji21) then (if (ji21) < (l1.length : Int) then ((frisketref36_SameMark.f k2 ((rd_T69 l0 (ji18)).f0) ((rd_T69 l0 (ji18)).f1) ((rd_T69 l0 (ji18)).f2) ((rd_T69 l0 (ji18)).f3) ((rd_T69 l0 (ji18)).f4) ((rd_T69 l0 (ji18)).f5) ((rd_T69 l0 (ji18)).f6) ((rd_T69 l0 (ji18)).f7) ((rd_T69 l0 (ji18)).f8) ((rd_T69 l1 (ji21)).f0) ((rd_T69 l1 (ji21)).f1) ((rd_T69 l1 (ji21)).f2) ((rd_T69 l1 (ji21)).f3) ((rd_T69 l1 (ji21)).f4) ((rd_T69 l1 (ji21)).f5) ((rd_T69 l1 (ji21)).f6) ((rd_T69 l1 (ji21)).f7) ((rd_T69 l1 (ji21)).f8)).bind fun t303 => (if t303 = true then (frisketref36_Patched.l1 k2 l0 l1 x5_2 (wrap64 (x6_2 + 1))) else (if 0 ≤ x5_2 then (if x5_2 ≤ (wrap64 ((l1.length : Int) - x6_2)) then (if (wrap64 ((l1.length : Int) - x6_2)) ≤ (l1.length : Int) then ((frisketref36_Own.f k2 ((l1.take ((wrap64 ((l1.length : Int) - x6_2)) : Int).toNat).drop (x5_2 : Int).toNat)).bind fun t309 => (some (x5_2, wrap64 ((wrap64 ((l0.length : Int) - x5_2)) - x6_2), t309))) else (none)) else (none)) else (none)))) else (none)) else (none)) = some (r1, r2, r3) := by first | (rw [hji21] at H; exact H) | (simp only [hji21] at H ⊢; exact H)
         have hji21w : (IntKind.i64.wrap ((wrap64 ((l1.length : Int) - 1)) - x6_2)) = ji21 := (i64_w _).trans hji21
         by_cases c22 : 0 ≤ (ji21)
         ·rw [if_pos c22] at H
          have c22b0 : decide (0 ≤ (ji21)) = true := decide_eq_true c22
          clear c22
          by_cases c23 : (ji21) < (l1.length : Int)
          ·rw [if_pos c23] at H
           have c23b0 : decide ((ji21) < (l1.length : Int)) = true := decide_eq_true c23
           clear c23
           replace H := Option.bind_eq_some_iff.mp H
           obtain ⟨t303, A240, H⟩ := H
           replace H : (if t303 = true then (frisketref36_Patched.l1 k2 l0 l1 x5_2 (wrap64 (x6_2 + 1))) else (if 0 ≤ x5_2 then (if x5_2 ≤ (wrap64 ((l1.length : Int) - x6_2)) then (if (wrap64 ((l1.length : Int) - x6_2)) ≤ (l1.length : Int) then ((frisketref36_Own.f k2 ((l1.take ((wrap64 ((l1.length : Int) - x6_2)) : Int).toNat).drop (x5_2 : Int).toNat)).bind fun t309 => (some (x5_2, wrap64 ((wrap64 ((l0.length : Int) - x5_2)) - x6_2), t309))) else (none)) else (none)) else (none))) = some (r1, r2, r3) := H
           have A24 := q13 A240
           clear A240
           by_cases c25 : t303 = true
           ·subst c25
            have H1 : (frisketref36_Patched.l1 k2 l0 l1 x5_2 (wrap64 (x6_2 + 1))) = some (r1, r2, r3) := by rw [if_pos rfl] at H; exact H
            clear H
            have H := H1
            clear H1
            have H' := q13 H
            clear H
            try go_wp2
            have n0_ := q13 (Kd.V_drew HO_1.out)
            have n1_ := q13 (q1 BK297.out)
            have n2_ := q13 (q5 HB.out)
            clear HO_1
            clear BK297
            clear HB
            have HO_1 := n0_
            have BK297 := n1_
            have HB := n2_
            clear n0_ n1_ n2_
            have p301 : 0 ≤ ((ji18) : Int) := q15 (by assumption)
            have qz301 : (ji18) < (l0.length : Int) := q15 (by assumption)
            obtain ⟨ad301, A301_8, c301_8, e301, hx301_0, hx301_1, hx301_2, hx301_3, hx301_4, hx301_5, hx301_6, hx301_7, hx301_8, hl301_8, hi301_8⟩ := at_T69 HR0.out (ji18) p301 qz301
            have hw301_8 := hx301_8
            have hw301_7 := hx301_7
            have hw301_6 := hx301_6
            have hw301_5 := hx301_5
            have hw301_4 := hx301_4
            have hw301_3 := hx301_3
            have hw301_2 := hx301_2
            have hw301_1 := hx301_1
            have hw301_0 := hx301_0
            cases e301
            replace hx301_0 := cl HB.out hx301_0
            replace hx301_1 := cl HB.out hx301_1
            replace hx301_2 := cl HB.out hx301_2
            replace hx301_3 := cl HB.out hx301_3
            replace hx301_4 := cl HB.out hx301_4
            replace hx301_5 := cl HB.out hx301_5
            replace hx301_6 := cl HB.out hx301_6
            replace hx301_7 := cl HB.out hx301_7
            replace hx301_8 := cl HB.out hx301_8
            have HR301_8 := q13 hi301_8
            have HC301_8 := q13 hl301_8
            clear hi301_8 hl301_8
            replace p301 := eq_true p301
            replace qz301 := eq_true qz301
            have p302 : 0 ≤ ((ji21) : Int) := q15 (by assumption)
            have qz302 : (ji21) < (l1.length : Int) := q15 (by assumption)
            obtain ⟨ad302, A302_8, c302_8, e302, hx302_0, hx302_1, hx302_2, hx302_3, hx302_4, hx302_5, hx302_6, hx302_7, hx302_8, hl302_8, hi302_8⟩ := at_T69 (Kd.V_reads' HO_1.out).2.2 (ji21) p302 qz302
            cases e302
            obtain ⟨ce302, hce302, hMe302, hcc302⟩ := Kd.V_get HO_1.out z69 (ji21) p302 (by first | exact qz302 | exact q15 (by assumption) | (have e_ := (Kd.V_reads' HO_1.out).1; omega))
            obtain ⟨ua302_8, uc302_8, rfl, ul302_8, ge302_8⟩ := k69_openF hMe302
            have hv302_8 := hcc302 8 _ rfl
            rw [add_field _ _ 8 (by omega)] at hv302_8
            replace hv302_8 := Option.some.inj (hv302_8.symm.trans hx302_8)
            injection hv302_8 with hva_ hvn_ hvc_
            rw [hva_] at ge302_8
            rw [hvc_] at ul302_8
            have HL302_8 := q13 (show Kd.V (Kd.int .i64) 3 _ w.heap.size _ _ ((rd_T69 l1 (ji21)).f8) from Kd.V_mk ul302_8 ge302_8)
            clear hva_ hvn_ hvc_ ge302_8 ul302_8
            clear hcc302 hce302
            have HR302_8 := q13 hi302_8
            have HC302_8 := q13 hl302_8
            clear hi302_8 hl302_8
            replace p302 := eq_true p302
            replace qz302 := eq_true qz302
            refine start_ (n := 33) (S := fun w' => w'.cell? (ad301.add (((ji18)).toNat * 9)) = some (.int .i64 ((rd_T69 l0 (ji18)).f0)) ∧ w'.cell? ⟨(ad301.add (((ji18)).toNat * 9)).block, (ad301.add (((ji18)).toNat * 9)).off + 1, none⟩ = some (.int .i64 ((rd_T69 l0 (ji18)).f1)) ∧ w'.cell? ⟨(ad301.add (((ji18)).toNat * 9)).block, (ad301.add (((ji18)).toNat * 9)).off + 2, none⟩ = some (.int .i64 ((rd_T69 l0 (ji18)).f2)) ∧ w'.cell? ⟨(ad301.add (((ji18)).toNat * 9)).block, (ad301.add (((ji18)).toNat * 9)).off + 3, none⟩ = some (.int .i64 ((rd_T69 l0 (ji18)).f3)) ∧ w'.cell? ⟨(ad301.add (((ji18)).toNat * 9)).block, (ad301.add (((ji18)).toNat * 9)).off + 4, none⟩ = some (.int .i64 ((rd_T69 l0 (ji18)).f4)) ∧ w'.cell? ⟨(ad301.add (((ji18)).toNat * 9)).block, (ad301.add (((ji18)).toNat * 9)).off + 5, none⟩ = some (.string ((rd_T69 l0 (ji18)).f5)) ∧ w'.cell? ⟨(ad301.add (((ji18)).toNat * 9)).block, (ad301.add (((ji18)).toNat * 9)).off + 6, none⟩ = some (.string ((rd_T69 l0 (ji18)).f6)) ∧ w'.cell? ⟨(ad301.add (((ji18)).toNat * 9)).block, (ad301.add (((ji18)).toNat * 9)).off + 7, none⟩ = some (.string ((rd_T69 l0 (ji18)).f7)) ∧ w'.cell? ⟨(ad301.add (((ji18)).toNat * 9)).block, (ad301.add (((ji18)).toNat * 9)).off + 8, none⟩ = some (.slice A301_8 ((rd_T69 l0 (ji18)).f8).length c301_8) ∧ w'.cell? (ad302.add (((ji21)).toNat * 9)) = some (.int .i64 ((rd_T69 l1 (ji21)).f0)) ∧ w'.cell? ⟨(ad302.add (((ji21)).toNat * 9)).block, (ad302.add (((ji21)).toNat * 9)).off + 1, none⟩ = some (.int .i64 ((rd_T69 l1 (ji21)).f1)) ∧ w'.cell? ⟨(ad302.add (((ji21)).toNat * 9)).block, (ad302.add (((ji21)).toNat * 9)).off + 2, none⟩ = some (.int .i64 ((rd_T69 l1 (ji21)).f2)) ∧ w'.cell? ⟨(ad302.add (((ji21)).toNat * 9)).block, (ad302.add (((ji21)).toNat * 9)).off + 3, none⟩ = some (.int .i64 ((rd_T69 l1 (ji21)).f3)) ∧ w'.cell? ⟨(ad302.add (((ji21)).toNat * 9)).block, (ad302.add (((ji21)).toNat * 9)).off + 4, none⟩ = some (.int .i64 ((rd_T69 l1 (ji21)).f4)) ∧ w'.cell? ⟨(ad302.add (((ji21)).toNat * 9)).block, (ad302.add (((ji21)).toNat * 9)).off + 5, none⟩ = some (.string ((rd_T69 l1 (ji21)).f5)) ∧ w'.cell? ⟨(ad302.add (((ji21)).toNat * 9)).block, (ad302.add (((ji21)).toNat * 9)).off + 6, none⟩ = some (.string ((rd_T69 l1 (ji21)).f6)) ∧ w'.cell? ⟨(ad302.add (((ji21)).toNat * 9)).block, (ad302.add (((ji21)).toNat * 9)).off + 7, none⟩ = some (.string ((rd_T69 l1 (ji21)).f7)) ∧ w'.cell? ⟨(ad302.add (((ji21)).toNat * 9)).block, (ad302.add (((ji21)).toNat * 9)).off + 8, none⟩ = some (.slice A302_8 ((rd_T69 l1 (ji21)).f8).length c302_8)) (ds := []) (Array.replicate 33 false) (by kernel_rfl) rfl rfl ⟨(cl HB.out hw301_0), (cl HB.out hw301_1), (cl HB.out hw301_2), (cl HB.out hw301_3), (cl HB.out hw301_4), (cl HB.out hw301_5), (cl HB.out hw301_6), (cl HB.out hw301_7), (cl HB.out hw301_8), hx302_0, hx302_1, hx302_2, hx302_3, hx302_4, hx302_5, hx302_6, hx302_7, hx302_8⟩ (fun hHeld => ?_); refine with_tabW frisketref36_Patched.tab5 frisketref36_Patched.bits5 (fun HT_ HW_ => ?_)
            generalize wr.drew = w26 at HO_1 BK297 HB HL302_8 HR301_8 HR302_8 hx301_0 hx301_1 hx301_2 hx301_3 hx301_4 hx301_5 hx301_6 hx301_7 hx301_8 hx302_0 hx302_1 hx302_2 hx302_3 hx302_4 hx302_5 hx302_6 hx302_7 hx302_8 hHeld ⊢
            refine go_in [0, 1, 2, 3, 4, 5, 6, 7, 8, 9, 10, 11, 12, 13, 14, 15, 16, 17, 18, 19, 20, 21, 23, 24, 25, 26, 27, 28, 29, 22, 30] ?_
            repeat (first | (refine pz (v := ?_) (a' := ?_) HT_ rfl rfl (by kernel_rfl) (fun _ _ _ h => h) (Or.inl ⟨by rfl, ?_⟩) ?_ ?_; rotate_left; (focus intro w'; go_simp; with_reducible rfl); rotate_left; (focus simp only [Act.put, List.setIfInBounds_toArray, List.set_cons_zero, List.set_cons_succ, i64_w, i32_w, u8_w, u8_tm, u8_c, u8_cm]; rfl)) | (refine tz (v := ?_) (a' := ?_) HT_ HW_ rfl rfl hHeld (by kernel_rfl) (fun _ _ _ h => h) (Or.inl ⟨by rfl, ?_⟩) ?_ ?_; rotate_left; (focus rintro w' ⟨s0, s1, s2, s3, s4, s5, s6, s7, s8, s9, s10, s11, s12, s13, s14, s15, s16, s17⟩; go_simp; with_reducible rfl); rotate_left; (focus simp only [Act.put, List.setIfInBounds_toArray, List.set_cons_zero, List.set_cons_succ, i64_w, i32_w, u8_w, u8_tm, u8_c, u8_cm]; rfl)))
            refine go_out ?_
            refine one_ (i := 31) (N := some 61) (fl 33 32 []) rfl rfl (one_of HT_.out (by kernel_rfl)) (by decide) (fun K hK => ?_)
            refine goes_ Try.func31 (by kernel_rfl) rfl #[.agg #[.int .i64 ((rd_T69 l0 (ji18)).f0), .int .i64 ((rd_T69 l0 (ji18)).f1), .int .i64 ((rd_T69 l0 (ji18)).f2), .int .i64 ((rd_T69 l0 (ji18)).f3), .int .i64 ((rd_T69 l0 (ji18)).f4), .string ((rd_T69 l0 (ji18)).f5), .string ((rd_T69 l0 (ji18)).f6), .string ((rd_T69 l0 (ji18)).f7), .slice A301_8 ((rd_T69 l0 (ji18)).f8).length c301_8], .agg #[.int .i64 ((rd_T69 l1 (ji21)).f0), .int .i64 ((rd_T69 l1 (ji21)).f1), .int .i64 ((rd_T69 l1 (ji21)).f2), .int .i64 ((rd_T69 l1 (ji21)).f3), .int .i64 ((rd_T69 l1 (ji21)).f4), .string ((rd_T69 l1 (ji21)).f5), .string ((rd_T69 l1 (ji21)).f6), .string ((rd_T69 l1 (ji21)).f7), .slice A302_8 ((rd_T69 l1 (ji21)).f8).length c302_8]] (by rfl) rfl rfl (by (try simp only [List.map_toArray, List.map_cons, List.map_nil]); first | done | (simp only [hji18, hji21]; rfl) | rfl | (simp only [List.length_drop, List.length_take]; rfl)) ?_
            with_reducible refine (frisketref36_SameMark.calls k2 ((rd_T69 l0 (ji18)).f0) ((rd_T69 l0 (ji18)).f1) ((rd_T69 l0 (ji18)).f2) ((rd_T69 l0 (ji18)).f3) ((rd_T69 l0 (ji18)).f4) ((rd_T69 l0 (ji18)).f5) ((rd_T69 l0 (ji18)).f6) ((rd_T69 l0 (ji18)).f7) _ _ ((rd_T69 l0 (ji18)).f8) ((rd_T69 l1 (ji21)).f0) ((rd_T69 l1 (ji21)).f1) ((rd_T69 l1 (ji21)).f2) ((rd_T69 l1 (ji21)).f3) ((rd_T69 l1 (ji21)).f4) ((rd_T69 l1 (ji21)).f5) ((rd_T69 l1 (ji21)).f6) ((rd_T69 l1 (ji21)).f7) _ _ ((rd_T69 l1 (ji21)).f8) true _ ?side1 ?side2 ?side3 ?side4 A24.out).mono ?_
            (case side1 => repeat (first | exact (Kd.C_below HR301_8.out HB.out) | (with_reducible refine q18 ?_ _) | (with_reducible refine q19 ?_ _) | (with_reducible refine q20 ?_)))
            (case side2 => exact HC301_8.out)
            (case side3 => repeat (first | exact (by repeat (first | (with_reducible exact HR302_8.out) | (with_reducible refine q18 ?_ _) | (with_reducible refine q19 ?_ _) | (with_reducible refine q20 ?_) | exact HR302_8.out)) | (with_reducible refine q18 ?_ _) | (with_reducible refine q19 ?_ _) | (with_reducible refine q20 ?_)))
            (case side4 => exact HC302_8.out)
            rintro e w27 ⟨rfl, hb⟩
            have HS9_ := (hb.cell (q14 _ _ (hHeld.2.2.2.2.2.2.2.2.2.1))).trans (hHeld.2.2.2.2.2.2.2.2.2.1)
            have HS10_ := (hb.cell (q14 _ _ (hHeld.2.2.2.2.2.2.2.2.2.2.1))).trans (hHeld.2.2.2.2.2.2.2.2.2.2.1)
            have HS11_ := (hb.cell (q14 _ _ (hHeld.2.2.2.2.2.2.2.2.2.2.2.1))).trans (hHeld.2.2.2.2.2.2.2.2.2.2.2.1)
            have HS12_ := (hb.cell (q14 _ _ (hHeld.2.2.2.2.2.2.2.2.2.2.2.2.1))).trans (hHeld.2.2.2.2.2.2.2.2.2.2.2.2.1)
            have HS13_ := (hb.cell (q14 _ _ (hHeld.2.2.2.2.2.2.2.2.2.2.2.2.2.1))).trans (hHeld.2.2.2.2.2.2.2.2.2.2.2.2.2.1)
            have HS14_ := (hb.cell (q14 _ _ (hHeld.2.2.2.2.2.2.2.2.2.2.2.2.2.2.1))).trans (hHeld.2.2.2.2.2.2.2.2.2.2.2.2.2.2.1)
            have HS15_ := (hb.cell (q14 _ _ (hHeld.2.2.2.2.2.2.2.2.2.2.2.2.2.2.2.1))).trans (hHeld.2.2.2.2.2.2.2.2.2.2.2.2.2.2.2.1)
            have HS16_ := (hb.cell (q14 _ _ (hHeld.2.2.2.2.2.2.2.2.2.2.2.2.2.2.2.2.1))).trans (hHeld.2.2.2.2.2.2.2.2.2.2.2.2.2.2.2.2.1)
            have HS17_ := (hb.cell (q14 _ _ (hHeld.2.2.2.2.2.2.2.2.2.2.2.2.2.2.2.2.2))).trans (hHeld.2.2.2.2.2.2.2.2.2.2.2.2.2.2.2.2.2)
            refine ⟨_, rfl, ?_⟩
            have n0_ := q13 (Kd.V_below (gV HO_1) hb)
            have n1_ := q13 (Kd.V_below (gV HL302_8) hb)
            have n2_ := q13 (q8 (g := gb297) (o := .cells #[.int .i64 0, .int .i64 0, .slice none 0 0] 43 (0, 0)) (gK BK297) hb)
            have n3_ := q13 (Kd.C_below (by repeat (first | (with_reducible exact HR302_8.out) | (with_reducible refine q18 ?_ _) | (with_reducible refine q19 ?_ _) | (with_reducible refine q20 ?_) | exact HR302_8.out)) hb)
            have n4_ := q13 (q12 (by repeat (first | (with_reducible first | exact HB.out | apply q3 | apply q4 | apply q5 | refine q6 ?_ GE297.out) | exact HB.out)) hb)
            clear HO_1
            clear HL302_8
            clear BK297
            clear HR302_8
            clear HB
            have HO_1 := n0_
            have HL302_8 := n1_
            have BK297 := n2_
            have HR302_8 := n3_
            have HB := n4_
            clear n0_ n1_ n2_ n3_ n4_
            (try clear hb)
            (try clear hb2)
            (try clear hk)
            (try clear hi)
            refine hK.out _ _ ⟨(cl HB.out hw301_0), (cl HB.out hw301_1), (cl HB.out hw301_2), (cl HB.out hw301_3), (cl HB.out hw301_4), (cl HB.out hw301_5), (cl HB.out hw301_6), (cl HB.out hw301_7), (cl HB.out hw301_8), HS9_, HS10_, HS11_, HS12_, HS13_, HS14_, HS15_, HS16_, HS17_⟩ (fun hHeld => ?_)
            clear hK K
            refine norm_ (a' := ?_) ?_ ?_
            rotate_left
            ·show Act.put _ (some 61) _ = _
             simp only [Act.put, List.setIfInBounds_toArray, List.set_cons_zero, List.set_cons_succ, i64_w, i32_w]
             rfl
            refine go_in [32] ?_
            (refine pz (v := ?_) (a' := ?_) HT_ rfl rfl (by kernel_rfl) (fun _ _ _ h => h) (Or.inl ⟨by rfl, ?_⟩) ?_ ?_; rotate_left; (focus intro w'; go_simp; with_reducible rfl); rotate_left; (focus simp only [Act.put, List.setIfInBounds_toArray, List.set_cons_zero, List.set_cons_succ, i64_w, i32_w, u8_w, u8_tm, u8_c, u8_cm]; rfl))
            refine go_out ?_
            refine done_ (done_of HT_.out (by kernel_rfl)) ?_
            try go_wp2
            go_roundg k2
            case measure => have := HJ2.out; have := HK2.out; omega
            case rel => exact ⟨(wrap64 (x6_2 + 1)), (by first | rfl | (simp; done) | (simp [*]; done)), H', ⟨by have := HJ2.out; have := HK2.out; omega⟩, ⟨by (with_reducible repeat (first | apply Kd.V_alloc | apply Kd.V_drewN | apply Kd.V_drew)); exact HO_1.out⟩, ⟨by (with_reducible repeat (first | refine q0 ?_ _ | refine q1 ?_ | refine q2 ?_ _)); exact BK297.out⟩, ⟨by repeat (first | (with_reducible first | exact HB.out | apply q3 | apply q4 | apply q5 | refine q6 ?_ GE297.out) | exact HB.out)⟩⟩
           ·replace c25 := Bool.eq_false_iff.mpr c25
            subst c25
            have H1 : (if 0 ≤ x5_2 then (if x5_2 ≤ (wrap64 ((l1.length : Int) - x6_2)) then (if (wrap64 ((l1.length : Int) - x6_2)) ≤ (l1.length : Int) then ((frisketref36_Own.f k2 ((l1.take ((wrap64 ((l1.length : Int) - x6_2)) : Int).toNat).drop (x5_2 : Int).toNat)).bind fun t309 => (some (x5_2, wrap64 ((wrap64 ((l0.length : Int) - x5_2)) - x6_2), t309))) else (none)) else (none)) else (none)) = some (r1, r2, r3) := by rw [if_neg (show ¬ (false = true) by decide)] at H; exact H
            clear H
            have H := H1
            clear H1
            by_cases c28 : 0 ≤ x5_2
            ·rw [if_pos c28] at H
             have c28b0 := eq_true c28
             have c28b1 : decide (0 ≤ x5_2) = true := decide_eq_true c28
             clear c28
             by_cases c29 : x5_2 ≤ (wrap64 ((l1.length : Int) - x6_2))
             ·rw [if_pos c29] at H
              have c29b0 := eq_true c29
              have c29b1 : decide (x5_2 ≤ (wrap64 ((l1.length : Int) - x6_2))) = true := decide_eq_true c29
              clear c29
              by_cases c30 : (wrap64 ((l1.length : Int) - x6_2)) ≤ (l1.length : Int)
              ·rw [if_pos c30] at H
               have c30b0 := eq_true c30
               have c30b1 : decide ((wrap64 ((l1.length : Int) - x6_2)) ≤ (l1.length : Int)) = true := decide_eq_true c30
               clear c30
               obtain ⟨y304, hy304⟩ : ∃ y_ : List (S69), y_ = ((l1.take ((wrap64 ((l1.length : Int) - x6_2)) : Int).toNat).drop (x5_2 : Int).toNat) := ⟨_, rfl⟩
               replace H : ((frisketref36_Own.f k2 y304).bind fun t309 => (some (x5_2, wrap64 ((wrap64 ((l0.length : Int) - x5_2)) - x6_2), t309))) = some (r1, r2, r3) := by first | (rw [hy304]; with_reducible exact H) | (have H2_ := (Option.bind_some _ _).symm.trans H; rw [hy304]; with_reducible exact H2_) | (have H2_ := (Option.bind_some _ _).symm.trans H; with_reducible exact H2_) | with_reducible exact H | (rw [hy304]; exact H) | exact H
               have Ny304 := q13 hy304
               clear hy304
               replace H := Option.bind_eq_some_iff.mp H
               obtain ⟨t309, A310, H⟩ := H
               replace H : (some (x5_2, wrap64 ((wrap64 ((l0.length : Int) - x5_2)) - x6_2), t309)) = some (r1, r2, r3) := H
               have A31 := q13 A310
               clear A310
               simp only [Option.some.injEq, Prod.mk.injEq] at H
               obtain ⟨rfl, rfl, rfl⟩ := H
               try go_wp2
               have n0_ := q13 (Kd.V_drew HO_1.out)
               have n1_ := q13 (q1 BK297.out)
               have n2_ := q13 (q5 HB.out)
               clear HO_1
               clear BK297
               clear HB
               have HO_1 := n0_
               have BK297 := n1_
               have HB := n2_
               clear n0_ n1_ n2_
               have p301 : 0 ≤ ((ji18) : Int) := q15 (by assumption)
               have qz301 : (ji18) < (l0.length : Int) := q15 (by assumption)
               obtain ⟨ad301, A301_8, c301_8, e301, hx301_0, hx301_1, hx301_2, hx301_3, hx301_4, hx301_5, hx301_6, hx301_7, hx301_8, hl301_8, hi301_8⟩ := at_T69 HR0.out (ji18) p301 qz301
               have hw301_8 := hx301_8
               have hw301_7 := hx301_7
               have hw301_6 := hx301_6
               have hw301_5 := hx301_5
               have hw301_4 := hx301_4
               have hw301_3 := hx301_3
               have hw301_2 := hx301_2
               have hw301_1 := hx301_1
               have hw301_0 := hx301_0
               cases e301
               replace hx301_0 := cl HB.out hx301_0
               replace hx301_1 := cl HB.out hx301_1
               replace hx301_2 := cl HB.out hx301_2
               replace hx301_3 := cl HB.out hx301_3
               replace hx301_4 := cl HB.out hx301_4
               replace hx301_5 := cl HB.out hx301_5
               replace hx301_6 := cl HB.out hx301_6
               replace hx301_7 := cl HB.out hx301_7
               replace hx301_8 := cl HB.out hx301_8
               have HR301_8 := q13 hi301_8
               have HC301_8 := q13 hl301_8
               clear hi301_8 hl301_8
               replace p301 := eq_true p301
               replace qz301 := eq_true qz301
               have p302 : 0 ≤ ((ji21) : Int) := q15 (by assumption)
               have qz302 : (ji21) < (l1.length : Int) := q15 (by assumption)
               obtain ⟨ad302, A302_8, c302_8, e302, hx302_0, hx302_1, hx302_2, hx302_3, hx302_4, hx302_5, hx302_6, hx302_7, hx302_8, hl302_8, hi302_8⟩ := at_T69 (Kd.V_reads' HO_1.out).2.2 (ji21) p302 qz302
               cases e302
               obtain ⟨ce302, hce302, hMe302, hcc302⟩ := Kd.V_get HO_1.out z69 (ji21) p302 (by first | exact qz302 | exact q15 (by assumption) | (have e_ := (Kd.V_reads' HO_1.out).1; omega))
               obtain ⟨ua302_8, uc302_8, rfl, ul302_8, ge302_8⟩ := k69_openF hMe302
               have hv302_8 := hcc302 8 _ rfl
               rw [add_field _ _ 8 (by omega)] at hv302_8
               replace hv302_8 := Option.some.inj (hv302_8.symm.trans hx302_8)
               injection hv302_8 with hva_ hvn_ hvc_
               rw [hva_] at ge302_8
               rw [hvc_] at ul302_8
               have HL302_8 := q13 (show Kd.V (Kd.int .i64) 3 _ w.heap.size _ _ ((rd_T69 l1 (ji21)).f8) from Kd.V_mk ul302_8 ge302_8)
               clear hva_ hvn_ hvc_ ge302_8 ul302_8
               clear hcc302 hce302
               have HR302_8 := q13 hi302_8
               have HC302_8 := q13 hl302_8
               clear hi302_8 hl302_8
               replace p302 := eq_true p302
               replace qz302 := eq_true qz302
               refine start_ (n := 33) (S := fun w' => w'.cell? (ad301.add (((ji18)).toNat * 9)) = some (.int .i64 ((rd_T69 l0 (ji18)).f0)) ∧ w'.cell? ⟨(ad301.add (((ji18)).toNat * 9)).block, (ad301.add (((ji18)).toNat * 9)).off + 1, none⟩ = some (.int .i64 ((rd_T69 l0 (ji18)).f1)) ∧ w'.cell? ⟨(ad301.add (((ji18)).toNat * 9)).block, (ad301.add (((ji18)).toNat * 9)).off + 2, none⟩ = some (.int .i64 ((rd_T69 l0 (ji18)).f2)) ∧ w'.cell? ⟨(ad301.add (((ji18)).toNat * 9)).block, (ad301.add (((ji18)).toNat * 9)).off + 3, none⟩ = some (.int .i64 ((rd_T69 l0 (ji18)).f3)) ∧ w'.cell? ⟨(ad301.add (((ji18)).toNat * 9)).block, (ad301.add (((ji18)).toNat * 9)).off + 4, none⟩ = some (.int .i64 ((rd_T69 l0 (ji18)).f4)) ∧ w'.cell? ⟨(ad301.add (((ji18)).toNat * 9)).block, (ad301.add (((ji18)).toNat * 9)).off + 5, none⟩ = some (.string ((rd_T69 l0 (ji18)).f5)) ∧ w'.cell? ⟨(ad301.add (((ji18)).toNat * 9)).block, (ad301.add (((ji18)).toNat * 9)).off + 6, none⟩ = some (.string ((rd_T69 l0 (ji18)).f6)) ∧ w'.cell? ⟨(ad301.add (((ji18)).toNat * 9)).block, (ad301.add (((ji18)).toNat * 9)).off + 7, none⟩ = some (.string ((rd_T69 l0 (ji18)).f7)) ∧ w'.cell? ⟨(ad301.add (((ji18)).toNat * 9)).block, (ad301.add (((ji18)).toNat * 9)).off + 8, none⟩ = some (.slice A301_8 ((rd_T69 l0 (ji18)).f8).length c301_8) ∧ w'.cell? (ad302.add (((ji21)).toNat * 9)) = some (.int .i64 ((rd_T69 l1 (ji21)).f0)) ∧ w'.cell? ⟨(ad302.add (((ji21)).toNat * 9)).block, (ad302.add (((ji21)).toNat * 9)).off + 1, none⟩ = some (.int .i64 ((rd_T69 l1 (ji21)).f1)) ∧ w'.cell? ⟨(ad302.add (((ji21)).toNat * 9)).block, (ad302.add (((ji21)).toNat * 9)).off + 2, none⟩ = some (.int .i64 ((rd_T69 l1 (ji21)).f2)) ∧ w'.cell? ⟨(ad302.add (((ji21)).toNat * 9)).block, (ad302.add (((ji21)).toNat * 9)).off + 3, none⟩ = some (.int .i64 ((rd_T69 l1 (ji21)).f3)) ∧ w'.cell? ⟨(ad302.add (((ji21)).toNat * 9)).block, (ad302.add (((ji21)).toNat * 9)).off + 4, none⟩ = some (.int .i64 ((rd_T69 l1 (ji21)).f4)) ∧ w'.cell? ⟨(ad302.add (((ji21)).toNat * 9)).block, (ad302.add (((ji21)).toNat * 9)).off + 5, none⟩ = some (.string ((rd_T69 l1 (ji21)).f5)) ∧ w'.cell? ⟨(ad302.add (((ji21)).toNat * 9)).block, (ad302.add (((ji21)).toNat * 9)).off + 6, none⟩ = some (.string ((rd_T69 l1 (ji21)).f6)) ∧ w'.cell? ⟨(ad302.add (((ji21)).toNat * 9)).block, (ad302.add (((ji21)).toNat * 9)).off + 7, none⟩ = some (.string ((rd_T69 l1 (ji21)).f7)) ∧ w'.cell? ⟨(ad302.add (((ji21)).toNat * 9)).block, (ad302.add (((ji21)).toNat * 9)).off + 8, none⟩ = some (.slice A302_8 ((rd_T69 l1 (ji21)).f8).length c302_8)) (ds := []) (Array.replicate 33 false) (by kernel_rfl) rfl rfl ⟨(cl HB.out hw301_0), (cl HB.out hw301_1), (cl HB.out hw301_2), (cl HB.out hw301_3), (cl HB.out hw301_4), (cl HB.out hw301_5), (cl HB.out hw301_6), (cl HB.out hw301_7), (cl HB.out hw301_8), hx302_0, hx302_1, hx302_2, hx302_3, hx302_4, hx302_5, hx302_6, hx302_7, hx302_8⟩ (fun hHeld => ?_); refine with_tabW frisketref36_Patched.tab5 frisketref36_Patched.bits5 (fun HT_ HW_ => ?_)
               generalize wr.drew = w32 at HO_1 BK297 HB HL302_8 HR301_8 HR302_8 hx301_0 hx301_1 hx301_2 hx301_3 hx301_4 hx301_5 hx301_6 hx301_7 hx301_8 hx302_0 hx302_1 hx302_2 hx302_3 hx302_4 hx302_5 hx302_6 hx302_7 hx302_8 hHeld ⊢
               refine go_in [0, 1, 2, 3, 4, 5, 6, 7, 8, 9, 10, 11, 12, 13, 14, 15, 16, 17, 18, 19, 20, 21, 23, 24, 25, 26, 27, 28, 29, 22, 30] ?_
               repeat (first | (refine pz (v := ?_) (a' := ?_) HT_ rfl rfl (by kernel_rfl) (fun _ _ _ h => h) (Or.inl ⟨by rfl, ?_⟩) ?_ ?_; rotate_left; (focus intro w'; go_simp; with_reducible rfl); rotate_left; (focus simp only [Act.put, List.setIfInBounds_toArray, List.set_cons_zero, List.set_cons_succ, i64_w, i32_w, u8_w, u8_tm, u8_c, u8_cm]; rfl)) | (refine tz (v := ?_) (a' := ?_) HT_ HW_ rfl rfl hHeld (by kernel_rfl) (fun _ _ _ h => h) (Or.inl ⟨by rfl, ?_⟩) ?_ ?_; rotate_left; (focus rintro w' ⟨s0, s1, s2, s3, s4, s5, s6, s7, s8, s9, s10, s11, s12, s13, s14, s15, s16, s17⟩; go_simp; with_reducible rfl); rotate_left; (focus simp only [Act.put, List.setIfInBounds_toArray, List.set_cons_zero, List.set_cons_succ, i64_w, i32_w, u8_w, u8_tm, u8_c, u8_cm]; rfl)))
               refine go_out ?_
               refine one_ (i := 31) (N := some 61) (fl 33 32 []) rfl rfl (one_of HT_.out (by kernel_rfl)) (by decide) (fun K hK => ?_)
               refine goes_ Try.func31 (by kernel_rfl) rfl #[.agg #[.int .i64 ((rd_T69 l0 (ji18)).f0), .int .i64 ((rd_T69 l0 (ji18)).f1), .int .i64 ((rd_T69 l0 (ji18)).f2), .int .i64 ((rd_T69 l0 (ji18)).f3), .int .i64 ((rd_T69 l0 (ji18)).f4), .string ((rd_T69 l0 (ji18)).f5), .string ((rd_T69 l0 (ji18)).f6), .string ((rd_T69 l0 (ji18)).f7), .slice A301_8 ((rd_T69 l0 (ji18)).f8).length c301_8], .agg #[.int .i64 ((rd_T69 l1 (ji21)).f0), .int .i64 ((rd_T69 l1 (ji21)).f1), .int .i64 ((rd_T69 l1 (ji21)).f2), .int .i64 ((rd_T69 l1 (ji21)).f3), .int .i64 ((rd_T69 l1 (ji21)).f4), .string ((rd_T69 l1 (ji21)).f5), .string ((rd_T69 l1 (ji21)).f6), .string ((rd_T69 l1 (ji21)).f7), .slice A302_8 ((rd_T69 l1 (ji21)).f8).length c302_8]] (by rfl) rfl rfl (by (try simp only [List.map_toArray, List.map_cons, List.map_nil]); first | done | (simp only [hji18, hji21]; rfl) | rfl | (simp only [List.length_drop, List.length_take]; rfl)) ?_
               with_reducible refine (frisketref36_SameMark.calls k2 ((rd_T69 l0 (ji18)).f0) ((rd_T69 l0 (ji18)).f1) ((rd_T69 l0 (ji18)).f2) ((rd_T69 l0 (ji18)).f3) ((rd_T69 l0 (ji18)).f4) ((rd_T69 l0 (ji18)).f5) ((rd_T69 l0 (ji18)).f6) ((rd_T69 l0 (ji18)).f7) _ _ ((rd_T69 l0 (ji18)).f8) ((rd_T69 l1 (ji21)).f0) ((rd_T69 l1 (ji21)).f1) ((rd_T69 l1 (ji21)).f2) ((rd_T69 l1 (ji21)).f3) ((rd_T69 l1 (ji21)).f4) ((rd_T69 l1 (ji21)).f5) ((rd_T69 l1 (ji21)).f6) ((rd_T69 l1 (ji21)).f7) _ _ ((rd_T69 l1 (ji21)).f8) false _ ?side1 ?side2 ?side3 ?side4 A24.out).mono ?_
               (case side1 => repeat (first | exact (Kd.C_below HR301_8.out HB.out) | (with_reducible refine q18 ?_ _) | (with_reducible refine q19 ?_ _) | (with_reducible refine q20 ?_)))
               (case side2 => exact HC301_8.out)
               (case side3 => repeat (first | exact (by repeat (first | (with_reducible exact HR302_8.out) | (with_reducible refine q18 ?_ _) | (with_reducible refine q19 ?_ _) | (with_reducible refine q20 ?_) | exact HR302_8.out)) | (with_reducible refine q18 ?_ _) | (with_reducible refine q19 ?_ _) | (with_reducible refine q20 ?_)))
               (case side4 => exact HC302_8.out)
               rintro e w33 ⟨rfl, hb⟩
               have HS9_ := (hb.cell (q14 _ _ (hHeld.2.2.2.2.2.2.2.2.2.1))).trans (hHeld.2.2.2.2.2.2.2.2.2.1)
               have HS10_ := (hb.cell (q14 _ _ (hHeld.2.2.2.2.2.2.2.2.2.2.1))).trans (hHeld.2.2.2.2.2.2.2.2.2.2.1)
               have HS11_ := (hb.cell (q14 _ _ (hHeld.2.2.2.2.2.2.2.2.2.2.2.1))).trans (hHeld.2.2.2.2.2.2.2.2.2.2.2.1)
               have HS12_ := (hb.cell (q14 _ _ (hHeld.2.2.2.2.2.2.2.2.2.2.2.2.1))).trans (hHeld.2.2.2.2.2.2.2.2.2.2.2.2.1)
               have HS13_ := (hb.cell (q14 _ _ (hHeld.2.2.2.2.2.2.2.2.2.2.2.2.2.1))).trans (hHeld.2.2.2.2.2.2.2.2.2.2.2.2.2.1)
               have HS14_ := (hb.cell (q14 _ _ (hHeld.2.2.2.2.2.2.2.2.2.2.2.2.2.2.1))).trans (hHeld.2.2.2.2.2.2.2.2.2.2.2.2.2.2.1)
               have HS15_ := (hb.cell (q14 _ _ (hHeld.2.2.2.2.2.2.2.2.2.2.2.2.2.2.2.1))).trans (hHeld.2.2.2.2.2.2.2.2.2.2.2.2.2.2.2.1)
               have HS16_ := (hb.cell (q14 _ _ (hHeld.2.2.2.2.2.2.2.2.2.2.2.2.2.2.2.2.1))).trans (hHeld.2.2.2.2.2.2.2.2.2.2.2.2.2.2.2.2.1)
               have HS17_ := (hb.cell (q14 _ _ (hHeld.2.2.2.2.2.2.2.2.2.2.2.2.2.2.2.2.2))).trans (hHeld.2.2.2.2.2.2.2.2.2.2.2.2.2.2.2.2.2)
               refine ⟨_, rfl, ?_⟩
               have n0_ := q13 (Kd.V_below (gV HO_1) hb)
               have n1_ := q13 (Kd.V_below (gV HL302_8) hb)
               have n2_ := q13 (q8 (g := gb297) (o := .cells #[.int .i64 0, .int .i64 0, .slice none 0 0] 43 (0, 0)) (gK BK297) hb)
               have n3_ := q13 (Kd.C_below (by repeat (first | (with_reducible exact HR302_8.out) | (with_reducible refine q18 ?_ _) | (with_reducible refine q19 ?_ _) | (with_reducible refine q20 ?_) | exact HR302_8.out)) hb)
               have n4_ := q13 (q12 (by repeat (first | (with_reducible first | exact HB.out | apply q3 | apply q4 | apply q5 | refine q6 ?_ GE297.out) | exact HB.out)) hb)
               clear HO_1
               clear HL302_8
               clear BK297
               clear HR302_8
               clear HB
               have HO_1 := n0_
               have HL302_8 := n1_
               have BK297 := n2_
               have HR302_8 := n3_
               have HB := n4_
               clear n0_ n1_ n2_ n3_ n4_
               (try clear hb)
               (try clear hb2)
               (try clear hk)
               (try clear hi)
               refine hK.out _ _ ⟨(cl HB.out hw301_0), (cl HB.out hw301_1), (cl HB.out hw301_2), (cl HB.out hw301_3), (cl HB.out hw301_4), (cl HB.out hw301_5), (cl HB.out hw301_6), (cl HB.out hw301_7), (cl HB.out hw301_8), HS9_, HS10_, HS11_, HS12_, HS13_, HS14_, HS15_, HS16_, HS17_⟩ (fun hHeld => ?_)
               clear hK K
               refine norm_ (a' := ?_) ?_ ?_
               rotate_left
               ·show Act.put _ (some 61) _ = _
                simp only [Act.put, List.setIfInBounds_toArray, List.set_cons_zero, List.set_cons_succ, i64_w, i32_w]
                rfl
               refine go_in [32] ?_
               (refine pz (v := ?_) (a' := ?_) HT_ rfl rfl (by kernel_rfl) (fun _ _ _ h => h) (Or.inl ⟨by rfl, ?_⟩) ?_ ?_; rotate_left; (focus intro w'; go_simp; with_reducible rfl); rotate_left; (focus simp only [Act.put, List.setIfInBounds_toArray, List.set_cons_zero, List.set_cons_succ, i64_w, i32_w, u8_w, u8_tm, u8_c, u8_cm]; rfl))
               refine go_out ?_
               refine done_ (done_of HT_.out (by kernel_rfl)) ?_
               have qz34 : ((wrap64 ((l1.length : Int) - x6_2)) : Int) ≤ ((l1.length : Int) : Int) := q15 (by assumption)
               obtain ⟨i034, hi034, _, hsz34, _⟩ := info_parts info69
               have hroom34 : l1.length ≤ c1 := (Kd.V_reads' HO_1.out).2.1
               have hC34 : Kd.F k69 _ _ (some ad302) l1.length l1 := (Kd.V_at (base := w.heap.size) HO_1.out).2.2
               have ql34 : (x5_2 : Int) ≤ ((wrap64 ((l1.length : Int) - x6_2)) : Int) := q15 (by assumption)
               have qz034 : (0 : Int) ≤ (x5_2 : Int) := q15 (by assumption)
               have hcut34 := cut_mid (P := Try.prog) 22 69 .i64 .i64 Try.underlying22 hi034 9 hsz34 (some ad302) l1.length c1 x5_2 (wrap64 ((l1.length : Int) - x6_2)) qz034 ql34 qz34 hroom34
               have hr34 := Kd.F_mid (lo := (x5_2 : Int).toNat) (hi := ((wrap64 ((l1.length : Int) - x6_2)) : Int).toNat) (c := c1) hC34 (by omega) (by omega) hroom34
               obtain ⟨A34, hA34⟩ : ∃ Aw_, Aw_ = (if c1 = (x5_2 : Int).toNat then (some ad302) else ((some ad302) : Option Addr).map (·.add ((x5_2 : Int).toNat * 9))) := ⟨_, rfl⟩
               obtain ⟨c34, hc34⟩ : ∃ cw_, cw_ = c1 - (x5_2 : Int).toNat := ⟨_, rfl⟩
               have hy34 : y304.length = ((wrap64 ((l1.length : Int) - x6_2)) : Int).toNat - (x5_2 : Int).toNat := (by rw [Ny304.out, List.length_drop, List.length_take] <;> omega)
               rw [show ((l1).take ((wrap64 ((l1.length : Int) - x6_2)) : Int).toNat).drop (x5_2 : Int).toNat = y304 from Ny304.out.symm] at hr34
               replace hr34 : Kd.F k69 _ _ A34 y304.length y304 := (by rw [hA34]; exact hr34)
               rw [← hy34, ← hA34, ← hc34] at hcut34
               have HO308 := q13 (show Kd.V k69 69 _ w.heap.size _ (.slice A34 y304.length c34) y304 from Kd.V_mk (by rw [hy34, hc34]; exact Nat.sub_le_sub_right (Nat.le_trans (by omega) hroom34) _) hr34)
               have HC308 := q13 (show y304.length ≤ c34 from by rw [hy34, hc34]; exact Nat.sub_le_sub_right (Nat.le_trans (by omega) hroom34) _)
               clear hr34 hC34 hroom34 hi034 hsz34 hc34
               have KY34 := q13 hy34
               have KA34 := q13 hA34
               clear hy34 hA34
               replace qz34 := eq_true qz34
               try go_wp2_with (first | ((with_reducible refine gate_callee (f := 30) rfl ?_); refine goesL_ (some 79) rfl rfl Try.func30 (by kernel_rfl) rfl #[.slice A34 y304.length c34] rfl (by (try simp only [List.map_toArray, List.map_cons, List.map_nil]); first | done | rfl | (simp only [List.length_drop, List.length_take]; rfl)) ?_; (with_reducible refine (frisketref36_Own.calls k2 (fun k_ => ((P1_ k_ ∨ w.heap.size ≤ k_) ∧ k_ ≠ gb297)) _ _ y304 t309 _ ?side1 A31.out).mono ?_); (case side1 => exact HO308.out); rintro e w35 ⟨v310, rfl, ho0, hb⟩; refine ⟨_, rfl, ?_⟩; have n0_ := q13 (Kd.V_elder' (gV HO_1) (by first | exact q43 ho0 | exact q44 ho0 | exact Kd.S_base ho0) hb); have n1_ := q13 (Kd.V_elder' (gV HL302_8) (by first | exact q43 ho0 | exact q44 ho0 | exact Kd.S_base ho0) hb); have n2_ := q13 (Kd.V_elder' (gV HO308) (by first | exact q43 ho0 | exact q44 ho0 | exact Kd.S_base ho0) hb); have n3_ := q13 (Kd.N_lower (Kd.N_mono (ok' := fun k_ => (P1_ k_ ∨ w.heap.size ≤ k_) ∧ k_ ≠ gb297) ho0 (fun k_ hk_ => ⟨Or.elim hk_ (fun hs_ => hs_.1) (fun hn_ => (.inr (Nat.le_trans (q7 (by repeat (first | (with_reducible first | exact HB.out | apply q3 | apply q4 | apply q5 | refine q6 ?_ GE297.out) | exact HB.out))) hn_))), Or.elim hk_ (fun hs_ => hs_.2) (fun hn_ => (Kd.freshB (g := gb297) (o := .cells #[.int .i64 0, .int .i64 0, .slice none 0 0] 43 (0, 0)) (gK BK297) k_ hn_))⟩)) (q7 (by repeat (first | (with_reducible first | exact HB.out | apply q3 | apply q4 | apply q5 | refine q6 ?_ GE297.out) | exact HB.out)))); have n4_ := q13 (q8 (g := gb297) (o := .cells #[.int .i64 0, .int .i64 0, .slice none 0 0] 43 (0, 0)) (gK BK297) hb); have n5_ := q13 (Kd.C_below (by repeat (first | (with_reducible exact HR302_8.out) | (with_reducible refine q18 ?_ _) | (with_reducible refine q19 ?_ _) | (with_reducible refine q20 ?_) | exact HR302_8.out)) hb); have n6_ := q13 (q12 (by repeat (first | (with_reducible first | exact HB.out | apply q3 | apply q4 | apply q5 | refine q6 ?_ GE297.out) | exact HB.out)) hb); clear HO_1; clear HL302_8; clear HO308; clear BK297; clear HR302_8; clear HB; have HO_1 := n0_; have HL302_8 := n1_; have HO308 := n2_; have HO311 := n3_; have BK297 := n4_; have HR302_8 := n5_; have HB := n6_; clear n0_ n1_ n2_ n3_ n4_ n5_ n6_; (try clear hb); (try clear hb2); (try clear hk); (try clear hi); (try clear ho0); obtain ⟨Ao36, co36, eo36⟩ := Kd.N_slice HO311.out; subst eo36; have hcz37_0 : w35.cell? ⟨gb297, 0, none⟩ = some (.int .i64 0) := (q9 BK297.out 0).trans rfl; have hcz37_1 : w35.cell? ⟨gb297, 1, none⟩ = some (.int .i64 0) := (q9 BK297.out 1).trans rfl; have hcz37_2 : w35.cell? ⟨gb297, 2, none⟩ = some (.slice none 0 0) := (q9 BK297.out 2).trans rfl; have hfz37_0 := q11 BK297.out 0; have hfz37_1 := q11 BK297.out 1; have hfz37_2 := q11 BK297.out 2))
               refine bodyPost_ret (results_cell_row rfl _ _ gb297 43 #[.int .i64 x5_2, .int .i64 (wrap64 ((wrap64 ((l0.length : Int) - x5_2)) - x6_2)), .slice Ao36 t309.length co36] (0, 0) _ rfl (by (with_reducible repeat (first | refine q0 ?_ _ | refine q1 ?_ | refine q2 ?_ _)); refine blk_put (cs := #[.int .i64 x5_2, .int .i64 (wrap64 ((wrap64 ((l0.length : Int) - x5_2)) - x6_2)), .slice none 0 0]) ?_ 2 _ rfl; (with_reducible repeat (first | refine q0 ?_ _ | refine q1 ?_ | refine q2 ?_ _)); refine blk_put (cs := #[.int .i64 x5_2, .int .i64 0, .slice none 0 0]) ?_ 1 _ rfl; (with_reducible repeat (first | refine q0 ?_ _ | refine q1 ?_ | refine q2 ?_ _)); refine blk_put (cs := #[.int .i64 0, .int .i64 0, .slice none 0 0]) ?_ 0 _ rfl; (with_reducible repeat (first | refine q0 ?_ _ | refine q1 ?_ | refine q2 ?_ _)); exact BK297.out) Try.underlying43 rfl (by kernel_rfl)) rfl ?_
               exact ⟨_, by first | rfl | (simp [errW_none, errW_some] <;> rfl) | (simp only [← hji18, ← hji21]; first | rfl | (simp [errW_none, errW_some] <;> rfl)) | (simp [*, errW_none, errW_some] <;> rfl), by (with_reducible repeat (first | apply Kd.N_alloc | apply Kd.N_drewN | apply Kd.N_drew)); exact Kd.N_mono (Kd.N_far (p := ⟨gb297, 2, none⟩) (Kd.N_far (p := ⟨gb297, 1, none⟩) (Kd.N_far (p := ⟨gb297, 0, none⟩) (Kd.N_mono HO311.out (fun k_ hk => (⟨hk, hk.2⟩ : _ ∧ k_ ≠ gb297))) (fun _ hk => hk.2) (.int .i64 x5_2)) (fun _ hk => hk.2) (.int .i64 (wrap64 ((wrap64 ((l0.length : Int) - x5_2)) - x6_2)))) (fun _ hk => hk.2) (.slice Ao36 t309.length co36)) (fun _ hk => hk.1.1), by repeat (first | (with_reducible first | exact HB.out | apply q3 | apply q4 | apply q5 | refine q6 ?_ GE297.out) | exact HB.out)⟩
              ·rw [if_neg c30] at H
               exact absurd H (by simp)
             ·rw [if_neg c29] at H
              exact absurd H (by simp)
            ·rw [if_neg c28] at H
             exact absurd H (by simp)
          ·rw [if_neg c23] at H
           exact absurd H (by simp)
         ·rw [if_neg c22] at H
          exact absurd H (by simp)
        ·rw [if_neg c20] at H
         exact absurd H (by simp)
       ·rw [if_neg c19] at H
        exact absurd H (by simp)
      ·rw [if_neg c17] at H
       have c17b0 : decide (x6_2 < (wrap64 ((l1.length : Int) - x5_2))) = false := decide_eq_false c17
       clear c17
       by_cases c38 : 0 ≤ x5_2
       ·rw [if_pos c38] at H
        have c38b0 := eq_true c38
        have c38b1 : decide (0 ≤ x5_2) = true := decide_eq_true c38
        clear c38
        by_cases c39 : x5_2 ≤ (wrap64 ((l1.length : Int) - x6_2))
        ·rw [if_pos c39] at H
         have c39b0 := eq_true c39
         have c39b1 : decide (x5_2 ≤ (wrap64 ((l1.length : Int) - x6_2))) = true := decide_eq_true c39
         clear c39
         by_cases c40 : (wrap64 ((l1.length : Int) - x6_2)) ≤ (l1.length : Int)
         ·rw [if_pos c40] at H
          have c40b0 := eq_true c40
          have c40b1 : decide ((wrap64 ((l1.length : Int) - x6_2)) ≤ (l1.length : Int)) = true := decide_eq_true c40
          clear c40
          obtain ⟨y312, hy312⟩ : ∃ y_ : List (S69), y_ = ((l1.take ((wrap64 ((l1.length : Int) - x6_2)) : Int).toNat).drop (x5_2 : Int).toNat) := ⟨_, rfl⟩
          replace H : ((frisketref36_Own.f k2 y312).bind fun t317 => (some (x5_2, wrap64 ((wrap64 ((l0.length : Int) - x5_2)) - x6_2), t317))) = some (r1, r2, r3) := by first | (rw [hy312]; with_reducible exact H) | (have H2_ := (Option.bind_some _ _).symm.trans H; rw [hy312]; with_reducible exact H2_) | (have H2_ := (Option.bind_some _ _).symm.trans H; with_reducible exact H2_) | with_reducible exact H | (rw [hy312]; exact H) | exact H
          have Ny312 := q13 hy312
          clear hy312
          replace H := Option.bind_eq_some_iff.mp H
          obtain ⟨t317, A410, H⟩ := H
          replace H : (some (x5_2, wrap64 ((wrap64 ((l0.length : Int) - x5_2)) - x6_2), t317)) = some (r1, r2, r3) := H
          have A41 := q13 A410
          clear A410
          simp only [Option.some.injEq, Prod.mk.injEq] at H
          obtain ⟨rfl, rfl, rfl⟩ := H
          try go_wp2
          have n0_ := q13 (Kd.V_drew HO_1.out)
          have n1_ := q13 (q1 BK297.out)
          have n2_ := q13 (q5 HB.out)
          clear HO_1
          clear BK297
          clear HB
          have HO_1 := n0_
          have BK297 := n1_
          have HB := n2_
          clear n0_ n1_ n2_
          refine start_ (n := 33) (S := fun w' => True) (ds := []) (Array.replicate 33 false) (by kernel_rfl) rfl rfl trivial (fun hHeld => ?_); refine with_tabW frisketref36_Patched.tab5 frisketref36_Patched.bits5 (fun HT_ HW_ => ?_)
          generalize wr.drew = w42 at HO_1 BK297 HB hHeld ⊢
          refine go_in [0, 1, 2, 3, 4, 5, 6, 7, 8, 9, 10, 11, 12, 13, 14, 15, 16, 17, 18, 19, 20, 21, 22, 23, 24, 25, 26, 27, 28, 29, 30, 31, 32] ?_
          repeat (first | (refine pz (v := ?_) (a' := ?_) HT_ rfl rfl (by kernel_rfl) (fun _ _ _ h => h) (Or.inl ⟨by rfl, ?_⟩) ?_ ?_; rotate_left; (focus intro w'; go_simp; with_reducible rfl); rotate_left; (focus simp only [Act.put, List.setIfInBounds_toArray, List.set_cons_zero, List.set_cons_succ, i64_w, i32_w, u8_w, u8_tm, u8_c, u8_cm]; rfl)) | (refine pz (v := undef) (a' := ?_) HT_ rfl rfl (by kernel_rfl) (fun _ _ _ h => h) (Or.inr ⟨by rfl, rfl⟩) ?_ ?_; rotate_left; (focus simp only [Act.put, List.setIfInBounds_toArray, List.set_cons_zero, List.set_cons_succ, i64_w, i32_w, u8_w, u8_tm, u8_c, u8_cm]; rfl)))
          refine go_out ?_
          refine done_ (done_of HT_.out (by kernel_rfl)) ?_
          have qz43 : ((wrap64 ((l1.length : Int) - x6_2)) : Int) ≤ ((l1.length : Int) : Int) := q15 (by assumption)
          obtain ⟨i043, hi043, _, hsz43, _⟩ := info_parts info69
          have hroom43 : l1.length ≤ c1 := (Kd.V_reads' HO_1.out).2.1
          have hC43 : Kd.F k69 _ _ A1 l1.length l1 := (Kd.V_at (base := w.heap.size) HO_1.out).2.2
          have ql43 : (x5_2 : Int) ≤ ((wrap64 ((l1.length : Int) - x6_2)) : Int) := q15 (by assumption)
          have qz043 : (0 : Int) ≤ (x5_2 : Int) := q15 (by assumption)
          have hcut43 := cut_mid (P := Try.prog) 22 69 .i64 .i64 Try.underlying22 hi043 9 hsz43 A1 l1.length c1 x5_2 (wrap64 ((l1.length : Int) - x6_2)) qz043 ql43 qz43 hroom43
          have hr43 := Kd.F_mid (lo := (x5_2 : Int).toNat) (hi := ((wrap64 ((l1.length : Int) - x6_2)) : Int).toNat) (c := c1) hC43 (by omega) (by omega) hroom43
          obtain ⟨A43, hA43⟩ : ∃ Aw_, Aw_ = (if c1 = (x5_2 : Int).toNat then A1 else (A1 : Option Addr).map (·.add ((x5_2 : Int).toNat * 9))) := ⟨_, rfl⟩
          obtain ⟨c43, hc43⟩ : ∃ cw_, cw_ = c1 - (x5_2 : Int).toNat := ⟨_, rfl⟩
          have hy43 : y312.length = ((wrap64 ((l1.length : Int) - x6_2)) : Int).toNat - (x5_2 : Int).toNat := (by rw [Ny312.out, List.length_drop, List.length_take] <;> omega)
          rw [show ((l1).take ((wrap64 ((l1.length : Int) - x6_2)) : Int).toNat).drop (x5_2 : Int).toNat = y312 from Ny312.out.symm] at hr43
          replace hr43 : Kd.F k69 _ _ A43 y312.length y312 := (by rw [hA43]; exact hr43)
          rw [← hy43, ← hA43, ← hc43] at hcut43
          have HO316 := q13 (show Kd.V k69 69 _ w.heap.size _ (.slice A43 y312.length c43) y312 from Kd.V_mk (by rw [hy43, hc43]; exact Nat.sub_le_sub_right (Nat.le_trans (by omega) hroom43) _) hr43)
          have HC316 := q13 (show y312.length ≤ c43 from by rw [hy43, hc43]; exact Nat.sub_le_sub_right (Nat.le_trans (by omega) hroom43) _)
          clear hr43 hC43 hroom43 hi043 hsz43 hc43
          have KY43 := q13 hy43
          have KA43 := q13 hA43
          clear hy43 hA43
          replace qz43 := eq_true qz43
          try go_wp2_with (first | ((with_reducible refine gate_callee (f := 30) rfl ?_); refine goesL_ (some 79) rfl rfl Try.func30 (by kernel_rfl) rfl #[.slice A43 y312.length c43] rfl (by (try simp only [List.map_toArray, List.map_cons, List.map_nil]); first | done | rfl | (simp only [List.length_drop, List.length_take]; rfl)) ?_; (with_reducible refine (frisketref36_Own.calls k2 (fun k_ => ((P1_ k_ ∨ w.heap.size ≤ k_) ∧ k_ ≠ gb297)) _ _ y312 t317 _ ?side1 A41.out).mono ?_); (case side1 => exact HO316.out); rintro e w44 ⟨v318, rfl, ho0, hb⟩; refine ⟨_, rfl, ?_⟩; have n0_ := q13 (Kd.V_elder' (gV HO_1) (by first | exact q43 ho0 | exact q44 ho0 | exact Kd.S_base ho0) hb); have n1_ := q13 (Kd.V_elder' (gV HO316) (by first | exact q43 ho0 | exact q44 ho0 | exact Kd.S_base ho0) hb); have n2_ := q13 (Kd.N_lower (Kd.N_mono (ok' := fun k_ => (P1_ k_ ∨ w.heap.size ≤ k_) ∧ k_ ≠ gb297) ho0 (fun k_ hk_ => ⟨Or.elim hk_ (fun hs_ => hs_.1) (fun hn_ => (.inr (Nat.le_trans (q7 (by repeat (first | (with_reducible first | exact HB.out | apply q3 | apply q4 | apply q5 | refine q6 ?_ GE297.out) | exact HB.out))) hn_))), Or.elim hk_ (fun hs_ => hs_.2) (fun hn_ => (Kd.freshB (g := gb297) (o := .cells #[.int .i64 0, .int .i64 0, .slice none 0 0] 43 (0, 0)) (gK BK297) k_ hn_))⟩)) (q7 (by repeat (first | (with_reducible first | exact HB.out | apply q3 | apply q4 | apply q5 | refine q6 ?_ GE297.out) | exact HB.out)))); have n3_ := q13 (q8 (g := gb297) (o := .cells #[.int .i64 0, .int .i64 0, .slice none 0 0] 43 (0, 0)) (gK BK297) hb); have n4_ := q13 (q12 (by repeat (first | (with_reducible first | exact HB.out | apply q3 | apply q4 | apply q5 | refine q6 ?_ GE297.out) | exact HB.out)) hb); clear HO_1; clear HO316; clear BK297; clear HB; have HO_1 := n0_; have HO316 := n1_; have HO319 := n2_; have BK297 := n3_; have HB := n4_; clear n0_ n1_ n2_ n3_ n4_; (try clear hb); (try clear hb2); (try clear hk); (try clear hi); (try clear ho0); obtain ⟨Ao45, co45, eo45⟩ := Kd.N_slice HO319.out; subst eo45; have hcz46_0 : w44.cell? ⟨gb297, 0, none⟩ = some (.int .i64 0) := (q9 BK297.out 0).trans rfl; have hcz46_1 : w44.cell? ⟨gb297, 1, none⟩ = some (.int .i64 0) := (q9 BK297.out 1).trans rfl; have hcz46_2 : w44.cell? ⟨gb297, 2, none⟩ = some (.slice none 0 0) := (q9 BK297.out 2).trans rfl; have hfz46_0 := q11 BK297.out 0; have hfz46_1 := q11 BK297.out 1; have hfz46_2 := q11 BK297.out 2))
          refine bodyPost_ret (results_cell_row rfl _ _ gb297 43 #[.int .i64 x5_2, .int .i64 (wrap64 ((wrap64 ((l0.length : Int) - x5_2)) - x6_2)), .slice Ao45 t317.length co45] (0, 0) _ rfl (by (with_reducible repeat (first | refine q0 ?_ _ | refine q1 ?_ | refine q2 ?_ _)); refine blk_put (cs := #[.int .i64 x5_2, .int .i64 (wrap64 ((wrap64 ((l0.length : Int) - x5_2)) - x6_2)), .slice none 0 0]) ?_ 2 _ rfl; (with_reducible repeat (first | refine q0 ?_ _ | refine q1 ?_ | refine q2 ?_ _)); refine blk_put (cs := #[.int .i64 x5_2, .int .i64 0, .slice none 0 0]) ?_ 1 _ rfl; (with_reducible repeat (first | refine q0 ?_ _ | refine q1 ?_ | refine q2 ?_ _)); refine blk_put (cs := #[.int .i64 0, .int .i64 0, .slice none 0 0]) ?_ 0 _ rfl; (with_reducible repeat (first | refine q0 ?_ _ | refine q1 ?_ | refine q2 ?_ _)); exact BK297.out) Try.underlying43 rfl (by kernel_rfl)) rfl ?_
          exact ⟨_, by first | rfl | (simp [errW_none, errW_some] <;> rfl) | (simp [*, errW_none, errW_some] <;> rfl), by (with_reducible repeat (first | apply Kd.N_alloc | apply Kd.N_drewN | apply Kd.N_drew)); exact Kd.N_mono (Kd.N_far (p := ⟨gb297, 2, none⟩) (Kd.N_far (p := ⟨gb297, 1, none⟩) (Kd.N_far (p := ⟨gb297, 0, none⟩) (Kd.N_mono HO319.out (fun k_ hk => (⟨hk, hk.2⟩ : _ ∧ k_ ≠ gb297))) (fun _ hk => hk.2) (.int .i64 x5_2)) (fun _ hk => hk.2) (.int .i64 (wrap64 ((wrap64 ((l0.length : Int) - x5_2)) - x6_2)))) (fun _ hk => hk.2) (.slice Ao45 t317.length co45)) (fun _ hk => hk.1.1), by repeat (first | (with_reducible first | exact HB.out | apply q3 | apply q4 | apply q5 | refine q6 ?_ GE297.out) | exact HB.out)⟩
         ·rw [if_neg c40] at H
          exact absurd H (by simp)
        ·rw [if_neg c39] at H
         exact absurd H (by simp)
       ·rw [if_neg c38] at H
        exact absurd H (by simp)
     ·rw [if_neg c16] at H
      have c16b0 : decide (x6_2 < (wrap64 ((l0.length : Int) - x5_2))) = false := decide_eq_false c16
      clear c16
      by_cases c47 : 0 ≤ x5_2
      ·rw [if_pos c47] at H
       have c47b0 := eq_true c47
       have c47b1 : decide (0 ≤ x5_2) = true := decide_eq_true c47
       clear c47
       by_cases c48 : x5_2 ≤ (wrap64 ((l1.length : Int) - x6_2))
       ·rw [if_pos c48] at H
        have c48b0 := eq_true c48
        have c48b1 : decide (x5_2 ≤ (wrap64 ((l1.length : Int) - x6_2))) = true := decide_eq_true c48
        clear c48
        by_cases c49 : (wrap64 ((l1.length : Int) - x6_2)) ≤ (l1.length : Int)
        ·rw [if_pos c49] at H
         have c49b0 := eq_true c49
         have c49b1 : decide ((wrap64 ((l1.length : Int) - x6_2)) ≤ (l1.length : Int)) = true := decide_eq_true c49
         clear c49
         obtain ⟨y320, hy320⟩ : ∃ y_ : List (S69), y_ = ((l1.take ((wrap64 ((l1.length : Int) - x6_2)) : Int).toNat).drop (x5_2 : Int).toNat) := ⟨_, rfl⟩
         replace H : ((frisketref36_Own.f k2 y320).bind fun t325 => (some (x5_2, wrap64 ((wrap64 ((l0.length : Int) - x5_2)) - x6_2), t325))) = some (r1, r2, r3) := by first | (rw [hy320]; with_reducible exact H) | (have H2_ := (Option.bind_some _ _).symm.trans H; rw [hy320]; with_reducible exact H2_) | (have H2_ := (Option.bind_some _ _).symm.trans H; with_reducible exact H2_) | with_reducible exact H | (rw [hy320]; exact H) | exact H
         have Ny320 := q13 hy320
         clear hy320
         replace H := Option.bind_eq_some_iff.mp H
         obtain ⟨t325, A500, H⟩ := H
         replace H : (some (x5_2, wrap64 ((wrap64 ((l0.length : Int) - x5_2)) - x6_2), t325)) = some (r1, r2, r3) := H
         have A50 := q13 A500
         clear A500
         simp only [Option.some.injEq, Prod.mk.injEq] at H
         obtain ⟨rfl, rfl, rfl⟩ := H
         try go_wp2
         have n0_ := q13 (Kd.V_drew HO_1.out)
         have n1_ := q13 (q1 BK297.out)
         have n2_ := q13 (q5 HB.out)
         clear HO_1
         clear BK297
         clear HB
         have HO_1 := n0_
         have BK297 := n1_
         have HB := n2_
         clear n0_ n1_ n2_
         refine start_ (n := 33) (S := fun w' => True) (ds := []) (Array.replicate 33 false) (by kernel_rfl) rfl rfl trivial (fun hHeld => ?_); refine with_tabW frisketref36_Patched.tab5 frisketref36_Patched.bits5 (fun HT_ HW_ => ?_)
         generalize wr.drew = w51 at HO_1 BK297 HB hHeld ⊢
         refine go_in [0, 1, 2, 3, 4, 5, 6, 7, 8, 9, 10, 11, 12, 13, 14, 15, 16, 17, 18, 19, 20, 21, 22, 23, 24, 25, 26, 27, 28, 29, 30, 31, 32] ?_
         repeat (first | (refine pz (v := ?_) (a' := ?_) HT_ rfl rfl (by kernel_rfl) (fun _ _ _ h => h) (Or.inl ⟨by rfl, ?_⟩) ?_ ?_; rotate_left; (focus intro w'; go_simp; with_reducible rfl); rotate_left; (focus simp only [Act.put, List.setIfInBounds_toArray, List.set_cons_zero, List.set_cons_succ, i64_w, i32_w, u8_w, u8_tm, u8_c, u8_cm]; rfl)) | (refine pz (v := undef) (a' := ?_) HT_ rfl rfl (by kernel_rfl) (fun _ _ _ h => h) (Or.inr ⟨by rfl, rfl⟩) ?_ ?_; rotate_left; (focus simp only [Act.put, List.setIfInBounds_toArray, List.set_cons_zero, List.set_cons_succ, i64_w, i32_w, u8_w, u8_tm, u8_c, u8_cm]; rfl)))
         refine go_out ?_
         refine done_ (done_of HT_.out (by kernel_rfl)) ?_
         have qz52 : ((wrap64 ((l1.length : Int) - x6_2)) : Int) ≤ ((l1.length : Int) : Int) := q15 (by assumption)
         obtain ⟨i052, hi052, _, hsz52, _⟩ := info_parts info69
         have hroom52 : l1.length ≤ c1 := (Kd.V_reads' HO_1.out).2.1
         have hC52 : Kd.F k69 _ _ A1 l1.length l1 := (Kd.V_at (base := w.heap.size) HO_1.out).2.2
         have ql52 : (x5_2 : Int) ≤ ((wrap64 ((l1.length : Int) - x6_2)) : Int) := q15 (by assumption)
         have qz052 : (0 : Int) ≤ (x5_2 : Int) := q15 (by assumption)
         have hcut52 := cut_mid (P := Try.prog) 22 69 .i64 .i64 Try.underlying22 hi052 9 hsz52 A1 l1.length c1 x5_2 (wrap64 ((l1.length : Int) - x6_2)) qz052 ql52 qz52 hroom52
         have hr52 := Kd.F_mid (lo := (x5_2 : Int).toNat) (hi := ((wrap64 ((l1.length : Int) - x6_2)) : Int).toNat) (c := c1) hC52 (by omega) (by omega) hroom52
         obtain ⟨A52, hA52⟩ : ∃ Aw_, Aw_ = (if c1 = (x5_2 : Int).toNat then A1 else (A1 : Option Addr).map (·.add ((x5_2 : Int).toNat * 9))) := ⟨_, rfl⟩
         obtain ⟨c52, hc52⟩ : ∃ cw_, cw_ = c1 - (x5_2 : Int).toNat := ⟨_, rfl⟩
         have hy52 : y320.length = ((wrap64 ((l1.length : Int) - x6_2)) : Int).toNat - (x5_2 : Int).toNat := (by rw [Ny320.out, List.length_drop, List.length_take] <;> omega)
         rw [show ((l1).take ((wrap64 ((l1.length : Int) - x6_2)) : Int).toNat).drop (x5_2 : Int).toNat = y320 from Ny320.out.symm] at hr52
         replace hr52 : Kd.F k69 _ _ A52 y320.length y320 := (by rw [hA52]; exact hr52)
         rw [← hy52, ← hA52, ← hc52] at hcut52
         have HO324 := q13 (show Kd.V k69 69 _ w.heap.size _ (.slice A52 y320.length c52) y320 from Kd.V_mk (by rw [hy52, hc52]; exact Nat.sub_le_sub_right (Nat.le_trans (by omega) hroom52) _) hr52)
         have HC324 := q13 (show y320.length ≤ c52 from by rw [hy52, hc52]; exact Nat.sub_le_sub_right (Nat.le_trans (by omega) hroom52) _)
         clear hr52 hC52 hroom52 hi052 hsz52 hc52
         have KY52 := q13 hy52
         have KA52 := q13 hA52
         clear hy52 hA52
         replace qz52 := eq_true qz52
         try go_wp2_with (first | ((with_reducible refine gate_callee (f := 30) rfl ?_); refine goesL_ (some 79) rfl rfl Try.func30 (by kernel_rfl) rfl #[.slice A52 y320.length c52] rfl (by (try simp only [List.map_toArray, List.map_cons, List.map_nil]); first | done | rfl | (simp only [List.length_drop, List.length_take]; rfl)) ?_; (with_reducible refine (frisketref36_Own.calls k2 (fun k_ => ((P1_ k_ ∨ w.heap.size ≤ k_) ∧ k_ ≠ gb297)) _ _ y320 t325 _ ?side1 A50.out).mono ?_); (case side1 => exact HO324.out); rintro e w53 ⟨v326, rfl, ho0, hb⟩; refine ⟨_, rfl, ?_⟩; have n0_ := q13 (Kd.V_elder' (gV HO_1) (by first | exact q43 ho0 | exact q44 ho0 | exact Kd.S_base ho0) hb); have n1_ := q13 (Kd.V_elder' (gV HO324) (by first | exact q43 ho0 | exact q44 ho0 | exact Kd.S_base ho0) hb); have n2_ := q13 (Kd.N_lower (Kd.N_mono (ok' := fun k_ => (P1_ k_ ∨ w.heap.size ≤ k_) ∧ k_ ≠ gb297) ho0 (fun k_ hk_ => ⟨Or.elim hk_ (fun hs_ => hs_.1) (fun hn_ => (.inr (Nat.le_trans (q7 (by repeat (first | (with_reducible first | exact HB.out | apply q3 | apply q4 | apply q5 | refine q6 ?_ GE297.out) | exact HB.out))) hn_))), Or.elim hk_ (fun hs_ => hs_.2) (fun hn_ => (Kd.freshB (g := gb297) (o := .cells #[.int .i64 0, .int .i64 0, .slice none 0 0] 43 (0, 0)) (gK BK297) k_ hn_))⟩)) (q7 (by repeat (first | (with_reducible first | exact HB.out | apply q3 | apply q4 | apply q5 | refine q6 ?_ GE297.out) | exact HB.out)))); have n3_ := q13 (q8 (g := gb297) (o := .cells #[.int .i64 0, .int .i64 0, .slice none 0 0] 43 (0, 0)) (gK BK297) hb); have n4_ := q13 (q12 (by repeat (first | (with_reducible first | exact HB.out | apply q3 | apply q4 | apply q5 | refine q6 ?_ GE297.out) | exact HB.out)) hb); clear HO_1; clear HO324; clear BK297; clear HB; have HO_1 := n0_; have HO324 := n1_; have HO327 := n2_; have BK297 := n3_; have HB := n4_; clear n0_ n1_ n2_ n3_ n4_; (try clear hb); (try clear hb2); (try clear hk); (try clear hi); (try clear ho0); obtain ⟨Ao54, co54, eo54⟩ := Kd.N_slice HO327.out; subst eo54; have hcz55_0 : w53.cell? ⟨gb297, 0, none⟩ = some (.int .i64 0) := (q9 BK297.out 0).trans rfl; have hcz55_1 : w53.cell? ⟨gb297, 1, none⟩ = some (.int .i64 0) := (q9 BK297.out 1).trans rfl; have hcz55_2 : w53.cell? ⟨gb297, 2, none⟩ = some (.slice none 0 0) := (q9 BK297.out 2).trans rfl; have hfz55_0 := q11 BK297.out 0; have hfz55_1 := q11 BK297.out 1; have hfz55_2 := q11 BK297.out 2))
         refine bodyPost_ret (results_cell_row rfl _ _ gb297 43 #[.int .i64 x5_2, .int .i64 (wrap64 ((wrap64 ((l0.length : Int) - x5_2)) - x6_2)), .slice Ao54 t325.length co54] (0, 0) _ rfl (by (with_reducible repeat (first | refine q0 ?_ _ | refine q1 ?_ | refine q2 ?_ _)); refine blk_put (cs := #[.int .i64 x5_2, .int .i64 (wrap64 ((wrap64 ((l0.length : Int) - x5_2)) - x6_2)), .slice none 0 0]) ?_ 2 _ rfl; (with_reducible repeat (first | refine q0 ?_ _ | refine q1 ?_ | refine q2 ?_ _)); refine blk_put (cs := #[.int .i64 x5_2, .int .i64 0, .slice none 0 0]) ?_ 1 _ rfl; (with_reducible repeat (first | refine q0 ?_ _ | refine q1 ?_ | refine q2 ?_ _)); refine blk_put (cs := #[.int .i64 0, .int .i64 0, .slice none 0 0]) ?_ 0 _ rfl; (with_reducible repeat (first | refine q0 ?_ _ | refine q1 ?_ | refine q2 ?_ _)); exact BK297.out) Try.underlying43 rfl (by kernel_rfl)) rfl ?_
         exact ⟨_, by first | rfl | (simp [errW_none, errW_some] <;> rfl) | (simp [*, errW_none, errW_some] <;> rfl), by (with_reducible repeat (first | apply Kd.N_alloc | apply Kd.N_drewN | apply Kd.N_drew)); exact Kd.N_mono (Kd.N_far (p := ⟨gb297, 2, none⟩) (Kd.N_far (p := ⟨gb297, 1, none⟩) (Kd.N_far (p := ⟨gb297, 0, none⟩) (Kd.N_mono HO327.out (fun k_ hk => (⟨hk, hk.2⟩ : _ ∧ k_ ≠ gb297))) (fun _ hk => hk.2) (.int .i64 x5_2)) (fun _ hk => hk.2) (.int .i64 (wrap64 ((wrap64 ((l0.length : Int) - x5_2)) - x6_2)))) (fun _ hk => hk.2) (.slice Ao54 t325.length co54)) (fun _ hk => hk.1.1), by repeat (first | (with_reducible first | exact HB.out | apply q3 | apply q4 | apply q5 | refine q6 ?_ GE297.out) | exact HB.out)⟩
        ·rw [if_neg c49] at H
         exact absurd H (by simp)
       ·rw [if_neg c48] at H
        exact absurd H (by simp)
      ·rw [if_neg c47] at H
       exact absurd H (by simp)

end Go.Proofs.Ytgjmljjnminefaa.QCP
