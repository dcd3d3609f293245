-- Written by a program of this session (myprint.py) out of the translation; Lean checks it.
import Derived.Test.YtegcelmjejhnfaaDoorQHyx0
import Derived.Test.YtegcelmjejhnfaaDoorQHyx2
import Derived.Test.YtegcelmjejhnfaaDoorFHyHy
import Derived.Test.YtegcelmjejhnfaaDoorArrEq
namespace Go.Proofs.YtegcelmjejhnfaaDoor.QHy
open Go.RowKit Go.Proofs.YtegcelmjejhnfaaDoorW.PrintWords Go.Proofs.YtegcelmjejhnfaaDoorW.PrintLast Go.Proofs.YtegcelmjejhnfaaDoorW.PrintMore
attribute [local go_sem] max2_int min2_int max_two min_two max_three min_three max_four min_four   -- for this text's walks alone
set_option linter.unusedVariables false
set_option linter.unusedSimpArgs false

/-! ### hyphen_Points: function 12 -/
mutual
def hyphen_Points.j0 : Nat → ByteArray → List ByteArray → Int → Int → List (S64) → Int → Bool → Option (List Int × Int)
  | 0, _, _, _, _, _, _, _ => none
  | k + 1, x0, x2, x3, x4, x12, x13, x36 => if x36 = true then (hyphen_Points.j1 k x0 x2 x3 x4 x12 4) else (hyphen_Points.j1 k x0 x2 x3 x4 x12 x13)
def hyphen_Points.j1 : Nat → ByteArray → List ByteArray → Int → Int → List (S64) → Int → Option (List Int × Int)
  | 0, _, _, _, _, _, _ => none
  | k + 1, x0, x2, x3, x4, x12, x13 => if x13 = 0 then ((hyphen_low.f x0).bind fun bt145 => (if (bt145.2 = true) then (if (mn x3 x4) < 1 then (hyphen_Points.j2 k x2 x3 x4 x12 bt145.1 true) else (hyphen_Points.j2 k x2 x3 x4 x12 bt145.1 (decide ((mx x3 x4) > 10)))) else (hyphen_Points.j2 k x2 x3 x4 x12 bt145.1 true))) else (some (([] : List Int), x13))
def hyphen_Points.j2 : Nat → List ByteArray → Int → Int → List (S64) → ByteArray → Bool → Option (List Int × Int)
  | 0, _, _, _, _, _, _ => none
  | k + 1, x2, x3, x4, x12, x14, x58 => if x58 = true then (some (([] : List Int), 1)) else ((hyphen_values.f k x14 x12).bind fun t147 => (hyphen_Points.l0 k x3 x4 x14 t147 x2 (x2.length : Int) 0))
def hyphen_Points.l0 : Nat → Int → Int → ByteArray → List Int → List ByteArray → Int → Int → Option (List Int × Int)
  | 0, _, _, _, _, _, _, _ => none
  | k + 1, x3, x4, x14, x16, x62, x63, x64 => if x64 < x63 then (if 0 ≤ x64 then (if x64 < (x62.length : Int) then ((strings_ReplaceAll.f (rdOf ByteArray.empty x62 x64) (⟨#[45]⟩ : ByteArray) (⟨#[]⟩ : ByteArray)).bind fun t151 => (if t151.toList = x14.toList then (if 0 ≤ (wrap64 ((x14.size : Int) + 1)) then (if (wrap64 ((x14.size : Int) + 1) : Int).toNat ≤ 35184372088832 then (hyphen_Points.l1 k x3 x4 x14 (List.replicate (wrap64 ((x14.size : Int) + 1) : Int).toNat 0) (rdOf ByteArray.empty x62 x64) 0 x62 x63 x64 ((rdOf ByteArray.empty x62 x64).size : Int) 0) else (none)) else (none)) else (hyphen_Points.l0 k x3 x4 x14 x16 x62 x63 (wrap64 (x64 + 1))))) else (none)) else (none)) else (hyphen_Points.l2 k x4 x14 x16 ([] : List Int) x3)
def hyphen_Points.l1 : Nat → Int → Int → ByteArray → List Int → ByteArray → Int → List ByteArray → Int → Int → Int → Int → Option (List Int × Int)
  | 0, _, _, _, _, _, _, _, _, _, _, _ => none
  | k + 1, x3, x4, x14, x16, x18, x19, x62, x63, x64, x77, x78 => if x78 < x77 then (if 0 ≤ x78 then (if x78 < (x18.size : Int) then (if (bt x18 x78) = 45 then (if 0 ≤ x19 then (if x19 < (x16.length : Int) then (hyphen_Points.l1 k x3 x4 x14 (x16.set (x19 : Int).toNat 1) x18 x19 x62 x63 x64 x77 (wrap64 (x78 + 1))) else (none)) else (none)) else (hyphen_Points.l1 k x3 x4 x14 x16 x18 (wrap64 (x19 + 1)) x62 x63 x64 x77 (wrap64 (x78 + 1)))) else (none)) else (none)) else (hyphen_Points.l0 k x3 x4 x14 x16 x62 x63 (wrap64 (x64 + 1)))
def hyphen_Points.l2 : Nat → Int → ByteArray → List Int → List Int → Int → Option (List Int × Int)
  | 0, _, _, _, _, _ => none
  | k + 1, x4, x14, x16, x21, x22 => if x22 ≤ (wrap64 ((x14.size : Int) - x4)) then (if 0 ≤ x22 then (if x22 < (x16.length : Int) then (if (Int.tmod (rd x16 x22) 2) = 1 then (if x21.length < 17592186044416 then (hyphen_Points.l2 k x4 x14 x16 (x21 ++ [x22]) (wrap64 (x22 + 1))) else (none)) else (hyphen_Points.l2 k x4 x14 x16 x21 (wrap64 (x22 + 1)))) else (none)) else (none)) else (some (x21, 0))
end
def hyphen_Points.f (k : Nat) (a0 : ByteArray) (l1 : List ByteArray) (l2 : List ByteArray) (a3 : Int) (a4 : Int) : Option (List Int × Int) := if (l2.length : Int) > 2000 then (some (([] : List Int), 2)) else ((hyphen_parsed.f k l1).bind fun bt140 => (if bt140.2 = 0 then ((slices_ContainsFunc_string_string.f l2 ()).bind fun t144 => (hyphen_Points.j0 k a0 l2 a3 a4 bt140.1 bt140.2 t144)) else (hyphen_Points.j0 k a0 l2 a3 a4 bt140.1 bt140.2 false)))
theorem hyphen_Points.mono_l : ∀ k, (∀ y0 y1 y2 y3 y4 y5 y6, LeO (hyphen_Points.j0 k y0 y1 y2 y3 y4 y5 y6) (hyphen_Points.j0 (k + 1) y0 y1 y2 y3 y4 y5 y6)) ∧ (∀ y0 y1 y2 y3 y4 y5, LeO (hyphen_Points.j1 k y0 y1 y2 y3 y4 y5) (hyphen_Points.j1 (k + 1) y0 y1 y2 y3 y4 y5)) ∧ (∀ y0 y1 y2 y3 y4 y5, LeO (hyphen_Points.j2 k y0 y1 y2 y3 y4 y5) (hyphen_Points.j2 (k + 1) y0 y1 y2 y3 y4 y5)) ∧ (∀ y0 y1 y2 y3 y4 y5 y6, LeO (hyphen_Points.l0 k y0 y1 y2 y3 y4 y5 y6) (hyphen_Points.l0 (k + 1) y0 y1 y2 y3 y4 y5 y6)) ∧ (∀ y0 y1 y2 y3 y4 y5 y6 y7 y8 y9 y10, LeO (hyphen_Points.l1 k y0 y1 y2 y3 y4 y5 y6 y7 y8 y9 y10) (hyphen_Points.l1 (k + 1) y0 y1 y2 y3 y4 y5 y6 y7 y8 y9 y10)) ∧ (∀ y0 y1 y2 y3 y4, LeO (hyphen_Points.l2 k y0 y1 y2 y3 y4) (hyphen_Points.l2 (k + 1) y0 y1 y2 y3 y4))
  | 0 => ⟨fun _ _ _ _ _ _ _ r h => by simp [hyphen_Points.j0] at h, fun _ _ _ _ _ _ r h => by simp [hyphen_Points.j1] at h, fun _ _ _ _ _ _ r h => by simp [hyphen_Points.j2] at h, fun _ _ _ _ _ _ _ r h => by simp [hyphen_Points.l0] at h, fun _ _ _ _ _ _ _ _ _ _ _ r h => by simp [hyphen_Points.l1] at h, fun _ _ _ _ _ r h => by simp [hyphen_Points.l2] at h⟩
  | k + 1 => by
    obtain ⟨ih0, ih1, ih2, ih3, ih4, ih5⟩ := hyphen_Points.mono_l k
    refine ⟨?_, ?_, ?_, ?_, ?_, ?_⟩
    · intro y0 y1 y2 y3 y4 y5 y6
      unfold hyphen_Points.j0
      repeat' first
      | (with_reducible exact ih0 _ _ _ _ _ _ _)
      | (with_reducible exact ih1 _ _ _ _ _ _)
      | (with_reducible exact ih2 _ _ _ _ _ _)
      | (with_reducible exact ih3 _ _ _ _ _ _ _)
      | (with_reducible exact ih4 _ _ _ _ _ _ _ _ _ _ _)
      | (with_reducible exact ih5 _ _ _ _ _)
      | (with_reducible exact hyphen_parsed.mono _ _)
      | (with_reducible exact hyphen_values.mono _ _ _)
      | (with_reducible exact LeO.refl _)
      | (with_reducible exact LeO.none _)
      | (with_reducible refine LeO.ite ?_ ?_)
      | (with_reducible refine LeO.bind ?_ (fun _ => ?_))
      | exact ih0 _ _ _ _ _ _ _
      | exact ih1 _ _ _ _ _ _
      | exact ih2 _ _ _ _ _ _
      | exact ih3 _ _ _ _ _ _ _
      | exact ih4 _ _ _ _ _ _ _ _ _ _ _
      | exact ih5 _ _ _ _ _
      | exact hyphen_parsed.mono _ _
      | exact hyphen_values.mono _ _ _
      | exact LeO.none _
      | refine LeO.ite ?_ ?_
      | refine LeO.bind ?_ (fun _ => ?_)
    · intro y0 y1 y2 y3 y4 y5
      unfold hyphen_Points.j1
      repeat' first
      | (with_reducible exact ih0 _ _ _ _ _ _ _)
      | (with_reducible exact ih1 _ _ _ _ _ _)
      | (with_reducible exact ih2 _ _ _ _ _ _)
      | (with_reducible exact ih3 _ _ _ _ _ _ _)
      | (with_reducible exact ih4 _ _ _ _ _ _ _ _ _ _ _)
      | (with_reducible exact ih5 _ _ _ _ _)
      | (with_reducible exact hyphen_parsed.mono _ _)
      | (with_reducible exact hyphen_values.mono _ _ _)
      | (with_reducible exact LeO.refl _)
      | (with_reducible exact LeO.none _)
      | (with_reducible refine LeO.ite ?_ ?_)
      | (with_reducible refine LeO.bind ?_ (fun _ => ?_))
      | exact ih0 _ _ _ _ _ _ _
      | exact ih1 _ _ _ _ _ _
      | exact ih2 _ _ _ _ _ _
      | exact ih3 _ _ _ _ _ _ _
      | exact ih4 _ _ _ _ _ _ _ _ _ _ _
      | exact ih5 _ _ _ _ _
      | exact hyphen_parsed.mono _ _
      | exact hyphen_values.mono _ _ _
      | exact LeO.none _
      | refine LeO.ite ?_ ?_
      | refine LeO.bind ?_ (fun _ => ?_)
    · intro y0 y1 y2 y3 y4 y5
      unfold hyphen_Points.j2
      repeat' first
      | (with_reducible exact ih0 _ _ _ _ _ _ _)
      | (with_reducible exact ih1 _ _ _ _ _ _)
      | (with_reducible exact ih2 _ _ _ _ _ _)
      | (with_reducible exact ih3 _ _ _ _ _ _ _)
      | (with_reducible exact ih4 _ _ _ _ _ _ _ _ _ _ _)
      | (with_reducible exact ih5 _ _ _ _ _)
      | (with_reducible exact hyphen_parsed.mono _ _)
      | (with_reducible exact hyphen_values.mono _ _ _)
      | (with_reducible exact LeO.refl _)
      | (with_reducible exact LeO.none _)
      | (with_reducible refine LeO.ite ?_ ?_)
      | (with_reducible refine LeO.bind ?_ (fun _ => ?_))
      | exact ih0 _ _ _ _ _ _ _
      | exact ih1 _ _ _ _ _ _
      | exact ih2 _ _ _ _ _ _
      | exact ih3 _ _ _ _ _ _ _
      | exact ih4 _ _ _ _ _ _ _ _ _ _ _
      | exact ih5 _ _ _ _ _
      | exact hyphen_parsed.mono _ _
      | exact hyphen_values.mono _ _ _
      | exact LeO.none _
      | refine LeO.ite ?_ ?_
      | refine LeO.bind ?_ (fun _ => ?_)
    · intro y0 y1 y2 y3 y4 y5 y6
      unfold hyphen_Points.l0
      repeat' first
      | (with_reducible exact ih0 _ _ _ _ _ _ _)
      | (with_reducible exact ih1 _ _ _ _ _ _)
      | (with_reducible exact ih2 _ _ _ _ _ _)
      | (with_reducible exact ih3 _ _ _ _ _ _ _)
      | (with_reducible exact ih4 _ _ _ _ _ _ _ _ _ _ _)
      | (with_reducible exact ih5 _ _ _ _ _)
      | (with_reducible exact hyphen_parsed.mono _ _)
      | (with_reducible exact hyphen_values.mono _ _ _)
      | (with_reducible exact LeO.refl _)
      | (with_reducible exact LeO.none _)
      | (with_reducible refine LeO.ite ?_ ?_)
      | (with_reducible refine LeO.bind ?_ (fun _ => ?_))
      | exact ih0 _ _ _ _ _ _ _
      | exact ih1 _ _ _ _ _ _
      | exact ih2 _ _ _ _ _ _
      | exact ih3 _ _ _ _ _ _ _
      | exact ih4 _ _ _ _ _ _ _ _ _ _ _
      | exact ih5 _ _ _ _ _
      | exact hyphen_parsed.mono _ _
      | exact hyphen_values.mono _ _ _
      | exact LeO.none _
      | refine LeO.ite ?_ ?_
      | refine LeO.bind ?_ (fun _ => ?_)
    · intro y0 y1 y2 y3 y4 y5 y6 y7 y8 y9 y10
      unfold hyphen_Points.l1
      repeat' first
      | (with_reducible exact ih0 _ _ _ _ _ _ _)
      | (with_reducible exact ih1 _ _ _ _ _ _)
      | (with_reducible exact ih2 _ _ _ _ _ _)
      | (with_reducible exact ih3 _ _ _ _ _ _ _)
      | (with_reducible exact ih4 _ _ _ _ _ _ _ _ _ _ _)
      | (with_reducible exact ih5 _ _ _ _ _)
      | (with_reducible exact hyphen_parsed.mono _ _)
      | (with_reducible exact hyphen_values.mono _ _ _)
      | (with_reducible exact LeO.refl _)
      | (with_reducible exact LeO.none _)
      | (with_reducible refine LeO.ite ?_ ?_)
      | (with_reducible refine LeO.bind ?_ (fun _ => ?_))
      | exact ih0 _ _ _ _ _ _ _
      | exact ih1 _ _ _ _ _ _
      | exact ih2 _ _ _ _ _ _
      | exact ih3 _ _ _ _ _ _ _
      | exact ih4 _ _ _ _ _ _ _ _ _ _ _
      | exact ih5 _ _ _ _ _
      | exact hyphen_parsed.mono _ _
      | exact hyphen_values.mono _ _ _
      | exact LeO.none _
      | refine LeO.ite ?_ ?_
      | refine LeO.bind ?_ (fun _ => ?_)
    · intro y0 y1 y2 y3 y4
      unfold hyphen_Points.l2
      repeat' first
      | (with_reducible exact ih0 _ _ _ _ _ _ _)
      | (with_reducible exact ih1 _ _ _ _ _ _)
      | (with_reducible exact ih2 _ _ _ _ _ _)
      | (with_reducible exact ih3 _ _ _ _ _ _ _)
      | (with_reducible exact ih4 _ _ _ _ _ _ _ _ _ _ _)
      | (with_reducible exact ih5 _ _ _ _ _)
      | (with_reducible exact hyphen_parsed.mono _ _)
      | (with_reducible exact hyphen_values.mono _ _ _)
      | (with_reducible exact LeO.refl _)
      | (with_reducible exact LeO.none _)
      | (with_reducible refine LeO.ite ?_ ?_)
      | (with_reducible refine LeO.bind ?_ (fun _ => ?_))
      | exact ih0 _ _ _ _ _ _ _
      | exact ih1 _ _ _ _ _ _
      | exact ih2 _ _ _ _ _ _
      | exact ih3 _ _ _ _ _ _ _
      | exact ih4 _ _ _ _ _ _ _ _ _ _ _
      | exact ih5 _ _ _ _ _
      | exact hyphen_parsed.mono _ _
      | exact hyphen_values.mono _ _ _
      | exact LeO.none _
      | refine LeO.ite ?_ ?_
      | refine LeO.bind ?_ (fun _ => ?_)
theorem hyphen_Points.mono : ∀ a0 a1 a2 a3 a4 k, LeO (hyphen_Points.f k a0 a1 a2 a3 a4) (hyphen_Points.f (k + 1) a0 a1 a2 a3 a4) := by
  intro a0 a1 a2 a3 a4 k
  obtain ⟨ih0, ih1, ih2, ih3, ih4, ih5⟩ := hyphen_Points.mono_l k
  unfold hyphen_Points.f
  repeat' first
      | (with_reducible exact ih0 _ _ _ _ _ _ _)
      | (with_reducible exact ih1 _ _ _ _ _ _)
      | (with_reducible exact ih2 _ _ _ _ _ _)
      | (with_reducible exact ih3 _ _ _ _ _ _ _)
      | (with_reducible exact ih4 _ _ _ _ _ _ _ _ _ _ _)
      | (with_reducible exact ih5 _ _ _ _ _)
      | (with_reducible exact hyphen_parsed.mono _ _)
      | (with_reducible exact hyphen_values.mono _ _ _)
      | (with_reducible exact LeO.refl _)
      | (with_reducible exact LeO.none _)
      | (with_reducible refine LeO.ite ?_ ?_)
      | (with_reducible refine LeO.bind ?_ (fun _ => ?_))
      | exact ih0 _ _ _ _ _ _ _
      | exact ih1 _ _ _ _ _ _
      | exact ih2 _ _ _ _ _ _
      | exact ih3 _ _ _ _ _ _ _
      | exact ih4 _ _ _ _ _ _ _ _ _ _ _
      | exact ih5 _ _ _ _ _
      | exact hyphen_parsed.mono _ _
      | exact hyphen_values.mono _ _ _
      | exact LeO.none _
      | refine LeO.ite ?_ ?_
      | refine LeO.bind ?_ (fun _ => ?_)
set_option maxHeartbeats 8000000 in
set_option maxRecDepth 100000 in
theorem hyphen_Points.calls (k : Nat) (a0 : ByteArray) (A1 : Option Addr) (c1 : Nat) (l1 : List ByteArray) (A2 : Option Addr) (c2 : Nat) (l2 : List ByteArray) (a3 : Int) (a4 : Int) (r1 : List Int) (r2 : Int) (w : World) (hr1 : Kd.C Kd.string w A1 l1.length l1) (hc1 : l1.length ≤ c1) (hr2 : Kd.C Kd.string w A2 l2.length l2) (hc2 : l2.length ≤ c2) (hT : Tab w) (h : hyphen_Points.f k a0 l1 l2 a3 a4 = some (r1, r2)) :
    Calls Tryd.prog 12 #[.string a0, .slice A1 l1.length c1, .slice A2 l2.length c2, .int .i64 a3, .int .i64 a4] w fun e w' => ∃ v0_ : Value, e = .returned (.tuple #[v0_, .int .i64 r2]) ∧ Kd.R (Kd.int .i64) 3 w' w.heap.size (fun _ => True) v0_ r1 ∧ Below w.heap.size w w' := by
  have HR1 := Aside0.mk hr1
  have HC1 := Aside0.mk hc1
  clear hr1 hc1
  have HR2 := Aside0.mk hr2
  have HC2 := Aside0.mk hc2
  clear hr2 hc2
  have HB := Aside0.mk (Below.refl w.heap.size w)
  have H : (if (l2.length : Int) > 2000 then (some (([] : List Int), 2)) else ((hyphen_parsed.f k l1).bind fun bt140 => (if bt140.2 = 0 then ((slices_ContainsFunc_string_string.f l2 ()).bind fun t144 => (hyphen_Points.j0 k a0 l2 a3 a4 bt140.1 bt140.2 t144)) else (hyphen_Points.j0 k a0 l2 a3 a4 bt140.1 bt140.2 false)))) = some (r1, r2) := h
  clear h
  by_cases c6 : (l2.length : Int) > 2000
  · rw [if_pos c6] at H
    have c6b0 : decide (2000 < (l2.length : Int)) = true := decide_eq_true c6
    have c6b1 : decide (2000 < l2.length) = true := decide_eq_true (by omega)
    clear c6
    simp only [Option.some.injEq, Prod.mk.injEq] at H
    obtain ⟨rfl, rfl⟩ := H
    go_enter Tryd.func12, Tryd.ntmps12
    go_wp2
    go_ret2
    exact ⟨_, by first | rfl | (simp [errW_none, errW_some] <;> rfl) | (simp [*, errW_none, errW_some] <;> rfl), by first | exact Kd.R_nil _ _ _ _ _ | exact Kd.N_nil _ _ _ _ _ | exact Kd.V_nil _ _ _ _ _ | exact Kd.Q_nil _ _ _ _ _ | exact Kd.S_nil _ _ _ _ _, by repeat (first | (with_reducible first | exact HB.out | apply below_alloc | apply pw_below_drewN | apply below_drew1) | exact HB.out)⟩
  · rw [if_neg c6] at H
    have c6b0 : decide (2000 < (l2.length : Int)) = false := decide_eq_false c6
    have c6b1 : decide (2000 < l2.length) = false := decide_eq_false (by omega)
    clear c6
    replace H := Option.bind_eq_some_iff.mp H
    obtain ⟨⟨t140, t141⟩, A70, H⟩ := H
    replace H : (if t141 = 0 then ((slices_ContainsFunc_string_string.f l2 ()).bind fun t144 => (hyphen_Points.j0 k a0 l2 a3 a4 t140 t141 t144)) else (hyphen_Points.j0 k a0 l2 a3 a4 t140 t141 false)) = some (r1, r2) := H
    have A7 := Aside0.mk A70
    clear A70
    have HC8 := Aside0.mk H
    clear H
    go_enter Tryd.func12, Tryd.ntmps12
    go_upto_region 4 with (first | ((with_reducible refine gate_callee (f := 28) rfl ?_); refine goesL_ (some 28) rfl rfl Tryd.func28 (by kernel_rfl) rfl #[.slice A1 l1.length c1] rfl (by (try simp only [List.map_toArray, List.map_cons, List.map_nil]); first | done | rfl | (simp only [List.length_drop, List.length_take]; rfl)) ?_; (with_reducible refine (hyphen_parsed.calls k _ _ l1 t140 t141 _ ?side1 ?side2 A7.out).mono ?_); (case side1 => repeat (first | exact HR1.out | (with_reducible refine Kd.C_alloc ?_ _) | (with_reducible refine Kd.C_drewN ?_ _) | (with_reducible refine Kd.C_drew ?_))); (case side2 => exact HC1.out); rintro e w9 ⟨v142, rfl, ho0, hb⟩; refine ⟨_, rfl, ?_⟩; have n0_ := Aside0.mk (Kd.S_lower ho0 (below_size (by repeat (first | (with_reducible first | exact HB.out | apply below_alloc | apply pw_below_drewN | apply below_drew1) | exact HB.out)))); have n1_ := Aside0.mk (below_step (by repeat (first | (with_reducible first | exact HB.out | apply below_alloc | apply pw_below_drewN | apply below_drew1) | exact HB.out)) hb); clear HB; have HO143 := n0_; have HB := n1_; clear n0_ n1_; (try clear hb); (try clear hb2); (try clear hk); (try clear hi); (try clear ho0)))
    (try simp only [Act.put, List.setIfInBounds_toArray, List.set_cons_zero, List.set_cons_succ])
    go_cut [36] (fun v36 wc => ∃ (kq : Nat) (x36_7 : Bool), v36 = .bool x36_7 ∧ Aside0 (hyphen_Points.j0 kq a0 l2 a3 a4 t140 t141 x36_7 = some (r1, r2)) ∧ Aside0 (kq ≤ k) ∧ Aside0 (Kd.S k64 64 wc w.heap.size (fun _ => True) v142 t140) ∧ Aside0 (Below w.heap.size w wc))
    case first =>
      have H := HC8.out
      clear HC8
      by_cases c10 : t141 = 0
      · rw [if_pos c10] at H
        have c10b0 : (t141 == 0) = true := beq_iff_eq.mpr c10
        have c10b1 : (t141 != 0) = false := bne_eq_false_iff_eq.mpr c10
        clear c10
        (first | rw [c10b0] | (simp only [i64_w, i32_w]; rw [c10b0]) | skip)
        replace H := Option.bind_eq_some_iff.mp H
        obtain ⟨t144, A110, H⟩ := H
        replace H : (hyphen_Points.j0 k a0 l2 a3 a4 t140 t141 t144) = some (r1, r2) := H
        have A11 := Aside0.mk A110
        clear A110
        have H' := Aside0.mk H
        clear H
        go_wp2_with (first | (go_at_call 29; (with_reducible refine (slices_ContainsFunc_string_string.calls _ _ l2 () t144 _ ?side1 ?side2 (Tab.below hT (by repeat (first | (with_reducible first | exact HB.out | apply below_alloc | apply pw_below_drewN | apply below_drew1) | exact HB.out))) A11.out).mono ?_); (case side1 => repeat (first | exact (Kd.C_below HR2.out HB.out) | (with_reducible refine Kd.C_alloc ?_ _) | (with_reducible refine Kd.C_drewN ?_ _) | (with_reducible refine Kd.C_drew ?_))); (case side2 => exact HC2.out); rintro e w12 ⟨rfl, hb⟩; have n0_ := Aside0.mk (Kd.S_below (by (with_reducible repeat (first | apply Kd.S_alloc | apply Kd.S_drewN | apply Kd.S_drew)); exact HO143.out) hb); have n1_ := Aside0.mk (below_step (by repeat (first | (with_reducible first | exact HB.out | apply below_alloc | apply pw_below_drewN | apply below_drew1) | exact HB.out)) hb); clear HO143; clear HB; have HO143 := n0_; have HB := n1_; clear n0_ n1_; (try clear hb); (try clear hb2); (try clear hk); (try clear hi)))
        go_meet
        case rel => exact ⟨_, (t144), (by first | rfl | (simp; done) | (simp [*]; done)), H', ⟨by first | omega | exact Nat.le_refl _⟩, ⟨by (with_reducible repeat (first | apply Kd.S_alloc | apply Kd.S_drewN | apply Kd.S_drew)); exact HO143.out⟩, ⟨by repeat (first | (with_reducible first | exact HB.out | apply below_alloc | apply pw_below_drewN | apply below_drew1) | exact HB.out)⟩⟩
      · rw [if_neg c10] at H
        have c10b0 : (t141 == 0) = false := beq_eq_false_iff_ne.mpr c10
        have c10b1 : (t141 != 0) = true := bne_iff_ne.mpr c10
        (first | rw [c10b0] | (simp only [i64_w, i32_w]; rw [c10b0]) | skip)
        have H' := Aside0.mk H
        clear H
        go_wp2
        go_meet
        case rel => exact ⟨_, (false), (by first | rfl | (simp; done) | (simp [*]; done)), H', ⟨by first | omega | exact Nat.le_refl _⟩, ⟨by (with_reducible repeat (first | apply Kd.S_alloc | apply Kd.S_drewN | apply Kd.S_drew)); exact HO143.out⟩, ⟨by repeat (first | (with_reducible first | exact HB.out | apply below_alloc | apply pw_below_drewN | apply below_drew1) | exact HB.out)⟩⟩
    case rest =>
      clear HC8
      try clear c1
      try clear c2
      try clear p2
      try clear c6
      try clear c6b0
      try clear c6b1
      try clear c10
      try clear c10b0
      try clear c10b1
      try clear c12
      obtain ⟨kq, x36_7, rfl, HA, HJ7, HO_12, HB⟩ := hcut
      cases kq with
      | zero => exact absurd HA.out (by simp [hyphen_Points.j0])
      | succ kj7 =>
        have H := HA.out
        clear HA
        simp only [hyphen_Points.j0] at H
        have HC13 := Aside0.mk H
        clear H
        go_upto_if 36 with (fail)
        go_cut [13] (fun v13 wc => ∃ (kq : Nat) (x13_12 : Int), v13 = .int .i64 x13_12 ∧ Aside0 (hyphen_Points.j1 kq a0 l2 a3 a4 t140 x13_12 = some (r1, r2)) ∧ Aside0 (kq ≤ kj7) ∧ Aside0 (Kd.S k64 64 wc w.heap.size (fun _ => True) v142 t140) ∧ Aside0 (Below w.heap.size w wc))
        case first =>
          have H := HC13.out
          clear HC13
          by_cases c14 : x36_7 = true
          · subst c14
            have H1 : (hyphen_Points.j1 kj7 a0 l2 a3 a4 t140 4) = some (r1, r2) := by rw [if_pos rfl] at H; exact H
            clear H
            have H := H1
            clear H1
            have H' := Aside0.mk H
            clear H
            go_wp2
            go_meet
            case rel => exact ⟨_, (4), (by first | rfl | (simp; done) | (simp [*]; done)), H', ⟨by have := HJ7.out; first | omega | exact Nat.le_refl _⟩, ⟨by (with_reducible repeat (first | apply Kd.S_alloc | apply Kd.S_drewN | apply Kd.S_drew)); exact HO_12.out⟩, ⟨by repeat (first | (with_reducible first | exact HB.out | apply below_alloc | apply pw_below_drewN | apply below_drew1) | exact HB.out)⟩⟩
          · replace c14 := Bool.eq_false_iff.mpr c14
            subst c14
            have H1 : (hyphen_Points.j1 kj7 a0 l2 a3 a4 t140 t141) = some (r1, r2) := by rw [if_neg (show ¬ (false = true) by decide)] at H; exact H
            clear H
            have H := H1
            clear H1
            have H' := Aside0.mk H
            clear H
            go_wp2
            go_meet
            case rel => exact ⟨_, (t141), (by first | rfl | (simp; done) | (simp [*]; done)), H', ⟨by have := HJ7.out; first | omega | exact Nat.le_refl _⟩, ⟨by (with_reducible repeat (first | apply Kd.S_alloc | apply Kd.S_drewN | apply Kd.S_drew)); exact HO_12.out⟩, ⟨by repeat (first | (with_reducible first | exact HB.out | apply below_alloc | apply pw_below_drewN | apply below_drew1) | exact HB.out)⟩⟩
        case rest =>
          clear HC13
          try clear c1
          try clear c2
          try clear p2
          try clear c6
          try clear c6b0
          try clear c6b1
          try clear c10
          try clear c10b0
          try clear c10b1
          try clear c12
          try clear c14
          try clear p2
          obtain ⟨kq, x13_12, rfl, HA, HJ12, HO_12, HB⟩ := hcut
          cases kq with
          | zero => exact absurd HA.out (by simp [hyphen_Points.j1])
          | succ kj12 =>
            have H := HA.out
            clear HA
            simp only [hyphen_Points.j1] at H
            by_cases c15 : x13_12 = 0
            · rw [if_pos c15] at H
              have c15b0 : (x13_12 == 0) = true := beq_iff_eq.mpr c15
              have c15b1 : (x13_12 != 0) = false := bne_eq_false_iff_eq.mpr c15
              clear c15
              replace H := Option.bind_eq_some_iff.mp H
              obtain ⟨⟨t145, t146⟩, A160, H⟩ := H
              replace H : (if (t146 = true) then (if (mn a3 a4) < 1 then (hyphen_Points.j2 kj12 l2 a3 a4 t140 t145 true) else (hyphen_Points.j2 kj12 l2 a3 a4 t140 t145 (decide ((mx a3 a4) > 10)))) else (hyphen_Points.j2 kj12 l2 a3 a4 t140 t145 true)) = some (r1, r2) := H
              have A16 := Aside0.mk A160
              clear A160
              have HC17 := Aside0.mk H
              clear H
              go_upto_region 9 with (first | ((with_reducible refine gate_callee (f := 31) rfl ?_); refine goesL_ (some 42) rfl rfl Tryd.func31 (by kernel_rfl) rfl #[.string a0] rfl (by (try simp only [List.map_toArray, List.map_cons, List.map_nil]); first | done | rfl | (simp only [List.length_drop, List.length_take]; rfl)) ?_; (with_reducible refine (hyphen_low.calls a0 t145 t146 _ A16.out).mono ?_); rintro e w18 ⟨rfl, hb⟩; refine ⟨_, rfl, ?_⟩; have n0_ := Aside0.mk (Kd.S_below (by (with_reducible repeat (first | apply Kd.S_alloc | apply Kd.S_drewN | apply Kd.S_drew)); exact HO_12.out) hb); have n1_ := Aside0.mk (below_step (by repeat (first | (with_reducible first | exact HB.out | apply below_alloc | apply pw_below_drewN | apply below_drew1) | exact HB.out)) hb); clear HO_12; clear HB; have HO_12 := n0_; have HB := n1_; clear n0_ n1_; (try clear hb); (try clear hb2); (try clear hk); (try clear hi)))
              (try simp only [Act.put, List.setIfInBounds_toArray, List.set_cons_zero, List.set_cons_succ])
              go_cut [58] (fun v58 wc => ∃ (kq : Nat) (x58_16 : Bool), v58 = .bool x58_16 ∧ Aside0 (hyphen_Points.j2 kq l2 a3 a4 t140 t145 x58_16 = some (r1, r2)) ∧ Aside0 (kq ≤ kj12) ∧ Aside0 (Kd.S k64 64 wc w.heap.size (fun _ => True) v142 t140) ∧ Aside0 (Below w.heap.size w wc))
              case first =>
                have H := HC17.out
                clear HC17
                by_cases c19 : (t146 = true)
                · subst c19
                  have H1 : (if (mn a3 a4) < 1 then (hyphen_Points.j2 kj12 l2 a3 a4 t140 t145 true) else (hyphen_Points.j2 kj12 l2 a3 a4 t140 t145 (decide ((mx a3 a4) > 10)))) = some (r1, r2) := by rw [if_pos rfl] at H; exact H
                  clear H
                  have H := H1
                  clear H1
                  obtain ⟨ji20, hji20⟩ : ∃ j_ : Int, (mn a3 a4) = j_ := ⟨_, rfl⟩
                  replace H : (if (ji20) < 1 then (hyphen_Points.j2 kj12 l2 a3 a4 t140 t145 true) else (hyphen_Points.j2 kj12 l2 a3 a4 t140 t145 (decide ((mx a3 a4) > 10)))) = some (r1, r2) := by first | (rw [hji20] at H; exact H) | (simp only [hji20] at H ⊢; exact H)
                  have hji20_ : (if a4 < a3 then a4 else a3) = ji20 := hji20
                  by_cases c21 : (ji20) < 1
                  · rw [if_pos c21] at H
                    have c21b0 : decide ((ji20) < 1) = true := decide_eq_true c21
                    clear c21
                    (first | rw [c21b0] | (simp only [i64_w, i32_w]; rw [c21b0]) | skip)
                    have H' := Aside0.mk H
                    clear H
                    go_wp2
                    go_meet
                    case rel => exact ⟨_, (true), (by first | rfl | (simp; done) | (simp [*]; done)), H', ⟨by have := HJ7.out; have := HJ12.out; first | omega | exact Nat.le_refl _⟩, ⟨by (with_reducible repeat (first | apply Kd.S_alloc | apply Kd.S_drewN | apply Kd.S_drew)); exact HO_12.out⟩, ⟨by repeat (first | (with_reducible first | exact HB.out | apply below_alloc | apply pw_below_drewN | apply below_drew1) | exact HB.out)⟩⟩
                  · rw [if_neg c21] at H
                    have c21b0 : decide ((ji20) < 1) = false := decide_eq_false c21
                    clear c21
                    (first | rw [c21b0] | (simp only [i64_w, i32_w]; rw [c21b0]) | skip)
                    obtain ⟨ji22, hji22⟩ : ∃ j_ : Int, (mx a3 a4) = j_ := ⟨_, rfl⟩
                    replace H : (hyphen_Points.j2 kj12 l2 a3 a4 t140 t145 (decide ((ji22) > 10))) = some (r1, r2) := by first | (rw [hji22] at H; exact H) | (simp only [hji22] at H ⊢; exact H)
                    have hji22_ : (if a3 < a4 then a4 else a3) = ji22 := hji22
                    have H' := Aside0.mk H
                    clear H
                    go_wp2
                    go_meet
                    case rel => exact ⟨_, (decide ((ji22) > 10)), (by first | rfl | (simp; done) | (simp only [← hji22] <;> (first | rfl | (simp; done) | (simp [mn, mx]; done))) | (simp [*]; done)), H', ⟨by have := HJ7.out; have := HJ12.out; first | omega | exact Nat.le_refl _⟩, ⟨by (with_reducible repeat (first | apply Kd.S_alloc | apply Kd.S_drewN | apply Kd.S_drew)); exact HO_12.out⟩, ⟨by repeat (first | (with_reducible first | exact HB.out | apply below_alloc | apply pw_below_drewN | apply below_drew1) | exact HB.out)⟩⟩
                · replace c19 := Bool.eq_false_iff.mpr c19
                  subst c19
                  have H1 : (hyphen_Points.j2 kj12 l2 a3 a4 t140 t145 true) = some (r1, r2) := by rw [if_neg (show ¬ (false = true) by decide)] at H; exact H
                  clear H
                  have H := H1
                  clear H1
                  have H' := Aside0.mk H
                  clear H
                  go_wp2
                  go_meet
                  case rel => exact ⟨_, (true), (by first | rfl | (simp; done) | (simp [*]; done)), H', ⟨by have := HJ7.out; have := HJ12.out; first | omega | exact Nat.le_refl _⟩, ⟨by (with_reducible repeat (first | apply Kd.S_alloc | apply Kd.S_drewN | apply Kd.S_drew)); exact HO_12.out⟩, ⟨by repeat (first | (with_reducible first | exact HB.out | apply below_alloc | apply pw_below_drewN | apply below_drew1) | exact HB.out)⟩⟩
              case rest =>
                clear HC17
                try clear c1
                try clear c2
                try clear p2
                try clear c3
                try clear c6
                try clear c6b0
                try clear c6b1
                try clear c10
                try clear c10b0
                try clear c10b1
                try clear c12
                try clear c14
                try clear c15
                try clear c15b0
                try clear c15b1
                try clear c19
                try clear c21
                try clear c21b0
                try clear p2
                obtain ⟨kq, x58_16, rfl, HA, HJ16, HO_12, HB⟩ := hcut
                cases kq with
                | zero => exact absurd HA.out (by simp [hyphen_Points.j2])
                | succ kj16 =>
                  have H := HA.out
                  clear HA
                  simp only [hyphen_Points.j2] at H
                  by_cases c23 : x58_16 = true
                  · subst c23
                    have H1 : (some (([] : List Int), 1)) = some (r1, r2) := by rw [if_pos rfl] at H; exact H
                    clear H
                    have H := H1
                    clear H1
                    simp only [Option.some.injEq, Prod.mk.injEq] at H
                    obtain ⟨rfl, rfl⟩ := H
                    go_wp2
                    go_ret2
                    exact ⟨_, by first | rfl | (simp [errW_none, errW_some] <;> rfl) | (simp [*, errW_none, errW_some] <;> rfl), by first | exact Kd.R_nil _ _ _ _ _ | exact Kd.N_nil _ _ _ _ _ | exact Kd.V_nil _ _ _ _ _ | exact Kd.Q_nil _ _ _ _ _ | exact Kd.S_nil _ _ _ _ _, by repeat (first | (with_reducible first | exact HB.out | apply below_alloc | apply pw_below_drewN | apply below_drew1) | exact HB.out)⟩
                  · replace c23 := Bool.eq_false_iff.mpr c23
                    subst c23
                    have H1 : ((hyphen_values.f kj16 t145 t140).bind fun t147 => (hyphen_Points.l0 kj16 a3 a4 t145 t147 l2 (l2.length : Int) 0)) = some (r1, r2) := by rw [if_neg (show ¬ (false = true) by decide)] at H; exact H
                    clear H
                    have H := H1
                    clear H1
                    replace H := Option.bind_eq_some_iff.mp H
                    obtain ⟨t147, A240, H⟩ := H
                    replace H : (hyphen_Points.l0 kj16 a3 a4 t145 t147 l2 (l2.length : Int) 0) = some (r1, r2) := H
                    have A24 := Aside0.mk A240
                    clear A240
                    have H' := Aside0.mk H
                    clear H
                    obtain ⟨Ao25, co25, eo25⟩ := Kd.S_slice HO_12.out
                    subst eo25
                    go_wp2_with (first | ((with_reducible refine gate_callee (f := 32) rfl ?_); refine goesL_ (some 61) rfl rfl Tryd.func32 (by kernel_rfl) rfl #[.string t145, .slice Ao25 t140.length co25] rfl (by (try simp only [List.map_toArray, List.map_cons, List.map_nil]); first | done | rfl | (simp only [List.length_drop, List.length_take]; rfl)) ?_; (with_reducible refine (hyphen_values.calls kj16 t145 _ _ t140 t147 _ ?side1 ?side2 A24.out).mono ?_); (case side1 => repeat (first | exact (Kd.S_reads' HO_12.out).2.2 | (with_reducible refine Kd.C_alloc ?_ _) | (with_reducible refine Kd.C_drewN ?_ _) | (with_reducible refine Kd.C_drew ?_))); (case side2 => exact (Kd.S_reads' HO_12.out).2.1); rintro e w26 ⟨v148, rfl, ho0, hb⟩; refine ⟨_, rfl, ?_⟩; have n0_ := Aside0.mk (Kd.S_below (by (with_reducible repeat (first | apply Kd.S_alloc | apply Kd.S_drewN | apply Kd.S_drew)); exact HO_12.out) hb); have n1_ := Aside0.mk (Kd.V_lower (Kd.V_mono (ok' := fun k_ => some k_ ≠ (.slice Ao25 t140.length co25 : Value).ownBlock) ho0 (fun k_ hk_ => (Kd.fresh' (Kd.S_lt (by (with_reducible repeat (first | apply Kd.S_alloc | apply Kd.S_drewN | apply Kd.S_drew)); exact HO_12.out)) k_ hk_))) (below_size (by repeat (first | (with_reducible first | exact HB.out | apply below_alloc | apply pw_below_drewN | apply below_drew1) | exact HB.out)))); have n2_ := Aside0.mk (below_step (by repeat (first | (with_reducible first | exact HB.out | apply below_alloc | apply pw_below_drewN | apply below_drew1) | exact HB.out)) hb); clear HO_12; clear HB; have HO_12 := n0_; have HO149 := n1_; have HB := n2_; clear n0_ n1_ n2_; (try clear hb); (try clear hb2); (try clear hk); (try clear hi); (try clear ho0)))
                    go_loopg [16, 64] kj16 (fun kq v16 v64 w' => ∃ (x16_4 : List Int) (x64_4 : Int), v64 = .int .i64 x64_4 ∧ Aside0 (hyphen_Points.l0 kq a3 a4 t145 x16_4 l2 (l2.length : Int) x64_4 = some (r1, r2)) ∧ Aside0 (kq ≤ kj16) ∧ Aside0 (Kd.V (Kd.int .i64) 3 w' w.heap.size (fun _ => True) v16 x16_4) ∧ Aside0 (Below w.heap.size w w'))
                    case atStart => exact ⟨(t147), (0), (by first | rfl | (simp; done) | (simp [*]; done)), H', ⟨Nat.le_refl _⟩, ⟨by (with_reducible repeat (first | apply Kd.V_alloc | apply Kd.V_drewN | apply Kd.V_drew)); exact Kd.V_mono HO149.out (fun _ hk => trivial)⟩, ⟨by repeat (first | (with_reducible first | exact HB.out | apply below_alloc | apply pw_below_drewN | apply below_drew1) | exact HB.out)⟩⟩
                    case round =>
                      clear H'
                      try clear c1
                      try clear c2
                      try clear p2
                      try clear c3
                      try clear c6
                      try clear c6b0
                      try clear c6b1
                      try clear c10
                      try clear c10b0
                      try clear c10b1
                      try clear c12
                      try clear c14
                      try clear c15
                      try clear c15b0
                      try clear c15b1
                      try clear c19
                      try clear c21
                      try clear c21b0
                      try clear c23
                      try clear p2
                      obtain ⟨x16_4, x64_4, rfl, HA, HK4, HO_16, HB⟩ := hrel
                      cases gk with
                      | zero => exact absurd HA.out (by simp [hyphen_Points.l0])
                      | succ k4 =>
                        have H := HA.out
                        clear HA
                        simp only [hyphen_Points.l0] at H
                        by_cases c27 : x64_4 < (l2.length : Int)
                        · rw [if_pos c27] at H
                          have c27b0 : decide (x64_4 < (l2.length : Int)) = true := decide_eq_true c27
                          clear c27
                          by_cases c28 : 0 ≤ x64_4
                          · rw [if_pos c28] at H
                            have c28b0 : decide (0 ≤ x64_4) = true := decide_eq_true c28
                            clear c28
                            by_cases c29 : x64_4 < (l2.length : Int)
                            · rw [if_pos c29] at H
                              have c29b0 : decide (x64_4 < (l2.length : Int)) = true := decide_eq_true c29
                              clear c29
                              replace H := Option.bind_eq_some_iff.mp H
                              obtain ⟨t151, A300, H⟩ := H
                              replace H : (if t151.toList = t145.toList then (if 0 ≤ (wrap64 ((t145.size : Int) + 1)) then (if (wrap64 ((t145.size : Int) + 1) : Int).toNat ≤ 35184372088832 then (hyphen_Points.l1 k4 a3 a4 t145 (List.replicate (wrap64 ((t145.size : Int) + 1) : Int).toNat 0) (rdOf ByteArray.empty l2 x64_4) 0 l2 (l2.length : Int) x64_4 ((rdOf ByteArray.empty l2 x64_4).size : Int) 0) else (none)) else (none)) else (hyphen_Points.l0 k4 a3 a4 t145 x16_4 l2 (l2.length : Int) (wrap64 (x64_4 + 1)))) = some (r1, r2) := H
                              have A30 := Aside0.mk A300
                              clear A300
                              by_cases c31 : t151.toList = t145.toList
                              · rw [if_pos c31] at H
                                have c31b0 : (t151.toList == t145.toList) = true := beq_iff_eq.mpr c31
                                have c31b1 : (t151.toList != t145.toList) = false := bne_eq_false_iff_eq.mpr c31
                                clear c31
                                obtain ⟨ji32, hji32⟩ : ∃ j_ : Int, (wrap64 ((t145.size : Int) + 1)) = j_ := ⟨_, rfl⟩
                                replace H : (if 0 ≤ (ji32) then (if (ji32 : Int).toNat ≤ 35184372088832 then (hyphen_Points.l1 k4 a3 a4 t145 (List.replicate (ji32 : Int).toNat 0) (rdOf ByteArray.empty l2 x64_4) 0 l2 (l2.length : Int) x64_4 ((rdOf ByteArray.empty l2 x64_4).size : Int) 0) else (none)) else (none)) = some (r1, r2) := by first | (rw [hji32] at H; exact H) | (simp only [hji32] at H ⊢; exact H)
                                (try rw [hji32] at A30)
                                have hji32w : (IntKind.i64.wrap ((t145.size : Int) + 1)) = ji32 := (i64_w _).trans hji32
                                by_cases c33 : 0 ≤ (ji32)
                                · rw [if_pos c33] at H
                                  have c33b0 := eq_true c33
                                  have c33b1 : decide (0 ≤ (ji32)) = true := decide_eq_true c33
                                  clear c33
                                  by_cases c34 : (ji32 : Int).toNat ≤ 35184372088832
                                  · rw [if_pos c34] at H
                                    have c34b0 := eq_true c34
                                    have c34b1 : decide ((ji32 : Int).toNat ≤ 35184372088832) = true := decide_eq_true c34
                                    clear c34
                                    obtain ⟨y152, hy152⟩ : ∃ y_ : List Int, y_ = (List.replicate (ji32 : Int).toNat 0) := ⟨_, rfl⟩
                                    replace H : (hyphen_Points.l1 k4 a3 a4 t145 y152 (rdOf ByteArray.empty l2 x64_4) 0 l2 (l2.length : Int) x64_4 ((rdOf ByteArray.empty l2 x64_4).size : Int) 0) = some (r1, r2) := by first | (rw [hy152]; with_reducible exact H) | (have H2_ := (Option.bind_some _ _).symm.trans H; rw [hy152]; with_reducible exact H2_) | (have H2_ := (Option.bind_some _ _).symm.trans H; with_reducible exact H2_) | with_reducible exact H | (rw [hy152]; exact H) | exact H
                                    have Ny152 := Aside0.mk hy152
                                    clear hy152
                                    have H' := Aside0.mk H
                                    clear H
                                    have p150 : 0 ≤ (x64_4 : Int) := of_decide_eq_true (by first | (with_reducible assumption) | assumption)
                                    have q150 : x64_4 < (l2.length : Int) := of_decide_eq_true (by first | (with_reducible assumption) | assumption)
                                    obtain ⟨ad150, e150, hx150_0⟩ := Kd.at_string HR2.out x64_4 p150 q150
                                    cases e150
                                    replace hx150_0 := (HB.out.cell (World.block_lt_of_cell? w _ hx150_0)).trans hx150_0
                                    replace p150 := eq_true p150
                                    replace q150 := eq_true q150
                                    go_wp2_with (first | ((with_reducible refine gate_callee (f := 33) rfl ?_); refine goesL_ (some 69) rfl rfl Tryd.func33 (by kernel_rfl) rfl #[.string (rdOf ByteArray.empty l2 x64_4), .string (⟨#[45]⟩ : ByteArray), .string (⟨#[]⟩ : ByteArray)] rfl (by (try simp only [List.map_toArray, List.map_cons, List.map_nil]); first | done | rfl | (simp only [List.length_drop, List.length_take]; rfl)) ?_; (with_reducible refine (strings_ReplaceAll.calls (rdOf ByteArray.empty l2 x64_4) (⟨#[45]⟩ : ByteArray) (⟨#[]⟩ : ByteArray) t151 _ A30.out).mono ?_); rintro e w35 ⟨rfl, hb⟩; refine ⟨_, rfl, ?_⟩; have n0_ := Aside0.mk (Kd.V_below (by (with_reducible repeat (first | apply Kd.V_alloc | apply Kd.V_drewN | apply Kd.V_drew)); exact HO_16.out) hb); have n1_ := Aside0.mk (below_step (by repeat (first | (with_reducible first | exact HB.out | apply below_alloc | apply pw_below_drewN | apply below_drew1) | exact HB.out)) hb); clear HO_16; clear HB; have HO_16 := n0_; have HB := n1_; clear n0_ n1_; (try clear hb); (try clear hb2); (try clear hk); (try clear hi)) | ((with_reducible refine gate_dst (N := 75) rfl ?_); (try (refine gate_guard (by rfl) ?_; dsimp only)); refine Kd.R_make (Kd.int .i64) _ 3 rfl (N := 75) rfl 22 _ _ rfl ji32 rfl rfl Tryd.underlying22 (.int .i64 0) 8 info3 rfl (by decide) (by omega) 0 (ok := fun _ => True) (okp := fun _ => True) rfl (fun _ hk => hk) trivial (of_decide_eq_true (by first | (with_reducible assumption) | assumption)) (Nat.le_trans (Nat.mul_le_mul_right _ (of_decide_eq_true (by first | (with_reducible assumption) | assumption) : ji32.toNat ≤ 35184372088832)) (by omega)) (Below.refl _ _) (Nat.le_refl _) ?_; intro v153 w36 ho37 hb hg_ hnew_; clear hg_ hnew_; (first | rw [← Ny152.out] at ho37 | (simp only [Int.reduceToNat] at ho37; rw [← Ny152.out] at ho37)); have n0_ := Aside0.mk (Kd.V_elder' (by (with_reducible repeat (first | apply Kd.V_alloc | apply Kd.V_drewN | apply Kd.V_drew)); exact HO_16.out) (Kd.R_base ho37) hb); have n1_ := Aside0.mk (Kd.R_lower ho37 (below_size (by repeat (first | (with_reducible first | exact HB.out | apply below_alloc | apply pw_below_drewN | apply below_drew1) | exact HB.out)))); have n2_ := Aside0.mk (below_step (by repeat (first | (with_reducible first | exact HB.out | apply below_alloc | apply pw_below_drewN | apply below_drew1) | exact HB.out)) hb); clear HO_16; clear HB; have HO_16 := n0_; have HO154 := n1_; have HB := n2_; clear n0_ n1_ n2_; clear hb ho37))
                                    go_loopg [19, 78] k4 (fun kq v19 v78 w' => ∃ (x16_5 : List Int) (x19_5 : Int) (x78_5 : Int), v19 = .int .i64 x19_5 ∧ v78 = .int .i64 x78_5 ∧ Aside0 (hyphen_Points.l1 kq a3 a4 t145 x16_5 (rdOf ByteArray.empty l2 x64_4) x19_5 l2 (l2.length : Int) x64_4 ((rdOf ByteArray.empty l2 x64_4).size : Int) x78_5 = some (r1, r2)) ∧ Aside0 (kq ≤ k4) ∧ Aside0 (Kd.R (Kd.int .i64) 3 w' w.heap.size (fun _ => True) v153 x16_5) ∧ Aside0 (Below w.heap.size w w'))
                                    case atStart => exact ⟨(y152), (0), (0), (by first | rfl | (simp; done) | (simp [*]; done)), (by first | rfl | (simp; done) | (simp [*]; done)), H', ⟨Nat.le_refl _⟩, ⟨by (with_reducible repeat (first | apply Kd.R_alloc | apply Kd.R_drewN | apply Kd.R_drew)); exact HO154.out⟩, ⟨by repeat (first | (with_reducible first | exact HB.out | apply below_alloc | apply pw_below_drewN | apply below_drew1) | exact HB.out)⟩⟩
                                    case round =>
                                      clear H'
                                      try clear c1
                                      try clear p1
                                      try clear q1
                                      try clear hx1
                                      try clear c2
                                      try clear p2
                                      try clear c3
                                      try clear c6
                                      try clear c6b0
                                      try clear c6b1
                                      try clear p6
                                      try clear c10
                                      try clear c10b0
                                      try clear c10b1
                                      try clear c12
                                      try clear c14
                                      try clear c15
                                      try clear c15b0
                                      try clear c15b1
                                      try clear p15
                                      try clear q15
                                      try clear hx15
                                      try clear c19
                                      try clear c21
                                      try clear c21b0
                                      try clear c23
                                      try clear c27
                                      try clear c27b0
                                      try clear c28
                                      try clear c28b0
                                      try clear c29
                                      try clear c29b0
                                      try clear c31
                                      try clear c31b0
                                      try clear c31b1
                                      try clear c32
                                      try clear c33
                                      try clear c33b0
                                      try clear c33b1
                                      try clear c34
                                      try clear c34b0
                                      try clear c34b1
                                      try clear hx150_0
                                      try clear p150
                                      try clear p2
                                      try clear q150
                                      obtain ⟨x16_5, x19_5, x78_5, rfl, rfl, HA, HK5, HO_16, HB⟩ := hrel
                                      cases gk with
                                      | zero => exact absurd HA.out (by simp [hyphen_Points.l1])
                                      | succ k5 =>
                                        have H := HA.out
                                        clear HA
                                        simp only [hyphen_Points.l1] at H
                                        by_cases c38 : x78_5 < ((rdOf ByteArray.empty l2 x64_4).size : Int)
                                        · rw [if_pos c38] at H
                                          have c38b0 : decide (x78_5 < ((rdOf ByteArray.empty l2 x64_4).size : Int)) = true := decide_eq_true c38
                                          clear c38
                                          by_cases c39 : 0 ≤ x78_5
                                          · rw [if_pos c39] at H
                                            have c39b0 : decide (0 ≤ x78_5) = true := decide_eq_true c39
                                            clear c39
                                            by_cases c40 : x78_5 < ((rdOf ByteArray.empty l2 x64_4).size : Int)
                                            · rw [if_pos c40] at H
                                              have c40b0 : decide (x78_5 < ((rdOf ByteArray.empty l2 x64_4).size : Int)) = true := decide_eq_true c40
                                              clear c40
                                              by_cases c42 : (bt (rdOf ByteArray.empty l2 x64_4) x78_5) = 45
                                              · rw [if_pos c42] at H
                                                have c42b0 : ((bt (rdOf ByteArray.empty l2 x64_4) x78_5) == 45) = true := beq_iff_eq.mpr c42
                                                have c42b1 : ((bt (rdOf ByteArray.empty l2 x64_4) x78_5) != 45) = false := bne_eq_false_iff_eq.mpr c42
                                                clear c42
                                                by_cases c43 : 0 ≤ x19_5
                                                · rw [if_pos c43] at H
                                                  have c43b0 : decide (0 ≤ x19_5) = true := decide_eq_true c43
                                                  clear c43
                                                  by_cases c44 : x19_5 < (x16_5.length : Int)
                                                  · rw [if_pos c44] at H
                                                    have c44b0 : decide (x19_5 < (x16_5.length : Int)) = true := decide_eq_true c44
                                                    clear c44
                                                    obtain ⟨y155, hy155⟩ : ∃ y_ : List Int, y_ = (x16_5.set (x19_5 : Int).toNat 1) := ⟨_, rfl⟩
                                                    replace H : (hyphen_Points.l1 k5 a3 a4 t145 y155 (rdOf ByteArray.empty l2 x64_4) x19_5 l2 (l2.length : Int) x64_4 ((rdOf ByteArray.empty l2 x64_4).size : Int) (wrap64 (x78_5 + 1))) = some (r1, r2) := by first | (rw [hy155]; with_reducible exact H) | (have H2_ := (Option.bind_some _ _).symm.trans H; rw [hy155]; with_reducible exact H2_) | (have H2_ := (Option.bind_some _ _).symm.trans H; with_reducible exact H2_) | with_reducible exact H | (rw [hy155]; exact H) | exact H
                                                    have Ny155 := Aside0.mk hy155
                                                    clear hy155
                                                    have H' := Aside0.mk H
                                                    clear H
                                                    have p41 : 0 ≤ (x78_5 : Int) := of_decide_eq_true (by first | (with_reducible assumption) | assumption)
                                                    have q41 : x78_5 < ((rdOf ByteArray.empty l2 x64_4).size : Int) := of_decide_eq_true (by first | (with_reducible assumption) | assumption)
                                                    have hx41 := bt_at (rdOf ByteArray.empty l2 x64_4) x78_5
                                                    replace p41 := eq_true p41
                                                    replace q41 := eq_true q41
                                                    have p45 : 0 ≤ (x19_5 : Int) := of_decide_eq_true (by first | (with_reducible assumption) | assumption)
                                                    have q45 : (x19_5 : Int) < ((x16_5.length : Int) : Int) := of_decide_eq_true (by first | (with_reducible assumption) | assumption)
                                                    obtain ⟨go45, co45, eo45, gb45, gl45, cl45, HG45⟩ := Kd.R_form HO_16.out (by omega)
                                                    (first | cases eo45 | (injection eo45 with ea_ en_ ec_; (first | subst ea_ | (injection ea_ with ea_; subst ea_)); subst ec_; clear en_))
                                                    have GB45 := Aside0.mk gb45
                                                    have GG45 := Aside0.mk HG45
                                                    clear gb45 gl45 HG45
                                                    obtain ⟨hx45_0, hf45_0⟩ := Kd.R_celln 0 HO_16.out (x19_5 : Int) p45 q45
                                                    replace p45 := eq_true p45
                                                    replace q45 := eq_true q45
                                                    have HP46 := Kd.R_putg HO_16.out (x19_5 : Int) 1
                                                    go_wp2_with (first | ((with_reducible refine gate_store (t := 3) (p := 87) rfl ?_); refine store_event (t := 3) (p := 87) (v := ?vo_w47) (w1 := (wr.setCell ⟨go45, (x19_5 : Int).toNat, none⟩ (.int .i64 1))) ?hg ?ho ?hn ?hr ?_; (case ho => rfl); (case hg => rfl); (case hn => rfl); (case hr => first | (go_simp; done) | (go_simp; rfl)); intro w47 hw; have hg : wr.grownBy w47 (some go45) := (by rw [hw]; exact HP46.2); have hp_ : Kd.R (Kd.int .i64) 3 w47 w.heap.size (fun _ => True) (.slice (some ⟨go45, 0, none⟩) x16_5.length co45) y155 := (by rw [hw, Ny155.out]; exact HP46.1); clear HP46; have n0_ := Aside0.mk (hp_); have n1_ := Aside0.mk ((by rw [hw]; exact below_set (HB.out) GB45.out : Below w.heap.size w w47)); clear HO_16; clear HB; have HO_16 := n0_; have HB := n1_; clear n0_ n1_; clear hg hw hp_))
                                                    go_roundg k5
                                                    case measure => have := HJ7.out; have := HJ12.out; have := HJ16.out; have := HK4.out; have := HK5.out; omega
                                                    case rel => exact ⟨(y155), (x19_5), (wrap64 (x78_5 + 1)), (by first | rfl | (simp; done) | (simp [*]; done)), (by first | rfl | (simp; done) | (simp [*]; done)), H', ⟨by have := HJ7.out; have := HJ12.out; have := HJ16.out; have := HK4.out; have := HK5.out; omega⟩, ⟨by (with_reducible repeat (first | apply Kd.R_alloc | apply Kd.R_drewN | apply Kd.R_drew)); exact HO_16.out⟩, ⟨by repeat (first | (with_reducible first | exact HB.out | apply below_alloc | apply pw_below_drewN | apply below_drew1) | exact HB.out)⟩⟩
                                                  · rw [if_neg c44] at H
                                                    exact absurd H (by simp)
                                                · rw [if_neg c43] at H
                                                  exact absurd H (by simp)
                                              · rw [if_neg c42] at H
                                                have c42b0 : ((bt (rdOf ByteArray.empty l2 x64_4) x78_5) == 45) = false := beq_eq_false_iff_ne.mpr c42
                                                have c42b1 : ((bt (rdOf ByteArray.empty l2 x64_4) x78_5) != 45) = true := bne_iff_ne.mpr c42
                                                have H' := Aside0.mk H
                                                clear H
                                                have p41 : 0 ≤ (x78_5 : Int) := of_decide_eq_true (by first | (with_reducible assumption) | assumption)
                                                have q41 : x78_5 < ((rdOf ByteArray.empty l2 x64_4).size : Int) := of_decide_eq_true (by first | (with_reducible assumption) | assumption)
                                                have hx41 := bt_at (rdOf ByteArray.empty l2 x64_4) x78_5
                                                replace p41 := eq_true p41
                                                replace q41 := eq_true q41
                                                go_wp2
                                                go_roundg k5
                                                case measure => have := HJ7.out; have := HJ12.out; have := HJ16.out; have := HK4.out; have := HK5.out; omega
                                                case rel => exact ⟨(x16_5), (wrap64 (x19_5 + 1)), (wrap64 (x78_5 + 1)), (by first | rfl | (simp; done) | (simp [*]; done)), (by first | rfl | (simp; done) | (simp [*]; done)), H', ⟨by have := HJ7.out; have := HJ12.out; have := HJ16.out; have := HK4.out; have := HK5.out; omega⟩, ⟨by (with_reducible repeat (first | apply Kd.R_alloc | apply Kd.R_drewN | apply Kd.R_drew)); exact HO_16.out⟩, ⟨by repeat (first | (with_reducible first | exact HB.out | apply below_alloc | apply pw_below_drewN | apply below_drew1) | exact HB.out)⟩⟩
                                            · rw [if_neg c40] at H
                                              exact absurd H (by simp)
                                          · rw [if_neg c39] at H
                                            exact absurd H (by simp)
                                        · rw [if_neg c38] at H
                                          have c38b0 : decide (x78_5 < ((rdOf ByteArray.empty l2 x64_4).size : Int)) = false := decide_eq_false c38
                                          clear c38
                                          have H' := Aside0.mk H
                                          clear H
                                          go_wp2
                                          go_roundg k5
                                          case measure => have := HJ7.out; have := HJ12.out; have := HJ16.out; have := HK4.out; have := HK5.out; omega
                                          case rel => exact ⟨(x16_5), (wrap64 (x64_4 + 1)), (by first | rfl | (simp; done) | (simp [*]; done)), H', ⟨by have := HJ7.out; have := HJ12.out; have := HJ16.out; have := HK4.out; have := HK5.out; omega⟩, ⟨Kd.R_V (by (with_reducible repeat (first | apply Kd.R_alloc | apply Kd.R_drewN | apply Kd.R_drew)); exact HO_16.out)⟩, ⟨by repeat (first | (with_reducible first | exact HB.out | apply below_alloc | apply pw_below_drewN | apply below_drew1) | exact HB.out)⟩⟩
                                  · rw [if_neg c34] at H
                                    exact absurd H (by simp)
                                · rw [if_neg c33] at H
                                  exact absurd H (by simp)
                              · rw [if_neg c31] at H
                                have c31b0 : (t151.toList == t145.toList) = false := beq_eq_false_iff_ne.mpr c31
                                have c31b1 : (t151.toList != t145.toList) = true := bne_iff_ne.mpr c31
                                have H' := Aside0.mk H
                                clear H
                                have p150 : 0 ≤ (x64_4 : Int) := of_decide_eq_true (by first | (with_reducible assumption) | assumption)
                                have q150 : x64_4 < (l2.length : Int) := of_decide_eq_true (by first | (with_reducible assumption) | assumption)
                                obtain ⟨ad150, e150, hx150_0⟩ := Kd.at_string HR2.out x64_4 p150 q150
                                cases e150
                                replace hx150_0 := (HB.out.cell (World.block_lt_of_cell? w _ hx150_0)).trans hx150_0
                                replace p150 := eq_true p150
                                replace q150 := eq_true q150
                                go_wp2_with (first | ((with_reducible refine gate_callee (f := 33) rfl ?_); refine goesL_ (some 69) rfl rfl Tryd.func33 (by kernel_rfl) rfl #[.string (rdOf ByteArray.empty l2 x64_4), .string (⟨#[45]⟩ : ByteArray), .string (⟨#[]⟩ : ByteArray)] rfl (by (try simp only [List.map_toArray, List.map_cons, List.map_nil]); first | done | rfl | (simp only [List.length_drop, List.length_take]; rfl)) ?_; (with_reducible refine (strings_ReplaceAll.calls (rdOf ByteArray.empty l2 x64_4) (⟨#[45]⟩ : ByteArray) (⟨#[]⟩ : ByteArray) t151 _ A30.out).mono ?_); rintro e w48 ⟨rfl, hb⟩; refine ⟨_, rfl, ?_⟩; have n0_ := Aside0.mk (Kd.V_below (by (with_reducible repeat (first | apply Kd.V_alloc | apply Kd.V_drewN | apply Kd.V_drew)); exact HO_16.out) hb); have n1_ := Aside0.mk (below_step (by repeat (first | (with_reducible first | exact HB.out | apply below_alloc | apply pw_below_drewN | apply below_drew1) | exact HB.out)) hb); clear HO_16; clear HB; have HO_16 := n0_; have HB := n1_; clear n0_ n1_; (try clear hb); (try clear hb2); (try clear hk); (try clear hi)))
                                go_roundg k4
                                case measure => have := HJ7.out; have := HJ12.out; have := HJ16.out; have := HK4.out; omega
                                case rel => exact ⟨(x16_4), (wrap64 (x64_4 + 1)), (by first | rfl | (simp; done) | (simp [*]; done)), H', ⟨by have := HJ7.out; have := HJ12.out; have := HJ16.out; have := HK4.out; omega⟩, ⟨by (with_reducible repeat (first | apply Kd.V_alloc | apply Kd.V_drewN | apply Kd.V_drew)); exact HO_16.out⟩, ⟨by repeat (first | (with_reducible first | exact HB.out | apply below_alloc | apply pw_below_drewN | apply below_drew1) | exact HB.out)⟩⟩
                            · rw [if_neg c29] at H
                              exact absurd H (by simp)
                          · rw [if_neg c28] at H
                            exact absurd H (by simp)
                        · rw [if_neg c27] at H
                          have c27b0 : decide (x64_4 < (l2.length : Int)) = false := decide_eq_false c27
                          clear c27
                          have H' := Aside0.mk H
                          clear H
                          go_wp2
                          go_loopg [21, 22] k4 (fun kq v21 v22 w' => ∃ (x21_5 : List Int) (x22_5 : Int), v22 = .int .i64 x22_5 ∧ Aside0 (hyphen_Points.l2 kq a4 t145 x16_4 x21_5 x22_5 = some (r1, r2)) ∧ Aside0 (kq ≤ k4) ∧ Aside0 (Kd.V (Kd.int .i64) 3 w' w.heap.size (fun k_ => some k_ ≠ (v21 : Value).ownBlock) u16 x16_4) ∧ Aside0 (Kd.R (Kd.int .i64) 3 w' w.heap.size (fun _ => True) v21 x21_5) ∧ Aside0 (Below w.heap.size w w'))
                          case atStart => exact ⟨(([] : List Int)), (a3), (by first | rfl | (simp; done) | (simp [*]; done)), H', ⟨Nat.le_refl _⟩, ⟨by (with_reducible repeat (first | apply Kd.V_alloc | apply Kd.V_drewN | apply Kd.V_drew)); exact Kd.V_mono HO_16.out (fun _ hk => (by simp [Value.ownBlock]))⟩, ⟨by first | exact Kd.R_nil _ _ _ _ _ | exact Kd.N_nil _ _ _ _ _ | exact Kd.V_nil _ _ _ _ _ | exact Kd.Q_nil _ _ _ _ _ | exact Kd.S_nil _ _ _ _ _⟩, ⟨by repeat (first | (with_reducible first | exact HB.out | apply below_alloc | apply pw_below_drewN | apply below_drew1) | exact HB.out)⟩⟩
                          case round =>
                            clear H'
                            try clear c1
                            try clear p1
                            try clear q1
                            try clear hx1
                            try clear c2
                            try clear p2
                            try clear c3
                            try clear c4
                            try clear p4
                            try clear q4
                            try clear hx4
                            try clear c6
                            try clear c6b0
                            try clear c6b1
                            try clear p6
                            try clear c10
                            try clear c10b0
                            try clear c10b1
                            try clear c12
                            try clear c14
                            try clear c15
                            try clear c15b0
                            try clear c15b1
                            try clear p15
                            try clear q15
                            try clear hx15
                            try clear c19
                            try clear c21
                            try clear c21b0
                            try clear c23
                            try clear c27
                            try clear c27b0
                            try clear c28
                            try clear c28b0
                            try clear c29
                            try clear c29b0
                            try clear c31
                            try clear c31b0
                            try clear c31b1
                            try clear c32
                            try clear c33
                            try clear c33b0
                            try clear c33b1
                            try clear c34
                            try clear c34b0
                            try clear c34b1
                            try clear c38
                            try clear c38b0
                            try clear c39
                            try clear c39b0
                            try clear c40
                            try clear c40b0
                            try clear p41
                            try clear q41
                            try clear hx41
                            try clear c42
                            try clear c42b0
                            try clear c42b1
                            try clear c43
                            try clear c43b0
                            try clear c44
                            try clear c44b0
                            try clear p45
                            try clear q45
                            try clear hx45
                            try clear hf45
                            try clear hx150_0
                            try clear hx45_0
                            try clear p1
                            try clear p15
                            try clear p150
                            try clear p2
                            try clear p41
                            try clear p45
                            try clear p6
                            try clear q1
                            try clear q15
                            try clear q150
                            try clear q41
                            try clear q45
                            obtain ⟨x21_5, x22_5, rfl, HA, HK5, HO_16, HO_21, HB⟩ := hrel
                            cases gk with
                            | zero => exact absurd HA.out (by simp [hyphen_Points.l2])
                            | succ k5 =>
                              have H := HA.out
                              clear HA
                              simp only [hyphen_Points.l2] at H
                              by_cases c49 : x22_5 ≤ (wrap64 ((t145.size : Int) - a4))
                              · rw [if_pos c49] at H
                                have c49b0 : decide (x22_5 ≤ (wrap64 ((t145.size : Int) - a4))) = true := decide_eq_true c49
                                clear c49
                                by_cases c50 : 0 ≤ x22_5
                                · rw [if_pos c50] at H
                                  have c50b0 : decide (0 ≤ x22_5) = true := decide_eq_true c50
                                  clear c50
                                  by_cases c51 : x22_5 < (x16_4.length : Int)
                                  · rw [if_pos c51] at H
                                    have c51b0 : decide (x22_5 < (x16_4.length : Int)) = true := decide_eq_true c51
                                    clear c51
                                    by_cases c52 : (Int.tmod (rd x16_4 x22_5) 2) = 1
                                    · rw [if_pos c52] at H
                                      have c52b0 : ((Int.tmod (rd x16_4 x22_5) 2) == 1) = true := beq_iff_eq.mpr c52
                                      have c52b1 : ((Int.tmod (rd x16_4 x22_5) 2) != 1) = false := bne_eq_false_iff_eq.mpr c52
                                      clear c52
                                      by_cases c53 : x21_5.length < 17592186044416
                                      · rw [if_pos c53] at H
                                        have LMc53 := Aside0.mk c53
                                        clear c53
                                        obtain ⟨y157, hy157⟩ : ∃ y_ : List Int, y_ = (x21_5 ++ [x22_5]) := ⟨_, rfl⟩
                                        replace H : (hyphen_Points.l2 k5 a4 t145 x16_4 y157 (wrap64 (x22_5 + 1))) = some (r1, r2) := by first | (rw [hy157]; with_reducible exact H) | (have H2_ := (Option.bind_some _ _).symm.trans H; rw [hy157]; with_reducible exact H2_) | (have H2_ := (Option.bind_some _ _).symm.trans H; with_reducible exact H2_) | with_reducible exact H | (rw [hy157]; exact H) | exact H
                                        have Ny157 := Aside0.mk hy157
                                        clear hy157
                                        have H' := Aside0.mk H
                                        clear H
                                        obtain ⟨Ao54, co54, eo54⟩ := Kd.V_slice HO_16.out
                                        subst eo54
                                        have p156 : 0 ≤ (x22_5 : Int) := of_decide_eq_true (by first | (with_reducible assumption) | assumption)
                                        have q156 : x22_5 < (x16_4.length : Int) := of_decide_eq_true (by first | (with_reducible assumption) | assumption)
                                        obtain ⟨ad156, e156, hx156_0⟩ := Kd.at_int (Kd.V_reads' HO_16.out).2.2 x22_5 p156 q156
                                        cases e156
                                        replace p156 := eq_true p156
                                        replace q156 := eq_true q156
                                        go_wp2_with (first | ((with_reducible refine gate_builtin (b := .append) (xs := #[.tmp 107, .tmp 109]) rfl ?_); (try (refine gate_guard (by rfl) ?_; dsimp only)); at_builtin; refine Kd.R_append (Kd.int .i64) (w0 := w) w.heap.size rfl (.tmp 107) (.tmp 109) 22 3 (.int .i64 0) 8 rfl Tryd.underlying22 info3 rfl (by decide) (by omega) u21 x21_5 x22_5 [.int .i64 x22_5] (fun _ => True) (fun _ => False) rfl rfl ?aP (fun _ hk => hk.elim) ?aF ?aO ?aB ?aS ?aL ?_; (case aP => exact rfl); (case aB => exact (by repeat (first | (with_reducible first | exact HB.out | apply below_alloc | apply pw_below_drewN | apply below_drew1) | exact HB.out))); (case aF => exact (fun _ _ => trivial)); (case aO => exact (by (with_reducible repeat (first | apply Kd.R_alloc | apply Kd.R_drewN | apply Kd.R_drew)); exact HO_21.out)); (case aS => exact (below_size (by repeat (first | (with_reducible first | exact HB.out | apply below_alloc | apply pw_below_drewN | apply below_drew1) | exact HB.out)))); (case aL => have := LMc53.out; omega); intro v158 w55 ho hb hg hat; rw [← Ny157.out] at ho; have n0_ := Aside0.mk (Kd.V_afterv (ok := (fun _ => True)) (by (with_reducible repeat (first | apply Kd.V_alloc | apply Kd.V_drewN | apply Kd.V_drew)); exact Kd.V_mono HO_16.out (fun _ hk => ⟨trivial, hk⟩)) hg hat); have n1_ := Aside0.mk (hb); have n2_ := Aside0.mk (ho); clear HO_16; clear HB; clear HO_21; have HO_16 := n0_; have HB := n1_; have HO159 := n2_; clear n0_ n1_ n2_; clear ho hb hg hat))
                                        go_roundg k5
                                        case measure => have := HJ7.out; have := HJ12.out; have := HJ16.out; have := HK4.out; have := HK5.out; omega
                                        case rel => exact ⟨(y157), (wrap64 (x22_5 + 1)), (by first | rfl | (simp; done) | (simp [*]; done)), H', ⟨by have := HJ7.out; have := HJ12.out; have := HJ16.out; have := HK4.out; have := HK5.out; omega⟩, ⟨by (with_reducible repeat (first | apply Kd.V_alloc | apply Kd.V_drewN | apply Kd.V_drew)); exact Kd.V_mono HO_16.out (fun _ hk => hk.2)⟩, ⟨by (with_reducible repeat (first | apply Kd.R_alloc | apply Kd.R_drewN | apply Kd.R_drew)); exact HO159.out⟩, ⟨by repeat (first | (with_reducible first | exact HB.out | apply below_alloc | apply pw_below_drewN | apply below_drew1) | exact HB.out)⟩⟩
                                      · rw [if_neg c53] at H
                                        exact absurd H (by simp)
                                    · rw [if_neg c52] at H
                                      have c52b0 : ((Int.tmod (rd x16_4 x22_5) 2) == 1) = false := beq_eq_false_iff_ne.mpr c52
                                      have c52b1 : ((Int.tmod (rd x16_4 x22_5) 2) != 1) = true := bne_iff_ne.mpr c52
                                      have H' := Aside0.mk H
                                      clear H
                                      obtain ⟨Ao56, co56, eo56⟩ := Kd.V_slice HO_16.out
                                      subst eo56
                                      have p156 : 0 ≤ (x22_5 : Int) := of_decide_eq_true (by first | (with_reducible assumption) | assumption)
                                      have q156 : x22_5 < (x16_4.length : Int) := of_decide_eq_true (by first | (with_reducible assumption) | assumption)
                                      obtain ⟨ad156, e156, hx156_0⟩ := Kd.at_int (Kd.V_reads' HO_16.out).2.2 x22_5 p156 q156
                                      cases e156
                                      replace p156 := eq_true p156
                                      replace q156 := eq_true q156
                                      go_wp2
                                      go_roundg k5
                                      case measure => have := HJ7.out; have := HJ12.out; have := HJ16.out; have := HK4.out; have := HK5.out; omega
                                      case rel => exact ⟨(x21_5), (wrap64 (x22_5 + 1)), (by first | rfl | (simp; done) | (simp [*]; done)), H', ⟨by have := HJ7.out; have := HJ12.out; have := HJ16.out; have := HK4.out; have := HK5.out; omega⟩, ⟨by (with_reducible repeat (first | apply Kd.V_alloc | apply Kd.V_drewN | apply Kd.V_drew)); exact HO_16.out⟩, ⟨by (with_reducible repeat (first | apply Kd.R_alloc | apply Kd.R_drewN | apply Kd.R_drew)); exact HO_21.out⟩, ⟨by repeat (first | (with_reducible first | exact HB.out | apply below_alloc | apply pw_below_drewN | apply below_drew1) | exact HB.out)⟩⟩
                                  · rw [if_neg c51] at H
                                    exact absurd H (by simp)
                                · rw [if_neg c50] at H
                                  exact absurd H (by simp)
                              · rw [if_neg c49] at H
                                have c49b0 : decide (x22_5 ≤ (wrap64 ((t145.size : Int) - a4))) = false := decide_eq_false c49
                                clear c49
                                simp only [Option.some.injEq, Prod.mk.injEq] at H
                                obtain ⟨rfl, rfl⟩ := H
                                go_wp2
                                go_ret2
                                exact ⟨_, by first | rfl | (simp [errW_none, errW_some] <;> rfl) | (simp [*, errW_none, errW_some] <;> rfl), by (with_reducible repeat (first | apply Kd.R_alloc | apply Kd.R_drewN | apply Kd.R_drew)); exact HO_21.out, by repeat (first | (with_reducible first | exact HB.out | apply below_alloc | apply pw_below_drewN | apply below_drew1) | exact HB.out)⟩
            · rw [if_neg c15] at H
              have c15b0 : (x13_12 == 0) = false := beq_eq_false_iff_ne.mpr c15
              have c15b1 : (x13_12 != 0) = true := bne_iff_ne.mpr c15
              simp only [Option.some.injEq, Prod.mk.injEq] at H
              obtain ⟨rfl, rfl⟩ := H
              go_wp2
              go_ret2
              exact ⟨_, by first | rfl | (simp [errW_none, errW_some] <;> rfl) | (simp [*, errW_none, errW_some] <;> rfl), by first | exact Kd.R_nil _ _ _ _ _ | exact Kd.N_nil _ _ _ _ _ | exact Kd.V_nil _ _ _ _ _ | exact Kd.Q_nil _ _ _ _ _ | exact Kd.S_nil _ _ _ _ _, by repeat (first | (with_reducible first | exact HB.out | apply below_alloc | apply pw_below_drewN | apply below_drew1) | exact HB.out)⟩

/-! ### hyphen_Standard: function 16 -/
def hyphen_Standard.f  : Option (List ByteArray) := (strings_Fields.f (⟨#[49, 98, 97, 32, 49, 98, 101, 32, 49, 98, 105, 32, 49, 98, 111, 32, 49, 98, 117, 32, 49, 99, 97, 32, 49, 99, 101, 32, 49, 99, 105, 32, 49, 99, 111, 32, 49, 99, 117, 32, 49, 100, 97, 32, 49, 100, 101, 32, 49, 100, 105, 32, 49, 100, 111, 32, 49, 100, 117, 32, 49, 102, 97, 32, 49, 102, 101, 32, 49, 102, 105, 32, 49, 102, 111, 32, 49, 102, 117, 32, 49, 103, 97, 32, 49, 103, 101, 32, 49, 103, 105, 32, 49, 103, 111, 32, 49, 103, 117, 32, 49, 108, 97, 32, 49, 108, 101, 32, 49, 108, 105, 32, 49, 108, 111, 32, 49, 108, 117, 32, 49, 109, 97, 32, 49, 109, 101, 32, 49, 109, 105, 32, 49, 109, 111, 32, 49, 109, 117, 32, 49, 110, 97, 32, 49, 110, 101, 32, 49, 110, 105, 32, 49, 110, 111, 32, 49, 110, 117, 32, 49, 112, 97, 32, 49, 112, 101, 32, 49, 112, 105, 32, 49, 112, 111, 32, 49, 112, 117, 32, 49, 114, 97, 32, 49, 114, 101, 32, 49, 114, 105, 32, 49, 114, 111, 32, 49, 114, 117, 32, 49, 115, 97, 32, 49, 115, 101, 32, 49, 115, 105, 32, 49, 115, 111, 32, 49, 115, 117, 32, 49, 116, 97, 32, 49, 116, 101, 32, 49, 116, 105, 32, 49, 116, 111, 32, 49, 116, 117, 32, 49, 118, 97, 32, 49, 118, 101, 32, 49, 118, 105, 32, 49, 118, 111, 32, 110, 49, 100, 32, 110, 49, 116, 32, 114, 49, 116, 32, 108, 49, 116, 32, 115, 49, 116, 50, 32, 50, 101, 100, 46, 32, 50, 101, 115, 46, 32, 46, 117, 110, 49, 32, 46, 114, 101, 49, 32, 116, 50, 105, 111, 32, 52, 108, 101, 46, 32, 50, 103, 104, 116, 32, 49, 116, 105, 111, 110]⟩ : ByteArray)).bind fun t160 => (some t160)
set_option maxHeartbeats 8000000 in
set_option maxRecDepth 100000 in
theorem hyphen_Standard.calls  (r : List ByteArray) (w : World) (hT : Tab w) (h : hyphen_Standard.f  = some r) :
    Calls Tryd.prog 16 #[] w fun e w' => ∃ v0_ : Value, e = .returned (v0_) ∧ Kd.R Kd.string 9 w' w.heap.size (fun _ => True) v0_ r ∧ Below w.heap.size w w' := by
  have HB := Aside0.mk (Below.refl w.heap.size w)
  have H : ((strings_Fields.f (⟨#[49, 98, 97, 32, 49, 98, 101, 32, 49, 98, 105, 32, 49, 98, 111, 32, 49, 98, 117, 32, 49, 99, 97, 32, 49, 99, 101, 32, 49, 99, 105, 32, 49, 99, 111, 32, 49, 99, 117, 32, 49, 100, 97, 32, 49, 100, 101, 32, 49, 100, 105, 32, 49, 100, 111, 32, 49, 100, 117, 32, 49, 102, 97, 32, 49, 102, 101, 32, 49, 102, 105, 32, 49, 102, 111, 32, 49, 102, 117, 32, 49, 103, 97, 32, 49, 103, 101, 32, 49, 103, 105, 32, 49, 103, 111, 32, 49, 103, 117, 32, 49, 108, 97, 32, 49, 108, 101, 32, 49, 108, 105, 32, 49, 108, 111, 32, 49, 108, 117, 32, 49, 109, 97, 32, 49, 109, 101, 32, 49, 109, 105, 32, 49, 109, 111, 32, 49, 109, 117, 32, 49, 110, 97, 32, 49, 110, 101, 32, 49, 110, 105, 32, 49, 110, 111, 32, 49, 110, 117, 32, 49, 112, 97, 32, 49, 112, 101, 32, 49, 112, 105, 32, 49, 112, 111, 32, 49, 112, 117, 32, 49, 114, 97, 32, 49, 114, 101, 32, 49, 114, 105, 32, 49, 114, 111, 32, 49, 114, 117, 32, 49, 115, 97, 32, 49, 115, 101, 32, 49, 115, 105, 32, 49, 115, 111, 32, 49, 115, 117, 32, 49, 116, 97, 32, 49, 116, 101, 32, 49, 116, 105, 32, 49, 116, 111, 32, 49, 116, 117, 32, 49, 118, 97, 32, 49, 118, 101, 32, 49, 118, 105, 32, 49, 118, 111, 32, 110, 49, 100, 32, 110, 49, 116, 32, 114, 49, 116, 32, 108, 49, 116, 32, 115, 49, 116, 50, 32, 50, 101, 100, 46, 32, 50, 101, 115, 46, 32, 46, 117, 110, 49, 32, 46, 114, 101, 49, 32, 116, 50, 105, 111, 32, 52, 108, 101, 46, 32, 50, 103, 104, 116, 32, 49, 116, 105, 111, 110]⟩ : ByteArray)).bind fun t160 => (some t160)) = some r := h
  clear h
  replace H := Option.bind_eq_some_iff.mp H
  obtain ⟨t160, A10, H⟩ := H
  replace H : (some t160) = some r := H
  have A1 := Aside0.mk A10
  clear A10
  obtain rfl := Option.some.inj H
  go_enter Tryd.func16, Tryd.ntmps16
  go_wp2_with (first | ((with_reducible refine gate_callee (f := 36) rfl ?_); refine goesL_ (some 1) rfl rfl Tryd.func36 (by kernel_rfl) rfl #[.string (⟨#[49, 98, 97, 32, 49, 98, 101, 32, 49, 98, 105, 32, 49, 98, 111, 32, 49, 98, 117, 32, 49, 99, 97, 32, 49, 99, 101, 32, 49, 99, 105, 32, 49, 99, 111, 32, 49, 99, 117, 32, 49, 100, 97, 32, 49, 100, 101, 32, 49, 100, 105, 32, 49, 100, 111, 32, 49, 100, 117, 32, 49, 102, 97, 32, 49, 102, 101, 32, 49, 102, 105, 32, 49, 102, 111, 32, 49, 102, 117, 32, 49, 103, 97, 32, 49, 103, 101, 32, 49, 103, 105, 32, 49, 103, 111, 32, 49, 103, 117, 32, 49, 108, 97, 32, 49, 108, 101, 32, 49, 108, 105, 32, 49, 108, 111, 32, 49, 108, 117, 32, 49, 109, 97, 32, 49, 109, 101, 32, 49, 109, 105, 32, 49, 109, 111, 32, 49, 109, 117, 32, 49, 110, 97, 32, 49, 110, 101, 32, 49, 110, 105, 32, 49, 110, 111, 32, 49, 110, 117, 32, 49, 112, 97, 32, 49, 112, 101, 32, 49, 112, 105, 32, 49, 112, 111, 32, 49, 112, 117, 32, 49, 114, 97, 32, 49, 114, 101, 32, 49, 114, 105, 32, 49, 114, 111, 32, 49, 114, 117, 32, 49, 115, 97, 32, 49, 115, 101, 32, 49, 115, 105, 32, 49, 115, 111, 32, 49, 115, 117, 32, 49, 116, 97, 32, 49, 116, 101, 32, 49, 116, 105, 32, 49, 116, 111, 32, 49, 116, 117, 32, 49, 118, 97, 32, 49, 118, 101, 32, 49, 118, 105, 32, 49, 118, 111, 32, 110, 49, 100, 32, 110, 49, 116, 32, 114, 49, 116, 32, 108, 49, 116, 32, 115, 49, 116, 50, 32, 50, 101, 100, 46, 32, 50, 101, 115, 46, 32, 46, 117, 110, 49, 32, 46, 114, 101, 49, 32, 116, 50, 105, 111, 32, 52, 108, 101, 46, 32, 50, 103, 104, 116, 32, 49, 116, 105, 111, 110]⟩ : ByteArray)] rfl (by (try simp only [List.map_toArray, List.map_cons, List.map_nil]); first | done | rfl | (simp only [List.length_drop, List.length_take]; rfl)) ?_; (with_reducible refine (strings_Fields.calls (⟨#[49, 98, 97, 32, 49, 98, 101, 32, 49, 98, 105, 32, 49, 98, 111, 32, 49, 98, 117, 32, 49, 99, 97, 32, 49, 99, 101, 32, 49, 99, 105, 32, 49, 99, 111, 32, 49, 99, 117, 32, 49, 100, 97, 32, 49, 100, 101, 32, 49, 100, 105, 32, 49, 100, 111, 32, 49, 100, 117, 32, 49, 102, 97, 32, 49, 102, 101, 32, 49, 102, 105, 32, 49, 102, 111, 32, 49, 102, 117, 32, 49, 103, 97, 32, 49, 103, 101, 32, 49, 103, 105, 32, 49, 103, 111, 32, 49, 103, 117, 32, 49, 108, 97, 32, 49, 108, 101, 32, 49, 108, 105, 32, 49, 108, 111, 32, 49, 108, 117, 32, 49, 109, 97, 32, 49, 109, 101, 32, 49, 109, 105, 32, 49, 109, 111, 32, 49, 109, 117, 32, 49, 110, 97, 32, 49, 110, 101, 32, 49, 110, 105, 32, 49, 110, 111, 32, 49, 110, 117, 32, 49, 112, 97, 32, 49, 112, 101, 32, 49, 112, 105, 32, 49, 112, 111, 32, 49, 112, 117, 32, 49, 114, 97, 32, 49, 114, 101, 32, 49, 114, 105, 32, 49, 114, 111, 32, 49, 114, 117, 32, 49, 115, 97, 32, 49, 115, 101, 32, 49, 115, 105, 32, 49, 115, 111, 32, 49, 115, 117, 32, 49, 116, 97, 32, 49, 116, 101, 32, 49, 116, 105, 32, 49, 116, 111, 32, 49, 116, 117, 32, 49, 118, 97, 32, 49, 118, 101, 32, 49, 118, 105, 32, 49, 118, 111, 32, 110, 49, 100, 32, 110, 49, 116, 32, 114, 49, 116, 32, 108, 49, 116, 32, 115, 49, 116, 50, 32, 50, 101, 100, 46, 32, 50, 101, 115, 46, 32, 46, 117, 110, 49, 32, 46, 114, 101, 49, 32, 116, 50, 105, 111, 32, 52, 108, 101, 46, 32, 50, 103, 104, 116, 32, 49, 116, 105, 111, 110]⟩ : ByteArray) t160 _ (Tab.below hT (by repeat (first | (with_reducible first | exact HB.out | apply below_alloc | apply pw_below_drewN | apply below_drew1) | exact HB.out))) A1.out).mono ?_); rintro e w2 ⟨v161, rfl, ho0, hb⟩; refine ⟨_, rfl, ?_⟩; have n0_ := Aside0.mk (Kd.R_lower ho0 (below_size (by repeat (first | (with_reducible first | exact HB.out | apply below_alloc | apply pw_below_drewN | apply below_drew1) | exact HB.out)))); have n1_ := Aside0.mk (below_step (by repeat (first | (with_reducible first | exact HB.out | apply below_alloc | apply pw_below_drewN | apply below_drew1) | exact HB.out)) hb); clear HB; have HO162 := n0_; have HB := n1_; clear n0_ n1_; (try clear hb); (try clear hb2); (try clear hk); (try clear hi); (try clear ho0)))
  go_ret
  exact ⟨_, by first | rfl | (simp [errW_none, errW_some] <;> rfl) | (simp [*, errW_none, errW_some] <;> rfl), by (with_reducible repeat (first | apply Kd.R_alloc | apply Kd.R_drewN | apply Kd.R_drew)); exact HO162.out, by repeat (first | (with_reducible first | exact HB.out | apply below_alloc | apply pw_below_drewN | apply below_drew1) | exact HB.out)⟩

end Go.Proofs.YtegcelmjejhnfaaDoor.QHy
