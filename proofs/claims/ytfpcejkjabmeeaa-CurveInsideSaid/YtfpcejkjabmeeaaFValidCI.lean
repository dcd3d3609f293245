/- What curve.Valid answers, of any letter and numbers: the walk, its two function values among it. -/
import Derived.Test.YtfpcejkjabmeeaaPredIntsCI
namespace Go.Proofs.Ytfpcejkjabmeeaa.QCI
open Go.RowKit Go.Proofs.YtfpcejkjabmeeaaW.PrintWords Go.Proofs.YtfpcejkjabmeeaaW.PrintLast Go.Proofs.YtfpcejkjabmeeaaW.PrintMore Go.Proofs.Ytfpcejkjabmeeaa.FnVal Go.Proofs.Ytfpcejkjabmeeaa.PredInts
set_option linter.unusedVariables false
set_option linter.unusedSimpArgs false
def bigP (x : Int) : Bool := decide (x < -1000000) || decide (1000000 < x)
def negP (x : Int) : Bool := decide (x < 0)
theorem tells23 (w : World) : Tells Try.prog 23 #[] bigP w := by
  intro W x _
  show Calls Try.prog 23 #[.int .i64 x] W _
  unfold bigP
  cases h1 : decide (x < -1000000)
  · cases h2 : decide (1000000 < x)
    · go_enter Try.func23, Try.ntmps23
      go_wp2
      go_ret
      exact ⟨rfl, Below.refl _ _⟩
    · go_enter Try.func23, Try.ntmps23
      go_wp2
      go_ret
      exact ⟨rfl, Below.refl _ _⟩
  · go_enter Try.func23, Try.ntmps23
    go_wp2
    go_ret
    exact ⟨rfl, Below.refl _ _⟩
theorem tells25 (w : World) : Tells Try.prog 25 #[] negP w := by
  intro W x _
  show Calls Try.prog 25 #[.int .i64 x] W _
  unfold negP
  go_enter Try.func25, Try.ntmps25
  go_wp2
  go_ret
  exact ⟨rfl, Below.refl _ _⟩
theorem low_calls (gb : Nat) (A1 : Option Addr) (c1 : Nat) (l1 : List Int) (w : World) (hg : w.heap[gb]? = some (.cells #[.slice A1 l1.length c1] 27 (0, 0))) (hr1 : Kd.C (Kd.int .i64) w A1 l1.length l1) (hc1 : l1.length ≤ c1) (hl : l1.length < 4611686018427387904) :
    Calls Try.prog 24 #[.pointer (some ⟨gb, 0, none⟩)] w fun e w' => e = .returned (.bool (l1.any negP)) ∧ Below w.heap.size w w' := by
  have HQ := Aside0.mk (contains_calls 25 #[] _ negP Try.func25 (by kernel_rfl) rfl A1 c1 l1 w hr1 hc1 hl (tells25 w))
  have hx : w.cell? ⟨gb, 0, none⟩ = some (.slice A1 l1.length c1) := (blk_cell hg 0).trans rfl
  clear hr1 hc1 hl hg
  obtain ⟨R, hR⟩ : ∃ R, l1.any negP = R := ⟨_, rfl⟩
  rw [hR] at HQ ⊢
  clear hR
  go_enter Try.func24, Try.ntmps24
  go_wp2_with (fail)
  refine HQ.out.mono ?_
  rintro e w5 ⟨rfl, hb5⟩
  have B5 := Aside0.mk hb5
  clear hb5
  go_wp2
  go_ret
  exact ⟨rfl, B5.out⟩
def curve_Valid.f (a0 : Int) (l1 : List Int) : Option Bool := if l1.length < 4611686018427387904 then some (if l1.any bigP = true then false else if a0 = 108 then ((l1.length : Int) == 2) else if a0 = 99 then (((l1.length : Int) == 1) && !(l1.any negP)) else if a0 = 101 then (((l1.length : Int) == 2) && !(l1.any negP)) else if a0 = 97 then ((l1.length : Int) == 4) else (((a0 == 126) && decide (2 ≤ (l1.length : Int))) && ((l1.length : Int) % 2 == 0)) && decide ((l1.length : Int) ≤ 40)) else none
set_option maxHeartbeats 8000000 in
set_option maxRecDepth 100000 in
theorem curve_Valid.calls (a0 : Int) (A1 : Option Addr) (c1 : Nat) (l1 : List Int) (r : Bool) (w : World) (hr1 : Kd.C (Kd.int .i64) w A1 l1.length l1) (hc1 : l1.length ≤ c1) (h : curve_Valid.f a0 l1 = some r) :
    Calls Try.prog 15 #[.int .u8 a0, .slice A1 l1.length c1] w fun e w' => e = .returned (.bool r) ∧ Below w.heap.size w w' := by
  unfold curve_Valid.f at h
  obtain ⟨hl, h2⟩ := some_of_ite h
  obtain rfl := Option.some.inj h2
  clear h h2
  have HC := Aside0.mk (fun (W : World) (hb : Below w.heap.size w W) => contains_calls 23 #[] _ bigP Try.func23 (by kernel_rfl) rfl A1 c1 l1 W (Kd.C_below hr1 hb) hc1 hl (tells23 W))
  have HW := Aside0.mk (fun (W : World) (gb : Nat) (hg : W.heap[gb]? = some (.cells #[.slice A1 l1.length c1] 27 (0, 0))) (hb : Below w.heap.size w W) => low_calls gb A1 c1 l1 W hg (Kd.C_below hr1 hb) hc1 hl)
  clear hr1 hc1 hl
  obtain ⟨n, hn⟩ : ∃ n : Int, (l1.length : Int) = n := ⟨_, rfl⟩
  obtain ⟨R, hR⟩ : ∃ R, l1.any bigP = R := ⟨_, rfl⟩
  obtain ⟨L, hL⟩ : ∃ R, l1.any negP = R := ⟨_, rfl⟩
  rw [hn, hR, hL]
  rw [hR] at HC
  rw [hL] at HW
  clear hR hL
  obtain ⟨Z, hZ⟩ : ∃ Z : Bool, (if R = true then false else if a0 = 108 then (n == 2) else if a0 = 99 then ((n == 1) && !L) else if a0 = 101 then ((n == 2) && !L) else if a0 = 97 then (n == 4) else (((a0 == 126) && decide (2 ≤ n)) && (n % 2 == 0)) && decide (n ≤ 40)) = Z := ⟨_, rfl⟩
  rw [hZ]
  have H := Aside0.mk hZ
  clear hZ
  go_enter Try.func15, Try.ntmps15
  go_wp2_with (first | ((with_reducible refine gate_dst (N := 3) rfl ?_); refine box_event ?hg (N := 3) ?hd (cs := #[.slice A1 l1.length c1]) (t := 27) ?hr ?_; (case hd => rfl); (case hg => rfl); (case hr => first | (go_simp; done) | (go_simp; rfl)); intro gb hgb w3 hbox hb; have B3 := Aside0.mk hb; have G3 := Aside0.mk hbox; have hx3 : w3.cell? ⟨gb, 0, none⟩ = some (.slice A1 l1.length c1) := (blk_cell hbox 0).trans rfl; clear hbox hb hgb))
  refine (HC.out w3 B3.out).mono ?_
  rintro e w5 ⟨rfl, hb5⟩
  have B5 := Aside0.mk (B3.out.trans (hb5.mono B3.out.size))
  have G5 := Aside0.mk (blk_below G3.out hb5)
  have hx5 : w5.cell? ⟨gb, 0, none⟩ = some (.slice A1 l1.length c1) := (blk_cell G5.out 0).trans rfl
  clear hb5 hx3
  by_cases hRt : R = true
  · subst hRt
    replace H := Aside0.mk ((if_pos rfl).symm.trans H.out)
    go_wp2
    go_ret
    exact ⟨by rw [← H.out]; rfl, B5.out⟩
  obtain rfl : R = false := by simpa using hRt
  replace H := Aside0.mk ((if_neg (by simp)).symm.trans H.out)
  by_cases k108 : a0 = 108
  · have q108 : (a0 == 108) = true := beq_iff_eq.mpr k108
    replace H := Aside0.mk ((if_pos k108).symm.trans H.out)
    clear k108
    go_wp2
    go_ret
    exact ⟨by rw [← H.out]; simp [*], B5.out⟩
  have q108 : (a0 == 108) = false := beq_eq_false_iff_ne.mpr k108
  replace H := Aside0.mk ((if_neg k108).symm.trans H.out)
  clear k108
  by_cases k99 : a0 = 99
  · have q99 : (a0 == 99) = true := beq_iff_eq.mpr k99
    replace H := Aside0.mk ((if_pos k99).symm.trans H.out)
    clear k99
    cases z : (n == 1)
    · go_wp2
      go_ret
      exact ⟨by rw [← H.out]; simp [*], B5.out⟩
    · go_wp2_with (fail)
      refine (HW.out w5 gb G5.out B5.out).mono ?_
      rintro e w6 ⟨rfl, hb6⟩
      have B6 := Aside0.mk (B5.out.trans (hb6.mono B5.out.size))
      clear hb6
      go_wp2
      go_ret
      exact ⟨by rw [← H.out]; simp [*], B6.out⟩
  have q99 : (a0 == 99) = false := beq_eq_false_iff_ne.mpr k99
  replace H := Aside0.mk ((if_neg k99).symm.trans H.out)
  clear k99
  by_cases k101 : a0 = 101
  · have q101 : (a0 == 101) = true := beq_iff_eq.mpr k101
    replace H := Aside0.mk ((if_pos k101).symm.trans H.out)
    clear k101
    cases z : (n == 2)
    · go_wp2
      go_ret
      exact ⟨by rw [← H.out]; simp [*], B5.out⟩
    · go_wp2_with (fail)
      refine (HW.out w5 gb G5.out B5.out).mono ?_
      rintro e w6 ⟨rfl, hb6⟩
      have B6 := Aside0.mk (B5.out.trans (hb6.mono B5.out.size))
      clear hb6
      go_wp2
      go_ret
      exact ⟨by rw [← H.out]; simp [*], B6.out⟩
  have q101 : (a0 == 101) = false := beq_eq_false_iff_ne.mpr k101
  replace H := Aside0.mk ((if_neg k101).symm.trans H.out)
  clear k101
  by_cases k97 : a0 = 97
  · have q97 : (a0 == 97) = true := beq_iff_eq.mpr k97
    replace H := Aside0.mk ((if_pos k97).symm.trans H.out)
    clear k97
    go_wp2
    go_ret
    exact ⟨by rw [← H.out]; simp [*], B5.out⟩
  have q97 : (a0 == 97) = false := beq_eq_false_iff_ne.mpr k97
  replace H := Aside0.mk ((if_neg k97).symm.trans H.out)
  clear k97
  cases y1 : (a0 == 126)
  · go_wp2
    go_ret
    exact ⟨by rw [← H.out]; simp [*], B5.out⟩
  cases y2 : decide (2 ≤ n)
  · go_wp2
    go_ret
    exact ⟨by rw [← H.out]; simp [*], B5.out⟩
  by_cases y3 : n % 2 = 0
  · go_wp2
    go_ret
    exact ⟨by rw [← H.out]; simp [*], B5.out⟩
  go_wp2
  go_ret
  exact ⟨by rw [← H.out]; simp [*], B5.out⟩
end Go.Proofs.Ytfpcejkjabmeeaa.QCI
