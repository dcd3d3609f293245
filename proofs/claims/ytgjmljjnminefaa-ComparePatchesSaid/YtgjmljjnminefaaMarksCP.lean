/- Marks and pages are compared, and copied: what the code computes, and that the document's comparison is the same one. -/
import Derived.Test.YtgjmljjnminefaaQCPx15
import Derived.Test.YtgjmljjnminefaaEvl
namespace Go.Proofs.Ytgjmljjnminefaa.SameCP
open Go.RowKit Go.Proofs.Ytgjmljjnminefaa.QCP Go.Proofs.YtgjmljjnminefaaW.PrintWords Go.Proofs.YtgjmljjnminefaaW.PrintLast Go.Proofs.YtgjmljjnminefaaW.PrintMore Go.Proofs.YtgjmljjnminefaaN Go.Proofs.Ytgjmljjnminefaa.Evl
set_option linter.unusedVariables false
abbrev big : Nat := 4611686018427387904
theorem eqInts_l (l0 l1 : List Int) (hl : l0.length = l1.length) (hb : l0.length < big) : ∀ (m i : Nat), i + m = l0.length →
    Evl (fun k => slices_Equal_int_int.l0 k l0 l1 (l0.length : Int) (i : Int)) (decide (l0.drop i = l1.drop i))
  | 0, i, h => by
    refine Evl.succ ?_
    simp only [slices_Equal_int_int.l0]
    refine Evl.neg (by omega) ?_
    rw [List.drop_eq_nil_of_le (by omega), List.drop_eq_nil_of_le (by omega)]
    exact Evl.some _
  | m + 1, i, h => by
    refine Evl.succ ?_
    simp only [slices_Equal_int_int.l0]
    refine Evl.pos (by omega) (Evl.pos (by omega) (Evl.pos (by omega) (Evl.pos (by omega) ?_)))
    rw [wn (by unfold big at hb; omega), drop_getD l0 i 0 (by omega), drop_getD l1 i 0 (by omega)]
    refine Evl.ite (fun hc => ?_) (fun hc => ?_)
    · have h2 := eqInts_l l0 l1 hl hb m (i + 1) (by omega)
      unfold rd at hc
      rw [hc]
      simpa using h2
    · unfold rd at hc
      rw [decide_eq_false (by intro h3; injection h3 with h4 _; exact hc h4)]
      exact Evl.some _
theorem eqInts (l0 l1 : List Int) (hb : l0.length < big) : Evl (fun k => slices_Equal_int_int.f k l0 l1) (decide (l0 = l1)) := by
  simp only [slices_Equal_int_int.f]
  refine Evl.ite (fun hc => ?_) (fun hc => ?_)
  · exact eqInts_l l0 l1 (by omega) hb l0.length 0 (by omega)
  · rw [decide_eq_false (fun h => hc (by rw [h]))]
    exact Evl.some _
/-- Two marks are the same. -/
def eqM (a b : S69) : Bool := (a.f0 == b.f0 && (a.f1 == b.f1 && (a.f2 == b.f2 && (a.f3 == b.f3 && a.f4 == b.f4)))) && (decide (a.f6.toList = b.f6.toList) && (decide (a.f5.toList = b.f5.toList) && (decide (a.f7.toList = b.f7.toList) && decide (a.f8 = b.f8))))
theorem eqM_refl (a : S69) : eqM a a = true := by simp [eqM]
theorem equal_ev (a b : S69) (hb : a.f8.length < big) : Evl (fun k => compare_equal.f k a.f0 a.f1 a.f2 a.f3 a.f4 a.f5 a.f6 a.f7 a.f8 b.f0 b.f1 b.f2 b.f3 b.f4 b.f5 b.f6 b.f7 b.f8) (eqM a b) := by
  simp only [compare_equal.f, compare_equal_1.f, Option.bind_some]
  unfold eqM
  refine Evl.ite (fun hc => ?_) (fun hc => ?_)
  · rw [hc]
    refine Evl.ite (fun h6 => ?_) (fun h6 => ?_)
    · refine Evl.ite (fun h5 => ?_) (fun h5 => ?_)
      · refine Evl.ite (fun h7 => ?_) (fun h7 => ?_)
        · simp only [h6, h5, h7, decide_true, Bool.true_and]
          exact Evl.bind (eqInts a.f8 b.f8 hb) (Evl.some _)
        · simp only [h6, h5, h7, decide_true, decide_false, Bool.true_and, Bool.false_and]
          exact Evl.some _
      · simp only [h6, h5, decide_true, decide_false, Bool.true_and, Bool.false_and]
        exact Evl.some _
    · simp only [h6, decide_false, Bool.true_and, Bool.false_and]
      exact Evl.some _
  · rw [Bool.eq_false_iff.mpr hc]
    exact Evl.some _
def eqMs : List S69 → List S69 → Bool
  | [], [] => true
  | a :: ar, b :: br => eqM a b && eqMs ar br
  | _, _ => false
theorem eqMs_refl : ∀ l : List S69, eqMs l l = true
  | [] => rfl
  | a :: l => by rw [eqMs, eqM_refl, eqMs_refl l]; rfl
theorem eqMs_len : ∀ (a b : List S69), a.length ≠ b.length → eqMs a b = false
  | [], [], h => absurd rfl h
  | [], _ :: _, _ => rfl
  | _ :: _, [], _ => rfl
  | a :: ar, b :: br, h => by rw [eqMs, eqMs_len ar br (by simpa using h), Bool.and_false]
def OkM (l : List S69) : Prop := l.length < big ∧ ∀ m ∈ l, m.f8.length < big
theorem getD_mem {α : Type} (l : List α) (i : Nat) (z : α) (h : i < l.length) : l.getD ((i : Int).toNat) z ∈ l := by
  rw [Int.toNat_natCast, List.getD_eq_getElem?_getD, List.getElem?_eq_getElem h]
  exact List.getElem_mem h
theorem eqs_l (l0 l1 : List S69) (hl : l0.length = l1.length) (h0 : OkM l0) : ∀ (m i : Nat), i + m = l0.length →
    Evl (fun k => api_Mark_32.l0 k l1 l0 (l0.length : Int) (i : Int)) (eqMs (l0.drop i) (l1.drop i))
  | 0, i, h => by
    refine Evl.succ ?_
    simp only [api_Mark_32.l0]
    refine Evl.neg (by omega) ?_
    rw [List.drop_eq_nil_of_le (by omega), List.drop_eq_nil_of_le (by omega)]
    exact Evl.some _
  | m + 1, i, h => by
    refine Evl.succ ?_
    simp only [api_Mark_32.l0]
    refine Evl.pos (by omega) (Evl.pos (by omega) (Evl.pos (by omega) (Evl.pos (by omega) ?_)))
    rw [wn (by have := h0.1; unfold big at this; omega), drop_getD l0 i z69 (by omega), drop_getD l1 i z69 (by omega), eqMs]
    refine Evl.bind (equal_ev (rd_T69 l0 i) (rd_T69 l1 i) (h0.2 _ (getD_mem l0 i z69 (by omega)))) ?_
    refine Evl.ite (fun hc => ?_) (fun hc => ?_)
    · have h2 := eqs_l l0 l1 hl h0 m (i + 1) (by omega)
      unfold rd_T69 at hc
      rw [hc, Bool.true_and]
      exact h2
    · unfold rd_T69 at hc
      rw [Bool.eq_false_iff.mpr hc, Bool.false_and]
      exact Evl.some _
theorem eqs_ev (l0 l1 : List S69) (h0 : OkM l0) : Evl (fun k => api_Mark_32.f k l0 l1 ()) (eqMs l0 l1) := by
  simp only [api_Mark_32.f]
  refine Evl.ite (fun hc => ?_) (fun hc => ?_)
  · exact eqs_l l0 l1 (by omega) h0 l0.length 0 (by omega)
  · rw [eqMs_len l0 l1 (by omega)]
    exact Evl.some _
/-- Two pages are the same. -/
def SM (x y : S24) : Bool := decide (x.f0 = y.f0) && eqMs x.f1 y.f1
theorem SM_refl (x : S24) : SM x x = true := by simp [SM, eqMs_refl]
theorem same_ev (x y : S24) (h : OkM x.f1) : Evl (fun k => compare_Same.f k x.f0 x.f1 y.f0 y.f1) (SM x y) := by
  simp only [compare_Same.f]
  unfold SM
  refine Evl.ite (fun hc => ?_) (fun hc => ?_)
  · rw [decide_eq_true hc, Bool.true_and]
    exact Evl.bind (eqs_ev x.f1 y.f1 h) (Evl.some _)
  · rw [decide_eq_false hc, Bool.false_and]
    exact Evl.some _
/-! ### the document's -/
theorem smark_l (a b : S69) (hl : a.f8.length = b.f8.length) (hb : a.f8.length < big) : ∀ (m i : Nat), i + m = a.f8.length →
    Evl (fun k => frisketref36_SameMark.l0 k (i : Int) a.f0 a.f1 a.f2 a.f3 a.f4 a.f5 a.f6 a.f7 a.f8 b.f0 b.f1 b.f2 b.f3 b.f4 b.f5 b.f6 b.f7 b.f8) (decide (a.f8.drop i = b.f8.drop i))
  | 0, i, h => by
    refine Evl.succ ?_
    simp only [frisketref36_SameMark.l0]
    refine Evl.neg (by omega) ?_
    rw [List.drop_eq_nil_of_le (by omega), List.drop_eq_nil_of_le (by omega)]
    exact Evl.some _
  | m + 1, i, h => by
    refine Evl.succ ?_
    simp only [frisketref36_SameMark.l0]
    refine Evl.pos (by omega) (Evl.pos (by omega) (Evl.pos (by omega) ?_))
    rw [wn (by unfold big at hb; omega), drop_getD a.f8 i 0 (by omega), drop_getD b.f8 i 0 (by omega)]
    refine Evl.ite (fun hc => ?_) (fun hc => ?_)
    · have h2 := smark_l a b hl hb m (i + 1) (by omega)
      unfold rd at hc
      rw [hc]
      simpa using h2
    · unfold rd at hc
      rw [decide_eq_false (by intro h3; injection h3 with h4 _; exact hc h4)]
      exact Evl.some _
theorem smark_ev (a b : S69) (hb : a.f8.length < big) : Evl (fun k => frisketref36_SameMark.f k a.f0 a.f1 a.f2 a.f3 a.f4 a.f5 a.f6 a.f7 a.f8 b.f0 b.f1 b.f2 b.f3 b.f4 b.f5 b.f6 b.f7 b.f8) (eqM a b) := by
  have out : ∀ v, v = false → Evl (fun k => frisketref36_SameMark.j0 k true a.f0 a.f1 a.f2 a.f3 a.f4 a.f5 a.f6 a.f7 a.f8 b.f0 b.f1 b.f2 b.f3 b.f4 b.f5 b.f6 b.f7 b.f8) v := by
    rintro v rfl
    refine Evl.succ ?_
    simp only [frisketref36_SameMark.j0, if_true]
    exact Evl.some _
  simp only [frisketref36_SameMark.f]
  refine Evl.ite (fun h0 => ?_) (fun h0 => out _ (by simp [eqM, h0]))
  refine Evl.ite (fun h1 => ?_) (fun h1 => out _ (by simp [eqM, h1]))
  refine Evl.ite (fun h2 => ?_) (fun h2 => out _ (by simp [eqM, h2]))
  refine Evl.ite (fun h3 => ?_) (fun h3 => out _ (by simp [eqM, h3]))
  refine Evl.ite (fun h4 => ?_) (fun h4 => out _ (by simp [eqM, h4]))
  refine Evl.ite (fun h5 => ?_) (fun h5 => out _ (by simp [eqM, h5]))
  refine Evl.ite (fun h6 => ?_) (fun h6 => out _ (by simp [eqM, h6]))
  refine Evl.ite (fun h7 => ?_) (fun h7 => out _ (by simp [eqM, h7]))
  by_cases hl : a.f8.length = b.f8.length
  · refine Evl.succ ?_
    have e : ((a.f8.length : Int) != (b.f8.length : Int)) = false := by simp [hl]
    simp only [frisketref36_SameMark.j0, e, Bool.false_eq_true, if_false]
    have h8 := smark_l a b hl hb a.f8.length 0 (by omega)
    have e2 : eqM a b = decide (a.f8 = b.f8) := by simp [eqM, h0, h1, h2, h3, h4, h5, h6, h7]
    rw [e2]
    exact h8
  · have e : ((a.f8.length : Int) != (b.f8.length : Int)) = true := by simp; omega
    rw [e]
    refine out _ ?_
    have : ¬ a.f8 = b.f8 := fun h => hl (by rw [h])
    simp [eqM, this]
theorem smarks_l (l0 l1 : List S69) (hl : l0.length = l1.length) (h0 : OkM l0) : ∀ (m i : Nat), i + m = l0.length →
    Evl (fun k => frisketref36_SameMarks.l0 k l0 l1 (i : Int)) (eqMs (l0.drop i) (l1.drop i))
  | 0, i, h => by
    refine Evl.succ ?_
    simp only [frisketref36_SameMarks.l0]
    refine Evl.neg (by omega) ?_
    rw [List.drop_eq_nil_of_le (by omega), List.drop_eq_nil_of_le (by omega)]
    exact Evl.some _
  | m + 1, i, h => by
    refine Evl.succ ?_
    simp only [frisketref36_SameMarks.l0]
    refine Evl.pos (by omega) (Evl.pos (by omega) (Evl.pos (by omega) ?_))
    rw [wn (by have := h0.1; unfold big at this; omega), drop_getD l0 i z69 (by omega), drop_getD l1 i z69 (by omega), eqMs]
    refine Evl.bind (smark_ev (rd_T69 l0 i) (rd_T69 l1 i) (h0.2 _ (getD_mem l0 i z69 (by omega)))) ?_
    refine Evl.ite (fun hc => ?_) (fun hc => ?_)
    · have h2 := smarks_l l0 l1 hl h0 m (i + 1) (by omega)
      unfold rd_T69 at hc
      rw [hc, Bool.true_and]
      exact h2
    · unfold rd_T69 at hc
      rw [Bool.eq_false_iff.mpr hc, Bool.false_and]
      exact Evl.some _
theorem smarks_ev (l0 l1 : List S69) (h0 : OkM l0) : Evl (fun k => frisketref36_SameMarks.f k l0 l1) (eqMs l0 l1) := by
  simp only [frisketref36_SameMarks.f]
  refine Evl.ite (fun hc => ?_) (fun hc => ?_)
  · exact smarks_l l0 l1 (by omega) h0 l0.length 0 (by omega)
  · rw [eqMs_len l0 l1 (by omega)]
    exact Evl.some _
/-! ### pages told over to the document's type -/
/-! ### copies -/
def OkC (l : List S69) : Prop := l.length < 1000000000000 ∧ ∀ m ∈ l, m.f8.length < 17592186044416
theorem OkC.okM {l : List S69} (h : OkC l) : OkM l := ⟨by have := h.1; unfold big; omega, fun m hm => by have := h.2 m hm; unfold big; omega⟩
theorem set_same (l : List S69) (i : Nat) (h : i < l.length) : l.set i (l.getD i z69) = l := by
  rw [List.getD_eq_getElem?_getD, List.getElem?_eq_getElem h]
  exact List.set_getElem_self h
theorem own_l (l : List S69) (h0 : OkC l) : ∀ (m i : Nat), i + m = l.length → Evl (fun k => compare_own.l0 k l (l.length : Int) (i : Int)) l
  | 0, i, h => by
    refine Evl.succ ?_
    simp only [compare_own.l0]
    exact Evl.neg (by omega) (Evl.some _)
  | m + 1, i, h => by
    refine Evl.succ ?_
    simp only [compare_own.l0]
    refine Evl.pos (by omega) (Evl.pos (by omega) (Evl.pos (by omega) ?_))
    have h8 := h0.2 _ (getD_mem l i z69 (by omega))
    have hc : slices_Clone_int_int.f ((rd_T69 l i).f8) = some ((rd_T69 l i).f8) := by
      unfold rd_T69
      simp only [slices_Clone_int_int.f, Option.bind_some, List.length_nil, List.nil_append]
      rw [if_pos (by omega)]
    simp only [hc, Option.bind_some]
    rw [wn (by have := h0.1; omega)]
    have e : l.set ((i : Int).toNat) (⟨(rd_T69 l i).f0, (rd_T69 l i).f1, (rd_T69 l i).f2, (rd_T69 l i).f3, (rd_T69 l i).f4, (rd_T69 l i).f5, (rd_T69 l i).f6, (rd_T69 l i).f7, (rd_T69 l i).f8⟩ : S69) = l := by
      unfold rd_T69
      rw [Int.toNat_natCast]
      exact set_same l i (by omega)
    rw [e]
    exact own_l l h0 m (i + 1) (by omega)
theorem own_ev (l : List S69) (h0 : OkC l) : Evl (fun k => compare_own.f k l) l := by
  simp only [compare_own.f]
  refine Evl.bind (f := fun _ => api_Mark_39.f l) (v := l) ?_ (own_l l h0 l.length 0 (by omega))
  have : api_Mark_39.f l = some l := by
    simp only [api_Mark_39.f, Option.bind_some, List.length_nil, List.nil_append]
    rw [if_pos (by have := h0.1; omega)]
  rw [this]
  exact Evl.some _
end Go.Proofs.Ytgjmljjnminefaa.SameCP
