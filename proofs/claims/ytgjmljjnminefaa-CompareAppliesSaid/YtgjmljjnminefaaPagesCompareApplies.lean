/- Pages and edits: what they cost, pages out of numbers, copies of pages, the fixed example. -/
import Derived.Test.YtgjmljjnminefaaSameCompareApplies
namespace Go.Proofs.Ytgjmljjnminefaa.PagesCompareApplies
open Go.RowKit Go.Proofs.Ytgjmljjnminefaa.QCompareApplies Go.Proofs.YtgjmljjnminefaaW.PrintWords Go.Proofs.YtgjmljjnminefaaW.PrintLast Go.Proofs.YtgjmljjnminefaaW.PrintMore Go.Proofs.YtgjmljjnminefaaN Go.Proofs.Ytgjmljjnminefaa.Evl Go.Proofs.Ytgjmljjnminefaa.SameCompareApplies
set_option linter.unusedVariables false
def at_ (l : List S24) (i : Nat) : S24 := l.getD i z24
theorem rd_at (l : List S24) (i : Nat) : rd_T24 l (i : Int) = at_ l i := by unfold rd_T24 at_; rw [Int.toNat_natCast]
theorem at_mem {l : List S24} {i : Nat} (h : i < l.length) : at_ l i ∈ l := by
  have := getD_mem l i z24 h
  rw [Int.toNat_natCast] at this
  exact this
def cost : List S54 → Int
  | [] => 0
  | e :: l => (if e.f0 = 0 then 0 else 1) + cost l
theorem cost_nn : ∀ l, 0 ≤ cost l
  | [] => by simp [cost]
  | e :: l => by have := cost_nn l; rw [cost]; split <;> omega
theorem cost_l (l : List S54) (hb : l.length < 1000000) : ∀ (m i : Nat) (n : Int), i + m = l.length → 0 ≤ n → n ≤ i →
    Evl (fun k => compare_Cost.l0 k n l (l.length : Int) (i : Int)) (n + cost (l.drop i))
  | 0, i, n, h, h0, h1 => by
    refine Evl.succ ?_
    simp only [compare_Cost.l0]
    refine Evl.neg (by omega) ?_
    rw [List.drop_eq_nil_of_le (by omega), cost, Int.add_zero]
    exact Evl.some _
  | m + 1, i, n, h, h0, h1 => by
    refine Evl.succ ?_
    simp only [compare_Cost.l0]
    refine Evl.pos (by omega) (Evl.pos (by omega) (Evl.pos (by omega) ?_))
    have e1 : wrap64 ((i : Int) + 1) = ((i + 1 : Nat) : Int) := wn (by omega)
    have e2 : wrap64 (n + 1) = n + 1 := w64 (by omega) (by omega)
    rw [e1, e2, drop_getD l i z54 (by omega), cost]
    clear e1 e2
    refine Evl.ite (fun hc => ?_) (fun hc => ?_)
    · have h2 := cost_l l hb m (i + 1) n (by omega) h0 (by omega)
      unfold rd_T54 at hc
      rw [if_pos hc, Int.zero_add]
      exact h2
    · have h2 := cost_l l hb m (i + 1) (n + 1) (by omega) (by omega) (by omega)
      unfold rd_T54 at hc
      rw [if_neg hc, ← Int.add_assoc]
      exact h2
theorem cost_ev (l : List S54) (hb : l.length < 1000000) : Evl (fun k => compare_Cost.f k l) (cost l) := by
  simp only [compare_Cost.f]
  have h := cost_l l hb l.length 0 0 (by omega) (by omega) (by omega)
  rw [List.drop_zero, Int.zero_add] at h
  exact h
/-- The pages of the one are those of the other. -/
def All2 : List S24 → List S24 → Prop
  | [], [] => True
  | a :: ar, b :: br => SM a b = true ∧ All2 ar br
  | _, _ => False
theorem all2_len : ∀ {a b : List S24}, All2 a b → a.length = b.length
  | [], [], _ => rfl
  | [], _ :: _, h => h.elim
  | _ :: _, [], h => h.elim
  | a :: ar, b :: br, h => by rw [List.length_cons, List.length_cons, all2_len h.2]
theorem all2_same : ∀ {a b : List S24}, All2 a b → sameL (a.map toR) (b.map toR) = true
  | [], [], _ => rfl
  | [], _ :: _, h => h.elim
  | _ :: _, [], h => h.elim
  | a :: ar, b :: br, h => by
    rw [List.map_cons, List.map_cons, sameL, all2_same h.2, Bool.and_true]
    exact h.1
theorem page_ev {p : S24} (h : OkC p.f1) : Evl (fun k => compare_ownPage.f k p.f0 p.f1) (p.f0, p.f1) := by
  simp only [compare_ownPage.f]
  exact Evl.bind (own_ev _ h) (Evl.some _)
theorem rd54 (l : List S54) (s : Nat) (e : S54) (r : List S54) (h : l.drop s = e :: r) : rd_T54 l (s : Int) = e ∧ s < l.length ∧ l.drop (s + 1) = r := by
  have hl : s < l.length := by
    by_cases hl : s < l.length
    · exact hl
    · rw [List.drop_eq_nil_of_le (by omega)] at h; cases h
  have h2 := drop_getD l s z54 hl
  rw [h] at h2
  injection h2 with h3 h4
  exact ⟨h3.symm, hl, h4.symm⟩
theorem drop_at {l : List S24} {i : Nat} (h : i < l.length) : l.drop i = at_ l i :: l.drop (i + 1) := by
  have := drop_getD l i z24 h
  rw [Int.toNat_natCast] at this
  exact this
theorem num1 (l : List Int) {G : List S24 → Prop} {i : Nat} (hi : i < l.length) (out : List S24) (hb : out.length ≤ 60) (num : Int)
    (h : ∀ p : S24, OkC p.f1 → EvG (fun k => frisketlaw36_numbered.l0 k l (out ++ [p]) ((i : Int) + 1)) G) (hw : (i : Int) ≤ 100) :
    ∀ (m x : Nat) (marks : List S69), x + m = 3 → marks.length ≤ x → (∀ z ∈ marks, z.f8 = []) → EvG (fun k => frisketlaw36_numbered.l1 k l out (i : Int) (x : Int) num marks) G := by
  intro m
  induction m with
  | zero =>
    intro x marks hx hm hz
    refine EvG.succ ?_
    simp only [frisketlaw36_numbered.l1]
    refine EvG.pos (by omega) (EvG.pos (by omega) (EvG.neg (by omega) (EvG.pos (by omega) ?_)))
    rw [w64 (by omega) (by omega)]
    exact h ⟨num, marks⟩ ⟨by show marks.length < _; omega, fun z hzz => by rw [hz z hzz]; simp⟩
  | succ m ih =>
    intro x marks hx hm hz
    refine EvG.succ ?_
    simp only [frisketlaw36_numbered.l1]
    refine EvG.pos (by omega) (EvG.pos (by omega) (EvG.ite (fun hc => EvG.pos (by omega) ?_) (fun hc => EvG.pos (by omega) ?_)))
    · have e1 : wrap64 ((x : Int) + 1) = ((x + 1 : Nat) : Int) := wn (by omega)
      rw [e1]
      clear e1 hc
      refine ih (x + 1) _ (by omega) (by simp; omega) ?_
      intro z hzz
      rcases List.mem_append.mp hzz with hzz | hzz
      · exact hz z hzz
      · rw [List.mem_singleton.mp hzz]
    · rw [w64 (by omega) (by omega)]
      exact h ⟨num, marks⟩ ⟨by show marks.length < _; omega, fun z hzz => by rw [hz z hzz]; simp⟩
theorem num0 (l : List Int) (hl : l.length ≤ 60) : ∀ (m i : Nat) (out : List S24), i + m = l.length → out.length = i → (∀ p ∈ out, OkC p.f1) →
    EvG (fun k => frisketlaw36_numbered.l0 k l out (i : Int)) (fun R => R.length = l.length ∧ ∀ p ∈ R, OkC p.f1)
  | 0, i, out, h, ho, hz => by
    refine EvG.succ ?_
    simp only [frisketlaw36_numbered.l0]
    exact EvG.neg (by omega) (EvG.mk (Evl.some _) ⟨by omega, hz⟩)
  | m + 1, i, out, h, ho, hz => by
    refine EvG.succ ?_
    simp only [frisketlaw36_numbered.l0]
    refine EvG.pos (by omega) (EvG.pos (by omega) ?_)
    refine num1 l (by omega) out (by omega) _ (fun p hp => ?_) (by omega) 3 0 [] rfl (by simp) (by simp)
    have h2 := num0 l hl m (i + 1) (out ++ [p]) (by omega) (by simp; omega) (fun q hq => by
      rcases List.mem_append.mp hq with hq | hq
      · exact hz q hq
      · rw [List.mem_singleton.mp hq]; exact hp)
    exact h2
theorem num_ev (l : List Int) (hl : l.length ≤ 60) : EvG (fun k => frisketlaw36_numbered.f k l) (fun R => R.length = l.length ∧ ∀ p ∈ R, OkC p.f1) := by
  simp only [frisketlaw36_numbered.f]
  exact num0 l hl l.length 0 [] (by omega) rfl (by simp)
theorem sane_ev : Evl (fun k => frisketlaw36_sane.f k) true := by
  have h0 : frisketlaw36_sane.f 200 = some true := by decide +kernel
  have h : ∀ n, frisketlaw36_sane.f (200 + n) = some true := by
    intro n
    induction n with
    | zero => exact h0
    | succ n ih => exact frisketlaw36_sane.mono (200 + n) _ ih
  refine ⟨200, fun k hk => ?_⟩
  have := h (k - 200)
  rw [show 200 + (k - 200) = k by omega] at this
  exact this
end Go.Proofs.Ytgjmljjnminefaa.PagesCompareApplies
