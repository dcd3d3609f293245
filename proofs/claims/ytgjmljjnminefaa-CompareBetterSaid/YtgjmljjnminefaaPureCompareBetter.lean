/- No edits that go through both lists cost less than the least. No condition. -/
import Derived.Test.YtgjmljjnminefaaLeastCompareBetter
namespace Go.Proofs.Ytgjmljjnminefaa.Pure
open Go.RowKit Go.Proofs.Ytgjmljjnminefaa.QCompareBetter Go.Proofs.YtgjmljjnminefaaW.PrintWords Go.Proofs.YtgjmljjnminefaaW.PrintLast Go.Proofs.YtgjmljjnminefaaW.PrintMore Go.Proofs.YtgjmljjnminefaaN Go.Proofs.Ytgjmljjnminefaa.Evl Go.Proofs.Ytgjmljjnminefaa.SameCompareBetter Go.Proofs.Ytgjmljjnminefaa.LeastCompareBetter
set_option linter.unusedVariables false
namespace Better
theorem cost_l (l : List S54) (hb : l.length < 1000000) : ∀ (m i : Nat) (n : Int), i + m = l.length → 0 ≤ n → n ≤ i →
    Evl (fun k => compare_Cost.l0 k n l (l.length : Int) (i : Int)) (n + cost (l.drop i))
  | 0, i, n, h, h0, h1 => by
    refine Evl.succ ?_
    simp only [compare_Cost.l0]
    refine Evl.neg (by omega) ?_
    rw [List.drop_eq_nil_of_le (by omega), cost, Int.add_zero]
    exact Evl.some _
  | m + 1, i, n, h, h0, h1 => by
    refine Evl.succ ?_
    simp only [compare_Cost.l0]
    refine Evl.pos (by omega) (Evl.pos (by omega) (Evl.pos (by omega) ?_))
    have e1 : wrap64 ((i : Int) + 1) = ((i + 1 : Nat) : Int) := wn (by omega)
    have e2 : wrap64 (n + 1) = n + 1 := w64 (by omega) (by omega)
    rw [e1, e2, drop_getD l i z54 (by omega), cost]
    clear e1 e2
    refine Evl.ite (fun hc => ?_) (fun hc => ?_)
    · have h2 := cost_l l hb m (i + 1) n (by omega) h0 (by omega)
      unfold rd_T54 at hc
      rw [if_pos hc, Int.zero_add]
      exact h2
    · have h2 := cost_l l hb m (i + 1) (n + 1) (by omega) (by omega) (by omega)
      unfold rd_T54 at hc
      rw [if_neg hc, ← Int.add_assoc]
      exact h2
theorem cost_ev (l : List S54) (hb : l.length < 1000000) : Evl (fun k => compare_Cost.f k l) (cost l) := by
  simp only [compare_Cost.f]
  have h := cost_l l hb l.length 0 0 (by omega) (by omega) (by omega)
  rw [List.drop_zero, Int.zero_add] at h
  exact h
/-- The pages of the one are those of the other. -/
def All2 : List S24 → List S24 → Prop
  | [], [] => True
  | a :: ar, b :: br => SM a b = true ∧ All2 ar br
  | _, _ => False
theorem all2_len : ∀ {a b : List S24}, All2 a b → a.length = b.length
  | [], [], _ => rfl
  | [], _ :: _, h => h.elim
  | _ :: _, [], h => h.elim
  | a :: ar, b :: br, h => by rw [List.length_cons, List.length_cons, all2_len h.2]
theorem all2_same : ∀ {a b : List S24}, All2 a b → sameL (a.map toR) (b.map toR) = true
  | [], [], _ => rfl
  | [], _ :: _, h => h.elim
  | _ :: _, [], h => h.elim
  | a :: ar, b :: br, h => by
    rw [List.map_cons, List.map_cons, sameL, all2_same h.2, Bool.and_true]
    exact h.1
section
variable {xs ys : List S24}
theorem page_ev {p : S24} (h : OkC p.f1) : Evl (fun k => compare_ownPage.f k p.f0 p.f1) (p.f0, p.f1) := by
  simp only [compare_ownPage.f]
  exact Evl.bind (own_ev _ h) (Evl.some _)
theorem rd54 (l : List S54) (s : Nat) (e : S54) (r : List S54) (h : l.drop s = e :: r) : rd_T54 l (s : Int) = e ∧ s < l.length ∧ l.drop (s + 1) = r := by
  have hl : s < l.length := by
    by_cases hl : s < l.length
    · exact hl
    · rw [List.drop_eq_nil_of_le (by omega)] at h; cases h
  have h2 := drop_getD l s z54 hl
  rw [h] at h2
  injection h2 with h3 h4
  exact ⟨h3.symm, hl, h4.symm⟩
theorem drop_at {l : List S24} {i : Nat} (h : i < l.length) : l.drop i = at_ l i :: l.drop (i + 1) := by
  have := drop_getD l i z24 h
  rw [Int.toNat_natCast] at this
  exact this
set_option maxHeartbeats 1000000 in
theorem apply_l (O : Ok xs ys) (l : List S54) (hb : l.length < 1000000) {i j : Nat} {r : List S54} (p : Path xs ys i j r) : ∀ (s : Nat) (out : List S24), l.drop s = r → out.length ≤ s →
    EvG (fun k => compare_Apply.l0 k xs ys out (i : Int) (j : Int) l (l.length : Int) (s : Int)) (fun R => ∃ q, R = (out ++ q, 0) ∧ All2 q (ys.drop j) ∧ ∀ z ∈ q, OkC z.f1) := by
  have lx := O.lx
  have ly := O.ly
  induction p with
  | done =>
    intro s out hs ho
    refine EvG.succ ?_
    simp only [compare_Apply.l0]
    have : l.length ≤ s := by
      by_cases h : l.length ≤ s
      · exact h
      · have h2 := drop_getD l s z54 (by omega)
        rw [hs] at h2; cases h2
    refine EvG.neg (by omega) (EvG.pos trivial ?_)
    refine EvG.succ ?_
    simp only [compare_Apply.j1, mx_eq]
    refine EvG.neg (by simp) (EvG.neg (by omega) (EvG.mk (Evl.some _) ⟨[], by simp, ?_, by simp⟩))
    rw [List.drop_eq_nil_of_le (Nat.le_refl _)]
    trivial
  | @keep i j r hi hj h0 hs1 h ih =>
    intro s out hs ho
    obtain ⟨er, hl, hd⟩ := rd54 l s _ _ hs
    refine EvG.succ ?_
    simp only [compare_Apply.l0]
    refine EvG.pos (by omega) (EvG.pos (by omega) (EvG.pos (by omega) ?_))
    rw [er]
    have fit : Evl (fun k => compare_fits.f k (0 : Int) (i : Int) (j : Int) xs ys (i : Int) (j : Int)) true := by
      simp only [compare_fits.f, if_true]
      refine Evl.pos (by omega) (Evl.succ ?_)
      rw [decide_eq_true (by omega)]
      simp only [compare_fits.j0, if_true, rd_at]
      refine Evl.pos (by omega) (Evl.pos (by omega) (Evl.pos (by omega) (Evl.pos (by omega) ?_)))
      have h9 := same_ev (at_ xs i) (at_ ys j) (O.mx _ (at_mem hi)).okM
      rw [hs1] at h9
      exact Evl.bind h9 (Evl.some _)
    refine EvG.bind fit (EvG.pos rfl (EvG.pos rfl (EvG.pos (by omega) (EvG.pos (by omega) ?_))))
    simp only [rd_at]
    refine EvG.bind (page_ev (O.mx _ (at_mem hi))) (EvG.pos (by omega) ?_)
    have e1 : wrap64 ((i : Int) + 1) = ((i + 1 : Nat) : Int) := wn (by omega)
    have e2 : wrap64 ((j : Int) + 1) = ((j + 1 : Nat) : Int) := wn (by omega)
    have e3 : wrap64 ((s : Int) + 1) = ((s + 1 : Nat) : Int) := wn (by omega)
    rw [e1, e2, e3]
    clear e1 e2 e3
    obtain ⟨v, hv, q, rfl, hq, hok⟩ := ih (s + 1) (out ++ [at_ xs i]) hd (by simp; omega)
    refine ⟨_, hv, at_ xs i :: q, by simp, ?_, ?_⟩
    · rw [drop_at hj]; exact ⟨hs1, hq⟩
    · intro z hz
      rcases List.mem_cons.mp hz with rfl | hz
      · exact O.mx _ (at_mem hi)
      · exact hok z hz
  | @change i j r hi hj h0 hs1 h ih =>
    intro s out hs ho
    obtain ⟨er, hl, hd⟩ := rd54 l s _ _ hs
    refine EvG.succ ?_
    simp only [compare_Apply.l0]
    refine EvG.pos (by omega) (EvG.pos (by omega) (EvG.pos (by omega) ?_))
    rw [er]
    have fit : Evl (fun k => compare_fits.f k (3 : Int) (i : Int) (j : Int) xs ys (i : Int) (j : Int)) true := by
      simp only [compare_fits.f, if_true]
      refine Evl.pos (by omega) (Evl.succ ?_)
      rw [decide_eq_true (by omega)]
      simp only [compare_fits.j0, if_true, rd_at]
      refine Evl.neg (by decide) (Evl.pos (by omega) (Evl.pos (by omega) (Evl.pos (by omega) (Evl.pos (by omega) (Evl.pos h0 ?_)))))
      have h9 := same_ev (at_ xs i) (at_ ys j) (O.mx _ (at_mem hi)).okM
      rw [hs1] at h9
      exact Evl.bind h9 (Evl.some _)
    refine EvG.bind fit (EvG.pos rfl (EvG.neg (show ¬ (3 : Int) = 0 by decide) (EvG.pos rfl (EvG.pos (by omega) (EvG.pos (by omega) ?_)))))
    simp only [rd_at]
    refine EvG.bind (page_ev (O.my _ (at_mem hj))) (EvG.pos (by omega) ?_)
    have e1 : wrap64 ((i : Int) + 1) = ((i + 1 : Nat) : Int) := wn (by omega)
    have e2 : wrap64 ((j : Int) + 1) = ((j + 1 : Nat) : Int) := wn (by omega)
    have e3 : wrap64 ((s : Int) + 1) = ((s + 1 : Nat) : Int) := wn (by omega)
    rw [e1, e2, e3]
    clear e1 e2 e3
    obtain ⟨v, hv, q, rfl, hq, hok⟩ := ih (s + 1) (out ++ [at_ ys j]) hd (by simp; omega)
    refine ⟨_, hv, at_ ys j :: q, by simp, ?_, ?_⟩
    · rw [drop_at hj]; exact ⟨SM_refl _, hq⟩
    · intro z hz
      rcases List.mem_cons.mp hz with rfl | hz
      · exact O.my _ (at_mem hj)
      · exact hok z hz
  | @drop i j r hi hj h ih =>
    intro s out hs ho
    obtain ⟨er, hl, hd⟩ := rd54 l s _ _ hs
    refine EvG.succ ?_
    simp only [compare_Apply.l0]
    refine EvG.pos (by omega) (EvG.pos (by omega) (EvG.pos (by omega) ?_))
    rw [er]
    have fj : ∀ b, Evl (fun k => compare_fits.j0 k xs ys (i : Int) (j : Int) b (1 : Int) (i : Int) (0 : Int)) true := by
      intro b
      refine Evl.succ ?_
      simp only [compare_fits.j0, if_true]
      refine Evl.neg (by decide) (Evl.neg (by decide) ?_)
      rw [decide_eq_true (by omega)]
      exact Evl.some _
    have fit : Evl (fun k => compare_fits.f k (1 : Int) (i : Int) (0 : Int) xs ys (i : Int) (j : Int)) true := by
      simp only [compare_fits.f, if_true]
      exact Evl.ite (fun _ => Evl.ite (fun _ => fj _) (fun _ => fj _)) (fun _ => fj _)
    refine EvG.bind fit (EvG.pos rfl (EvG.neg (show ¬ (1 : Int) = 0 by decide) (EvG.neg (show ¬ (1 : Int) = 3 by decide) (EvG.pos rfl ?_))))
    have e1 : wrap64 ((i : Int) + 1) = ((i + 1 : Nat) : Int) := wn (by omega)
    have e3 : wrap64 ((s : Int) + 1) = ((s + 1 : Nat) : Int) := wn (by omega)
    rw [e1, e3]
    clear e1 e3
    exact ih (s + 1) out hd (by omega)
  | @put i j r hi hj h ih =>
    intro s out hs ho
    obtain ⟨er, hl, hd⟩ := rd54 l s _ _ hs
    refine EvG.succ ?_
    simp only [compare_Apply.l0]
    refine EvG.pos (by omega) (EvG.pos (by omega) (EvG.pos (by omega) ?_))
    rw [er]
    have fj : ∀ b, Evl (fun k => compare_fits.j0 k xs ys (i : Int) (j : Int) b (2 : Int) (0 : Int) (j : Int)) true := by
      intro b
      refine Evl.succ ?_
      simp only [compare_fits.j0, if_true]
      refine Evl.neg (by decide) (Evl.neg (by decide) (Evl.neg (by decide) ?_))
      rw [decide_eq_true (by omega)]
      exact Evl.some _
    have fit : Evl (fun k => compare_fits.f k (2 : Int) (0 : Int) (j : Int) xs ys (i : Int) (j : Int)) true := by
      simp only [compare_fits.f, if_true]
      exact Evl.ite (fun _ => Evl.ite (fun _ => fj _) (fun _ => fj _)) (fun _ => fj _)
    refine EvG.bind fit (EvG.pos rfl (EvG.neg (show ¬ (2 : Int) = 0 by decide) (EvG.neg (show ¬ (2 : Int) = 3 by decide) (EvG.neg (show ¬ (2 : Int) = 1 by decide) (EvG.pos (by omega) (EvG.pos (by omega) ?_))))))
    simp only [rd_at]
    refine EvG.bind (page_ev (O.my _ (at_mem hj))) (EvG.pos (by omega) ?_)
    have e2 : wrap64 ((j : Int) + 1) = ((j + 1 : Nat) : Int) := wn (by omega)
    have e3 : wrap64 ((s : Int) + 1) = ((s + 1 : Nat) : Int) := wn (by omega)
    rw [e2, e3]
    clear e2 e3
    obtain ⟨v, hv, q, rfl, hq, hok⟩ := ih (s + 1) (out ++ [at_ ys j]) hd (by simp; omega)
    refine ⟨_, hv, at_ ys j :: q, by simp, ?_, ?_⟩
    · rw [drop_at hj]; exact ⟨SM_refl _, hq⟩
    · intro z hz
      rcases List.mem_cons.mp hz with rfl | hz
      · exact O.my _ (at_mem hj)
      · exact hok z hz
end
/-! ### pages out of numbers -/
theorem num1 (l : List Int) {G : List S24 → Prop} {i : Nat} (hi : i < l.length) (out : List S24) (hb : out.length ≤ 60) (num : Int)
    (h : ∀ p : S24, OkC p.f1 → EvG (fun k => frisketlaw36_numbered.l0 k l (out ++ [p]) ((i : Int) + 1)) G) (hw : (i : Int) ≤ 100) :
    ∀ (m x : Nat) (marks : List S69), x + m = 3 → marks.length ≤ x → (∀ z ∈ marks, z.f8 = []) → EvG (fun k => frisketlaw36_numbered.l1 k l out (i : Int) (x : Int) num marks) G := by
  intro m
  induction m with
  | zero =>
    intro x marks hx hm hz
    refine EvG.succ ?_
    simp only [frisketlaw36_numbered.l1]
    refine EvG.pos (by omega) (EvG.pos (by omega) (EvG.neg (by omega) (EvG.pos (by omega) ?_)))
    rw [w64 (by omega) (by omega)]
    exact h ⟨num, marks⟩ ⟨by show marks.length < _; omega, fun z hzz => by rw [hz z hzz]; simp⟩
  | succ m ih =>
    intro x marks hx hm hz
    refine EvG.succ ?_
    simp only [frisketlaw36_numbered.l1]
    refine EvG.pos (by omega) (EvG.pos (by omega) (EvG.ite (fun hc => EvG.pos (by omega) ?_) (fun hc => EvG.pos (by omega) ?_)))
    · have e1 : wrap64 ((x : Int) + 1) = ((x + 1 : Nat) : Int) := wn (by omega)
      rw [e1]
      clear e1 hc
      refine ih (x + 1) _ (by omega) (by simp; omega) ?_
      intro z hzz
      rcases List.mem_append.mp hzz with hzz | hzz
      · exact hz z hzz
      · rw [List.mem_singleton.mp hzz]
    · rw [w64 (by omega) (by omega)]
      exact h ⟨num, marks⟩ ⟨by show marks.length < _; omega, fun z hzz => by rw [hz z hzz]; simp⟩
theorem num0 (l : List Int) (hl : l.length ≤ 60) : ∀ (m i : Nat) (out : List S24), i + m = l.length → out.length = i → (∀ p ∈ out, OkC p.f1) →
    EvG (fun k => frisketlaw36_numbered.l0 k l out (i : Int)) (fun R => R.length = l.length ∧ ∀ p ∈ R, OkC p.f1)
  | 0, i, out, h, ho, hz => by
    refine EvG.succ ?_
    simp only [frisketlaw36_numbered.l0]
    exact EvG.neg (by omega) (EvG.mk (Evl.some _) ⟨by omega, hz⟩)
  | m + 1, i, out, h, ho, hz => by
    refine EvG.succ ?_
    simp only [frisketlaw36_numbered.l0]
    refine EvG.pos (by omega) (EvG.pos (by omega) ?_)
    refine num1 l (by omega) out (by omega) _ (fun p hp => ?_) (by omega) 3 0 [] rfl (by simp) (by simp)
    have h2 := num0 l hl m (i + 1) (out ++ [p]) (by omega) (by simp; omega) (fun q hq => by
      rcases List.mem_append.mp hq with hq | hq
      · exact hz q hq
      · rw [List.mem_singleton.mp hq]; exact hp)
    exact h2
theorem num_ev (l : List Int) (hl : l.length ≤ 60) : EvG (fun k => frisketlaw36_numbered.f k l) (fun R => R.length = l.length ∧ ∀ p ∈ R, OkC p.f1) := by
  simp only [frisketlaw36_numbered.f]
  exact num0 l hl l.length 0 [] (by omega) rfl (by simp)
theorem sane_ev : Evl (fun k => frisketlaw36_sane.f k) true := by
  have h0 : frisketlaw36_sane.f 200 = some true := by decide +kernel
  have h : ∀ n, frisketlaw36_sane.f (200 + n) = some true := by
    intro n
    induction n with
    | zero => exact h0
    | succ n ih => exact frisketlaw36_sane.mono (200 + n) _ ih
  refine ⟨200, fun k hk => ?_⟩
  have := h (k - 200)
  rw [show 200 + (k - 200) = k by omega] at this
  exact this
/-! ### the law -/
section
variable {xs ys : List S24}
theorem end_ev (O : Ok xs ys) (hx : xs.length ≤ 60) (hy : ys.length ≤ 60) (way : List Int) (l : List S54) (p : Path xs ys 0 0 l) (i j n : Int) :
    Evl (fun k => frisketlaw36_CompareBetter.j2 k way xs ys l i j n false) true := by
  have hl := path_len p
  refine Evl.succ ?_
  simp only [frisketlaw36_CompareBetter.j2]
  refine Evl.neg (by simp) ?_
  obtain ⟨_, ha, q, rfl, hq, hok⟩ := apply_l O l (by omega) p 0 [] rfl (by simp)
  have ha2 : Evl (fun k => compare_Apply.f k xs l ys) ([] ++ q, 0) := by
    simp only [compare_Apply.f]
    exact ha
  obtain ⟨_, hb, l2, rfl, p2, hc⟩ := least_ev O
  have hl2 := path_len p2
  have hle : cost l2 ≤ cost l := by rw [hc]; exact path_le p
  have hq2 := all2_len hq
  rw [List.drop_zero] at hq hq2
  rw [List.nil_append] at ha2
  refine Evl.bind ha2 (Evl.bind hb (Evl.pos rfl (Evl.pos rfl ?_)))
  refine Evl.bind (as_ev q (by omega)) (Evl.bind (as_ev ys (by omega)) ?_)
  have hs := spages_ev (q.map toR) (ys.map toR) (by rw [List.length_map]; unfold big; omega) (fun z hz => by
    obtain ⟨w, hw, rfl⟩ := List.mem_map.mp hz
    exact (hok w hw).okM)
  rw [all2_same hq] at hs
  refine Evl.bind hs (Evl.pos rfl (Evl.bind (cost_ev l2 (by omega)) (Evl.bind (cost_ev l (by omega)) (Evl.pos hle ?_))))
  exact Evl.bind sane_ev (Evl.some _)
set_option maxHeartbeats 1000000 in
theorem loop_ev (O : Ok xs ys) (hx : xs.length ≤ 60) (hy : ys.length ≤ 60) (way : List Int) (hw : way.length ≤ 150) (m : Nat) : ∀ (i j n : Nat) (l : List S54), i ≤ xs.length → j ≤ ys.length → (xs.length - i) + (ys.length - j) ≤ m → n ≤ 1000 - m → l.length ≤ i + j → m ≤ 200 →
    (∀ r, Path xs ys i j r → Path xs ys 0 0 (l ++ r)) → Evl (fun k => frisketlaw36_CompareBetter.l0 k way xs ys l (i : Int) (j : Int) (n : Int)) true := by
  induction m with
  | zero =>
    intro i j n l hi hj hm hn hl hm2 hp
    refine Evl.succ ?_
    simp only [frisketlaw36_CompareBetter.l0]
    refine Evl.neg (by omega) ?_
    rw [decide_eq_false (by omega)]
    have e1 : i = xs.length := by omega
    have e2 : j = ys.length := by omega
    subst e1; subst e2
    have h2 := hp [] Path.done
    rw [List.append_nil] at h2
    exact end_ev O hx hy way l h2 _ _ _
  | succ m ih =>
    intro i j n l hi hj hm hn hl hm2 hp
    by_cases hend : i = xs.length ∧ j = ys.length
    · exact ih i j n l hi hj (by omega) (by omega) hl (by omega) hp
    have HE := Aside0.mk hend
    clear hend
    have step : ∀ (e : S54) (i' j' : Nat), (∀ r, Path xs ys i' j' r → Path xs ys i j (e :: r)) → i' ≤ xs.length → j' ≤ ys.length → (xs.length - i') + (ys.length - j') ≤ m → l.length + 1 ≤ i' + j' →
        Evl (fun k => frisketlaw36_CompareBetter.l0 k way xs ys (l ++ [e]) (i' : Int) (j' : Int) (wrap64 ((n : Int) + 1))) true := by
      intro e i' j' h1 h2 h3 h4 h5
      rw [wn (by omega)]
      refine ih i' j' (n + 1) (l ++ [e]) h2 h3 h4 (by omega) (by simp; omega) (by omega) (fun r hr => ?_)
      rw [List.append_assoc]
      exact hp _ (h1 r hr)
    have wi1 : wrap64 ((i : Int) + 1) = ((i + 1 : Nat) : Int) := wn (by omega)
    have wj1 : wrap64 ((j : Int) + 1) = ((j + 1 : Nat) : Int) := wn (by omega)
    have WI := Aside0.mk wi1
    have WJ := Aside0.mk wj1
    clear wi1 wj1
    have put_ : ∀ _ : j < ys.length, Evl (fun k => frisketlaw36_CompareBetter.l0 k way xs ys (l ++ [(⟨2, 0, (j : Int)⟩ : S54)]) (i : Int) (wrap64 ((j : Int) + 1)) (wrap64 ((n : Int) + 1))) true := fun h1 => by
      rw [WJ.out]
      exact step ⟨2, 0, j⟩ i (j + 1) (fun r p => Path.put hi h1 p) (by omega) (by omega) (by omega) (by omega)
    have drop_ : ∀ _ : i < xs.length, Evl (fun k => frisketlaw36_CompareBetter.l0 k way xs ys (l ++ [(⟨1, (i : Int), 0⟩ : S54)]) (wrap64 ((i : Int) + 1)) (j : Int) (wrap64 ((n : Int) + 1))) true := fun h1 => by
      rw [WI.out]
      exact step ⟨1, i, 0⟩ (i + 1) j (fun r p => Path.drop h1 hj p) (by omega) (by omega) (by omega) (by omega)
    have j5 : ∀ (w : Int) (b : Bool), (b = true → i < xs.length ∧ j < ys.length ∧ (at_ xs i).f0 = (at_ ys j).f0) → Evl (fun k => frisketlaw36_CompareBetter.j5 k way xs ys l (i : Int) (j : Int) (n : Int) w b) true := by
      intro w b hb
      refine Evl.succ ?_
      simp only [frisketlaw36_CompareBetter.j5, rd_at]
      refine Evl.ite (fun h1 => ?_) (fun h1 => ?_)
      · obtain ⟨h2, h3, h4⟩ := hb h1
        clear hb
        refine Evl.pos (by omega) (Evl.pos (by omega) (Evl.pos (by omega) (Evl.pos (by omega) ?_)))
        refine Evl.bind (same_ev (at_ xs i) (at_ ys j) (O.mx _ (at_mem h2)).okM) ?_
        rw [WI.out, WJ.out]
        refine Evl.ite (fun h5 => Evl.pos (by omega) ?_) (fun h5 => Evl.pos (by omega) ?_)
        · exact step ⟨0, i, j⟩ (i + 1) (j + 1) (fun r p => Path.keep h2 h3 h4 h5 p) (by omega) (by omega) (by omega) (by omega)
        · exact step ⟨3, i, j⟩ (i + 1) (j + 1) (fun r p => Path.change h2 h3 h4 (Bool.eq_false_iff.mpr h5) p) (by omega) (by omega) (by omega) (by omega)
      · clear hb
        refine Evl.ite (fun h2 => ?_) (fun h2 => ?_)
        · refine Evl.ite (fun h3 => Evl.pos (by omega) (drop_ (by omega))) (fun h3 => ?_)
          exact Evl.ite (fun h4 => Evl.pos (by omega) (drop_ (by omega))) (fun h4 => Evl.pos (by omega) (put_ (by omega)))
        · exact Evl.pos (by omega) (put_ (by have := HE.out; omega))
    have j3 : ∀ (w : Int), Evl (fun k => frisketlaw36_CompareBetter.j3 k way xs ys l (i : Int) (j : Int) (n : Int) w) true := by
      intro w
      have j4 : ∀ (b : Bool), (b = true → i < xs.length ∧ j < ys.length ∧ (at_ xs i).f0 = (at_ ys j).f0) → Evl (fun k => frisketlaw36_CompareBetter.j4 k way xs ys l (i : Int) (j : Int) (n : Int) w b) true := by
        intro b hb
        refine Evl.succ ?_
        simp only [frisketlaw36_CompareBetter.j4]
        exact Evl.ite (fun h1 => j5 w _ (fun _ => hb h1)) (fun h1 => j5 w false (fun h => by cases h))
      refine Evl.succ ?_
      simp only [frisketlaw36_CompareBetter.j3, rd_at]
      refine Evl.ite (fun h1 => Evl.ite (fun h2 => ?_) (fun h2 => j4 false (fun h => by cases h))) (fun h1 => j4 false (fun h => by cases h))
      exact Evl.pos (by omega) (Evl.pos (by omega) (j4 _ (fun h => ⟨by omega, by omega, beq_iff_eq.mp h⟩)))
    have j2 : Evl (fun k => frisketlaw36_CompareBetter.j2 k way xs ys l (i : Int) (j : Int) (n : Int) true) true := by
      refine Evl.succ ?_
      simp only [frisketlaw36_CompareBetter.j2]
      refine Evl.pos trivial (Evl.ite (fun h1 => Evl.pos (by omega) (j3 _)) (fun h1 => j3 _))
    refine Evl.succ ?_
    simp only [frisketlaw36_CompareBetter.l0]
    refine Evl.ite (fun h1 => j2) (fun h1 => ?_)
    rw [decide_eq_true (by have := HE.out; omega)]
    exact j2
end
end Better
open Better
theorem CompareBetter : frisketlaw36_CompareBetter.Pure := by
  intro l0 l1 l2 _ _ _ _ _ _ _ _ _
  refine Evl.out (v := true) ?_
  have sane_ : Evl (fun k => frisketlaw36_CompareBetter.j0 k l0 l1 l2 true) true := by
    refine Evl.succ ?_
    simp only [frisketlaw36_CompareBetter.j0, if_true]
    exact Evl.bind sane_ev (Evl.some _)
  simp only [frisketlaw36_CompareBetter.f]
  refine Evl.ite (fun _ => sane_) (fun h0 => Evl.ite (fun _ => sane_) (fun h1 => ?_))
  by_cases h2 : (l2.length : Int) > 150
  · rw [decide_eq_true h2]; exact sane_
  · rw [decide_eq_false h2]
    refine Evl.succ ?_
    simp only [frisketlaw36_CompareBetter.j0]
    refine Evl.neg (by simp) ?_
    obtain ⟨xs, ex, lx, ox⟩ := num_ev l0 (by omega)
    obtain ⟨ys, ey, ly, oy⟩ := num_ev l1 (by omega)
    refine Evl.bind ex (Evl.bind ey ?_)
    exact loop_ev ⟨by omega, by omega, ox, oy⟩ (by omega) (by omega) l2 (by omega) (xs.length + ys.length) 0 0 0 [] (by omega) (by omega) (by omega) (by omega) (by simp) (by omega) (fun r hr => hr)
end Go.Proofs.Ytgjmljjnminefaa.Pure
