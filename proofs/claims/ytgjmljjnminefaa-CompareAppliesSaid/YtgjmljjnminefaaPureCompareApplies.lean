/- Any edits are applied as the document says, or refused. No condition. -/
import Derived.Test.YtgjmljjnminefaaPagesCompareApplies
import Derived.Test.YtgjmljjnminefaaRdCompareApplies
namespace Go.Proofs.Ytgjmljjnminefaa.PureCompareApplies
open Go.RowKit Go.Proofs.YtgjmljjnminefaaR Go.Proofs.Ytgjmljjnminefaa.QCompareApplies Go.Proofs.YtgjmljjnminefaaW.PrintWords Go.Proofs.YtgjmljjnminefaaW.PrintLast Go.Proofs.YtgjmljjnminefaaW.PrintMore Go.Proofs.YtgjmljjnminefaaN Go.Proofs.Ytgjmljjnminefaa.Evl Go.Proofs.Ytgjmljjnminefaa.SameCompareApplies Go.Proofs.Ytgjmljjnminefaa.PagesCompareApplies
set_option linter.unusedVariables false
def toE (e : S54) : S84 := ⟨e.f0, e.f1, e.f2⟩
theorem edits_l (l : List S54) (hb : l.length < 1000000) : ∀ (m i : Nat) (out : List S84), i + m = l.length → out.length = i →
    Evl (fun k => frisketlaw36_edits.l0 k l out (i : Int)) (out ++ (l.drop i).map toE)
  | 0, i, out, h, ho => by
    refine Evl.succ ?_
    simp only [frisketlaw36_edits.l0]
    refine Evl.neg (by omega) ?_
    rw [List.drop_eq_nil_of_le (by omega), List.map_nil, List.append_nil]
    exact Evl.some _
  | m + 1, i, out, h, ho => by
    refine Evl.succ ?_
    simp only [frisketlaw36_edits.l0]
    refine Evl.pos (by omega) (Evl.pos (by omega) (Evl.pos (by omega) ?_))
    rw [wn (by omega), drop_getD l i z54 (by omega), List.map_cons]
    have h2 := edits_l l hb m (i + 1) (out ++ [⟨(rd_T54 l i).f0, (rd_T54 l i).f1, (rd_T54 l i).f2⟩]) (by omega) (by simp [ho])
    rw [List.append_assoc] at h2
    exact h2
theorem edits_ev (l : List S54) (hb : l.length < 1000000) : Evl (fun k => frisketlaw36_edits.f k l) (l.map toE) := by
  simp only [frisketlaw36_edits.f]
  exact edits_l l hb l.length 0 [] (by omega) rfl
theorem rd84 (l : List S54) (i : Nat) (h : i < l.length) : rd_T84 (l.map toE) (i : Int) = toE (rd_T54 l i) := by
  unfold rd_T84 rd_T54
  rw [Int.toNat_natCast, List.getD_eq_getElem?_getD, List.getD_eq_getElem?_getD, List.getElem?_map, List.getElem?_eq_getElem h]
  rfl
theorem rd35 (l : List S24) (i : Nat) (h : i < l.length) : rd_T35 (l.map toR) (i : Int) = toR (at_ l i) := by
  unfold rd_T35 at_
  rw [Int.toNat_natCast, List.getD_eq_getElem?_getD, List.getD_eq_getElem?_getD, List.getElem?_map, List.getElem?_eq_getElem h]
  rfl
theorem rcost_l (l : List S54) (hb : l.length < 1000000) : ∀ (m i : Nat) (n : Int), i + m = l.length → 0 ≤ n → n ≤ i →
    Evl (fun k => frisketref36_Cost.l0 k (l.map toE) n (i : Int)) (n + cost (l.drop i))
  | 0, i, n, h, h0, h1 => by
    refine Evl.succ ?_
    simp only [frisketref36_Cost.l0, List.length_map]
    refine Evl.neg (by omega) ?_
    rw [List.drop_eq_nil_of_le (by omega), cost, Int.add_zero]
    exact Evl.some _
  | m + 1, i, n, h, h0, h1 => by
    refine Evl.succ ?_
    simp only [frisketref36_Cost.l0, List.length_map, rd84 l i (by omega)]
    refine Evl.pos (by omega) (Evl.pos (by omega) ?_)
    have e1 : wrap64 ((i : Int) + 1) = ((i + 1 : Nat) : Int) := wn (by omega)
    have e2 : wrap64 (n + 1) = n + 1 := w64 (by omega) (by omega)
    rw [e1, e2, drop_getD l i z54 (by omega), cost]
    clear e1 e2
    refine Evl.ite (fun hc => ?_) (fun hc => ?_)
    · have h2 := rcost_l l hb m (i + 1) n (by omega) h0 (by omega)
      unfold toE rd_T54 at hc
      rw [if_pos hc, Int.zero_add]
      exact h2
    · have h2 := rcost_l l hb m (i + 1) (n + 1) (by omega) (by omega) (by omega)
      unfold toE rd_T54 at hc
      rw [if_neg hc, ← Int.add_assoc]
      exact h2
theorem rcost_ev (l : List S54) (hb : l.length < 1000000) : Evl (fun k => frisketref36_Cost.f k (l.map toE)) (cost l) := by
  simp only [frisketref36_Cost.f]
  have h := rcost_l l hb l.length 0 0 (by omega) (by omega) (by omega)
  rw [List.drop_zero, Int.zero_add] at h
  exact h
theorem rown_l (l : List S69) (h0 : OkC l) : ∀ (m i : Nat), i + m = l.length → Evl (fun k => frisketref36_Own.l0 k l (i : Int)) l
  | 0, i, h => by
    refine Evl.succ ?_
    simp only [frisketref36_Own.l0]
    exact Evl.neg (by omega) (Evl.some _)
  | m + 1, i, h => by
    refine Evl.succ ?_
    simp only [frisketref36_Own.l0, Option.bind_some, List.length_nil, List.nil_append]
    have h8 := h0.2 _ (getD_mem l i z69 (by omega))
    refine Evl.pos (by omega) (Evl.pos (by omega) (Evl.pos (by show 0 + (l.getD (i : Int).toNat z69).f8.length < _; omega) ?_))
    rw [wn (by have := h0.1; omega)]
    have e : l.set ((i : Int).toNat) (⟨(rd_T69 l i).f0, (rd_T69 l i).f1, (rd_T69 l i).f2, (rd_T69 l i).f3, (rd_T69 l i).f4, (rd_T69 l i).f5, (rd_T69 l i).f6, (rd_T69 l i).f7, (rd_T69 l i).f8⟩ : S69) = l := by
      unfold rd_T69
      rw [Int.toNat_natCast]
      exact set_same l i (by omega)
    rw [e]
    exact rown_l l h0 m (i + 1) (by omega)
theorem rown_ev (l : List S69) (h0 : OkC l) : Evl (fun k => frisketref36_Own.f k l) l := by
  simp only [frisketref36_Own.f, Option.bind_some, List.length_nil, List.nil_append]
  exact Evl.pos (by have := h0.1; omega) (rown_l l h0 l.length 0 (by omega))
section
variable {xs ys : List S24}
structure Ok (xs ys : List S24) : Prop where
  lx : xs.length ≤ 60
  ly : ys.length ≤ 60
  mx : ∀ p ∈ xs, OkC p.f1
  my : ∀ p ∈ ys, OkC p.f1
def both (xs ys : List S24) (e : S54) (i j : Nat) : Bool := decide (e.f1 = (i : Int) ∧ e.f2 = (j : Int) ∧ i < xs.length ∧ j < ys.length)
/-- Does the edit fit at these places? -/
def fit (xs ys : List S24) (e : S54) (i j : Nat) : Bool :=
  if e.f0 = 0 then both xs ys e i j && SM (at_ xs i) (at_ ys j)
  else if e.f0 = 3 then both xs ys e i j && (decide ((at_ xs i).f0 = (at_ ys j).f0) && !SM (at_ xs i) (at_ ys j))
  else if e.f0 = 1 then decide (e.f1 = (i : Int) ∧ e.f2 = 0 ∧ i < xs.length)
  else if e.f0 = 2 then decide (e.f2 = (j : Int) ∧ e.f1 = 0 ∧ j < ys.length) else false
def run (xs ys : List S24) : List S54 → Nat → Nat → Bool
  | [], i, j => decide (i = xs.length ∧ j = ys.length)
  | e :: l, i, j => fit xs ys e i j && run xs ys l (if e.f0 = 2 then i else i + 1) (if e.f0 = 1 then j else j + 1)
theorem fits_ev (O : Ok xs ys) (e : S54) (i j : Nat) : Evl (fun k => compare_fits.f k e.f0 e.f1 e.f2 xs ys (i : Int) (j : Int)) (fit xs ys e i j) := by
  have j0 : ∀ b, b = both xs ys e i j → Evl (fun k => compare_fits.j0 k xs ys (i : Int) (j : Int) b e.f0 e.f1 e.f2) (fit xs ys e i j) := by
    rintro b rfl
    refine Evl.succ ?_
    simp only [compare_fits.j0, rd_at]
    unfold fit
    refine Evl.ite (fun h0 => ?_) (fun h0 => ?_)
    · rw [if_pos h0]
      refine Evl.ite (fun hb => ?_) (fun hb => ?_)
      · rw [hb, Bool.true_and]
        unfold both at hb
        have hb2 := of_decide_eq_true hb
        refine Evl.pos (by omega) (Evl.pos (by omega) (Evl.pos (by omega) (Evl.pos (by omega) ?_)))
        exact Evl.bind (same_ev (at_ xs i) (at_ ys j) (O.mx _ (at_mem hb2.2.2.1)).okM) (Evl.some _)
      · rw [Bool.eq_false_iff.mpr hb, Bool.false_and]
        exact Evl.some _
    · rw [if_neg h0]
      refine Evl.ite (fun h3 => ?_) (fun h3 => ?_)
      · rw [if_pos h3]
        refine Evl.ite (fun hb => ?_) (fun hb => ?_)
        · rw [hb, Bool.true_and]
          unfold both at hb
          have hb2 := of_decide_eq_true hb
          refine Evl.pos (by omega) (Evl.pos (by omega) (Evl.pos (by omega) (Evl.pos (by omega) ?_)))
          refine Evl.ite (fun hn => ?_) (fun hn => ?_)
          · rw [decide_eq_true hn, Bool.true_and]
            exact Evl.bind (same_ev (at_ xs i) (at_ ys j) (O.mx _ (at_mem hb2.2.2.1)).okM) (Evl.some _)
          · rw [decide_eq_false hn, Bool.false_and]
            exact Evl.some _
        · rw [Bool.eq_false_iff.mpr hb, Bool.false_and]
          exact Evl.some _
      · rw [if_neg h3]
        refine Evl.ite (fun h1 => ?_) (fun h1 => ?_)
        · rw [if_pos h1]
          refine Evl.ite (fun ha => Evl.ite (fun hb => ?_) (fun hb => ?_)) (fun ha => ?_)
          · have e1 : decide ((i : Int) < (xs.length : Int)) = decide (e.f1 = (i : Int) ∧ e.f2 = 0 ∧ i < xs.length) := by
              by_cases h : i < xs.length
              · rw [decide_eq_true (by omega), decide_eq_true ⟨ha, hb, h⟩]
              · rw [decide_eq_false (by omega), decide_eq_false (fun h' => h h'.2.2)]
            rw [e1]; exact Evl.some _
          · rw [decide_eq_false (fun h' => hb h'.2.1)]; exact Evl.some _
          · rw [decide_eq_false (fun h' => ha h'.1)]; exact Evl.some _
        · rw [if_neg h1]
          refine Evl.ite (fun h2 => ?_) (fun h2 => ?_)
          · rw [if_pos h2]
            refine Evl.ite (fun ha => Evl.ite (fun hb => ?_) (fun hb => ?_)) (fun ha => ?_)
            · have e1 : decide ((j : Int) < (ys.length : Int)) = decide (e.f2 = (j : Int) ∧ e.f1 = 0 ∧ j < ys.length) := by
                by_cases h : j < ys.length
                · rw [decide_eq_true (by omega), decide_eq_true ⟨ha, hb, h⟩]
                · rw [decide_eq_false (by omega), decide_eq_false (fun h' => h h'.2.2)]
              rw [e1]; exact Evl.some _
            · rw [decide_eq_false (fun h' => hb h'.2.1)]; exact Evl.some _
            · rw [decide_eq_false (fun h' => ha h'.1)]; exact Evl.some _
          · rw [if_neg h2]; exact Evl.some _
  simp only [compare_fits.f]
  refine Evl.ite (fun h1 => Evl.ite (fun h2 => Evl.ite (fun h3 => j0 _ ?_) (fun h3 => j0 _ ?_)) (fun h2 => j0 _ ?_)) (fun h1 => j0 _ ?_)
  · unfold both
    by_cases h : j < ys.length
    · rw [decide_eq_true (by omega), decide_eq_true ⟨h1, h2, by omega, h⟩]
    · rw [decide_eq_false (by omega), decide_eq_false (fun h' => h h'.2.2.2)]
  · exact (decide_eq_false (fun h' => h3 (by have := h'.2.2.1; omega))).symm
  · exact (decide_eq_false (fun h' => h2 h'.2.1)).symm
  · exact (decide_eq_false (fun h' => h1 h'.1)).symm
theorem fit_in {e : S54} {i j : Nat} (hi : i ≤ xs.length) (hj : j ≤ ys.length) (h : fit xs ys e i j = true) : (if e.f0 = 2 then i else i + 1) ≤ xs.length ∧ (if e.f0 = 1 then j else j + 1) ≤ ys.length := by
  unfold fit both at h
  by_cases h0 : e.f0 = 0
  · rw [if_pos h0] at h
    have h2 := of_decide_eq_true (Bool.and_eq_true_iff.mp h).1
    rw [if_neg (by omega), if_neg (by omega)]; omega
  · rw [if_neg h0] at h
    by_cases h3 : e.f0 = 3
    · rw [if_pos h3] at h
      have h2 := of_decide_eq_true (Bool.and_eq_true_iff.mp h).1
      rw [if_neg (by omega), if_neg (by omega)]; omega
    · rw [if_neg h3] at h
      by_cases h1 : e.f0 = 1
      · rw [if_pos h1] at h
        have h2 := of_decide_eq_true h
        rw [if_neg (by omega), if_pos h1]; omega
      · rw [if_neg h1] at h
        by_cases h4 : e.f0 = 2
        · rw [if_pos h4] at h
          have h2 := of_decide_eq_true h
          rw [if_pos h4, if_neg h1]; omega
        · rw [if_neg h4] at h; cases h
/-- What comes of it: the pages of the other list, or a refusal. -/
def Good (xs ys : List S24) (ok : Bool) (out : List S24) (j : Nat) (R : List S24 × Int) : Prop :=
  (ok = true → ∃ q, R = (out ++ q, 0) ∧ All2 q (ys.drop j) ∧ ∀ z ∈ q, OkC z.f1) ∧ (ok = false → R = ([], 1))
theorem good_step {ok : Bool} {out : List S24} {p : S24} {j : Nat} {R : List S24 × Int} (hj : j < ys.length) (hs : SM p (at_ ys j) = true) (hp : OkC p.f1) (h : Good xs ys ok (out ++ [p]) (j + 1) R) : Good xs ys ok out j R := by
  refine ⟨fun ho => ?_, h.2⟩
  obtain ⟨q, rfl, hq, hok⟩ := h.1 ho
  refine ⟨p :: q, by simp, ?_, ?_⟩
  · rw [drop_at hj]; exact ⟨hs, hq⟩
  · intro z hz
    rcases List.mem_cons.mp hz with rfl | hz
    · exact hp
    · exact hok z hz
set_option maxHeartbeats 1000000 in
theorem apply_l (O : Ok xs ys) (l : List S54) (hb : l.length ≤ 200) : ∀ (m s i j : Nat) (out : List S24), s + m = l.length → i ≤ xs.length → j ≤ ys.length → out.length ≤ s →
    EvG (fun k => compare_Apply.l0 k xs ys out (i : Int) (j : Int) l (l.length : Int) (s : Int)) (Good xs ys (run xs ys (l.drop s) i j) out j) := by
  intro m
  induction m with
  | zero =>
    intro s i j out hs hi hj ho
    have lx := O.lx
    have ly := O.ly
    refine EvG.succ ?_
    simp only [compare_Apply.l0]
    refine EvG.neg (by omega) ?_
    rw [List.drop_eq_nil_of_le (by omega), run]
    have j1 : ∀ b, b = !decide (i = xs.length ∧ j = ys.length) → EvG (fun k => compare_Apply.j1 k xs ys out b) (Good xs ys (decide (i = xs.length ∧ j = ys.length)) out j) := by
      intro b hb2
      refine EvG.succ ?_
      simp only [compare_Apply.j1, mx_eq]
      by_cases h : i = xs.length ∧ j = ys.length
      · rw [hb2, decide_eq_true h]
        refine EvG.neg (by simp) (EvG.neg (by omega) (EvG.mk (Evl.some _) ⟨fun _ => ⟨[], by simp, ?_, by simp⟩, fun h => by cases h⟩))
        rw [List.drop_eq_nil_of_le (by omega)]
        trivial
      · rw [hb2, decide_eq_false h]
        exact EvG.pos (by simp) (EvG.mk (Evl.some _) ⟨fun h => (by cases h), fun _ => rfl⟩)
    refine EvG.ite (fun h1 => j1 _ ?_) (fun h1 => j1 _ ?_)
    · by_cases h : j = ys.length
      · rw [decide_eq_true ⟨by omega, h⟩, h]; simp
      · rw [decide_eq_false (fun h' => h h'.2)]
        exact bne_iff_ne.mpr (by omega)
    · rw [decide_eq_false (fun h' => h1 (by have := h'.1; omega))]; rfl
  | succ m ih =>
    intro s i j out hs hi hj ho
    have lx := O.lx
    have ly := O.ly
    refine EvG.succ ?_
    simp only [compare_Apply.l0]
    refine EvG.pos (by omega) (EvG.pos (by omega) (EvG.pos (by omega) ?_))
    have hd := drop_getD l s z54 (by omega)
    obtain ⟨e, he⟩ : ∃ e, rd_T54 l (s : Int) = e := ⟨_, rfl⟩
    have hd2 : l.drop s = e :: l.drop (s + 1) := by rw [hd]; unfold rd_T54 at he; rw [he]
    rw [he, hd2, run]
    refine EvG.bind (fits_ev O e i j) ?_
    have e3 : wrap64 ((s : Int) + 1) = ((s + 1 : Nat) : Int) := wn (by omega)
    rw [e3]
    clear e3 he hd hd2
    refine EvG.ite (fun hf => ?_) (fun hf => ?_)
    · have hin := fit_in hi hj hf
      have hf2 := hf
      rw [hf, Bool.true_and]
      unfold fit both at hf2
      have e1 : wrap64 ((i : Int) + 1) = ((i + 1 : Nat) : Int) := wn (by omega)
      have e2 : wrap64 ((j : Int) + 1) = ((j + 1 : Nat) : Int) := wn (by omega)
      rw [e1, e2]
      clear e1 e2 hf
      refine EvG.ite (fun h0 => ?_) (fun h0 => ?_)
      · rw [if_pos h0] at hf2
        rw [if_neg (show ¬ e.f0 = 2 by omega), if_neg (show ¬ e.f0 = 1 by omega)] at hin ⊢
        have hb2 := of_decide_eq_true (Bool.and_eq_true_iff.mp hf2).1
        have hs2 := (Bool.and_eq_true_iff.mp hf2).2
        clear hf2
        refine EvG.pos (by omega) (EvG.pos (by omega) ?_)
        simp only [rd_at]
        refine EvG.bind (page_ev (O.mx _ (at_mem hb2.2.2.1))) (EvG.pos (by omega) ?_)
        obtain ⟨v, hv, hg⟩ := ih (s + 1) (i + 1) (j + 1) (out ++ [at_ xs i]) (by omega) hin.1 hin.2 (by simp; omega)
        exact ⟨v, hv, good_step hb2.2.2.2 hs2 (O.mx _ (at_mem hb2.2.2.1)) hg⟩
      · rw [if_neg h0] at hf2
        refine EvG.ite (fun h3 => ?_) (fun h3 => ?_)
        · rw [if_pos h3] at hf2
          rw [if_neg (show ¬ e.f0 = 2 by omega), if_neg (show ¬ e.f0 = 1 by omega)] at hin ⊢
          have hb2 := of_decide_eq_true (Bool.and_eq_true_iff.mp hf2).1
          clear hf2
          refine EvG.pos (by omega) (EvG.pos (by omega) ?_)
          simp only [rd_at]
          refine EvG.bind (page_ev (O.my _ (at_mem hb2.2.2.2))) (EvG.pos (by omega) ?_)
          obtain ⟨v, hv, hg⟩ := ih (s + 1) (i + 1) (j + 1) (out ++ [at_ ys j]) (by omega) hin.1 hin.2 (by simp; omega)
          exact ⟨v, hv, good_step hb2.2.2.2 (SM_refl _) (O.my _ (at_mem hb2.2.2.2)) hg⟩
        · rw [if_neg h3] at hf2
          refine EvG.ite (fun h1 => ?_) (fun h1 => ?_)
          · rw [if_neg (show ¬ e.f0 = 2 by omega), if_pos h1] at hin ⊢
            clear hf2
            exact ih (s + 1) (i + 1) j out (by omega) hin.1 hin.2 (by omega)
          · rw [if_neg h1] at hf2
            by_cases h2 : e.f0 = 2
            · rw [if_pos h2] at hf2
              rw [if_pos h2, if_neg h1] at hin ⊢
              have hb2 := of_decide_eq_true hf2
              clear hf2
              refine EvG.pos (by omega) (EvG.pos (by omega) ?_)
              simp only [rd_at]
              refine EvG.bind (page_ev (O.my _ (at_mem hb2.2.2))) (EvG.pos (by omega) ?_)
              obtain ⟨v, hv, hg⟩ := ih (s + 1) i (j + 1) (out ++ [at_ ys j]) (by omega) hin.1 hin.2 (by simp; omega)
              exact ⟨v, hv, good_step hb2.2.2 (SM_refl _) (O.my _ (at_mem hb2.2.2)) hg⟩
            · rw [if_neg h2] at hf2; cases hf2
    · rw [Bool.eq_false_iff.mpr hf, Bool.false_and]
      exact EvG.mk (Evl.some _) ⟨fun h => (by cases h), fun _ => rfl⟩
/-! ### the document's -/
def bad (xs ys : List S24) (e : S54) (i j : Nat) : Prop := e.f0 < 0 ∨ 3 < e.f0 ∨ (e.f0 ≠ 2 ∧ (e.f1 ≠ (i : Int) ∨ xs.length ≤ i)) ∨ (e.f0 ≠ 1 ∧ (e.f2 ≠ (j : Int) ∨ ys.length ≤ j)) ∨ (e.f0 = 2 ∧ e.f1 ≠ 0) ∨ (e.f0 = 1 ∧ e.f2 ≠ 0)
instance (e : S54) (i j : Nat) : Decidable (bad xs ys e i j) := by unfold bad; infer_instance
theorem ssame_at (O : Ok xs ys) {i j : Nat} (hi : i < xs.length) (hj : j < ys.length) : Evl (fun k => frisketref36_Same.f k (toR (at_ xs i)).f0 (toR (at_ xs i)).f1 (toR (at_ ys j)).f0 (toR (at_ ys j)).f1) (SM (at_ xs i) (at_ ys j)) := ssame_ev (toR (at_ xs i)) (toR (at_ ys j)) (O.mx _ (at_mem hi)).okM
set_option maxHeartbeats 4000000 in
theorem right_l (O : Ok xs ys) (l : List S54) (hb : l.length ≤ 200) : ∀ (m s i j : Nat), s + m = l.length → i ≤ 300 - m → j ≤ 300 - m →
    Evl (fun k => frisketref36_Right.l0 k (xs.map toR) (l.map toE) (ys.map toR) (i : Int) (j : Int) (s : Int)) (run xs ys (l.drop s) i j) := by
  intro m
  induction m with
  | zero =>
    intro s i j hs hi hj
    have lx := O.lx
    have ly := O.ly
    refine Evl.succ ?_
    simp only [frisketref36_Right.l0, List.length_map]
    refine Evl.neg (by omega) ?_
    rw [List.drop_eq_nil_of_le (by omega), run]
    refine Evl.ite (fun h1 => ?_) (fun h1 => ?_)
    · by_cases h : j = ys.length
      · rw [decide_eq_true (p := i = xs.length ∧ j = ys.length) ⟨by omega, h⟩]
        rw [show ((j : Int) == (ys.length : Int)) = true from beq_iff_eq.mpr (by omega)]; exact Evl.some _
      · rw [decide_eq_false (p := i = xs.length ∧ j = ys.length) (fun h' => h h'.2)]
        rw [show ((j : Int) == (ys.length : Int)) = false from beq_eq_false_iff_ne.mpr (by omega)]; exact Evl.some _
    · rw [decide_eq_false (fun h' => h1 (by have := h'.1; omega))]; exact Evl.some _
  | succ m ih =>
    intro s i j hs hi hj
    have lx := O.lx
    have ly := O.ly
    have hd := drop_getD l s z54 (by omega)
    obtain ⟨e, he⟩ : ∃ e, rd_T54 l (s : Int) = e := ⟨_, rfl⟩
    have hd2 : l.drop s = e :: l.drop (s + 1) := by rw [hd]; unfold rd_T54 at he; rw [he]
    have e3 : wrap64 ((s : Int) + 1) = ((s + 1 : Nat) : Int) := wn (by omega)
    have E1 := Aside0.mk (show wrap64 ((i : Int) + 1) = ((i + 1 : Nat) : Int) from wn (by omega))
    have E2 := Aside0.mk (show wrap64 ((j : Int) + 1) = ((j + 1 : Nat) : Int) from wn (by omega))
    have j2 : ∀ b, b = !fit xs ys e i j → Evl (fun k => frisketref36_Right.j2 k (xs.map toR) (l.map toE) (ys.map toR) (i : Int) (j : Int) (s : Int) (e.f0 != 2) (e.f0 != 1) b) (run xs ys (l.drop s) i j) := by
      intro b hb2
      refine Evl.succ ?_
      simp only [frisketref36_Right.j2]
      rw [hd2, run, e3, E1.out, E2.out]
      cases hf : fit xs ys e i j
      · rw [hb2, hf, Bool.false_and]
        exact Evl.pos rfl (Evl.some _)
      · rw [hb2, hf, Bool.true_and]
        refine Evl.neg (by simp) ?_
        by_cases h2 : e.f0 = 2
        · have h1 : ¬ e.f0 = 1 := by omega
          rw [if_pos h2, if_neg h1]
          exact Evl.neg (by simp [h2]) (Evl.pos (bne_iff_ne.mpr h1) (ih (s + 1) i (j + 1) (by omega) (by omega) (by omega)))
        · rw [if_neg h2]
          refine Evl.pos (bne_iff_ne.mpr h2) ?_
          by_cases h1 : e.f0 = 1
          · rw [if_pos h1]
            exact Evl.neg (by simp [h1]) (ih (s + 1) (i + 1) j (by omega) (by omega) (by omega))
          · rw [if_neg h1]
            exact Evl.pos (bne_iff_ne.mpr h1) (ih (s + 1) (i + 1) (j + 1) (by omega) (by omega) (by omega))
    have j1 : ∀ b, b = decide (bad xs ys e i j) → Evl (fun k => frisketref36_Right.j1 k (xs.map toR) (l.map toE) (ys.map toR) (i : Int) (j : Int) (s : Int) (e.f0 != 2) (e.f0 != 1) b e.f0 e.f1 e.f2) (run xs ys (l.drop s) i j) := by
      intro b hb2
      refine Evl.succ ?_
      simp only [frisketref36_Right.j1, List.length_map]
      by_cases hbad : bad xs ys e i j
      · rw [hb2, decide_eq_true hbad]
        refine Evl.pos rfl ?_
        rw [hd2, run]
        have : fit xs ys e i j = false := by
          unfold bad at hbad
          unfold fit both
          by_cases h0 : e.f0 = 0
          · rw [if_pos h0, decide_eq_false (by omega), Bool.false_and]
          · rw [if_neg h0]
            by_cases h3 : e.f0 = 3
            · rw [if_pos h3, decide_eq_false (by omega), Bool.false_and]
            · rw [if_neg h3]
              by_cases h1 : e.f0 = 1
              · rw [if_pos h1, decide_eq_false (by omega)]
              · rw [if_neg h1]
                by_cases h2 : e.f0 = 2
                · rw [if_pos h2, decide_eq_false (by omega)]
                · rw [if_neg h2]
        rw [this, Bool.false_and]
        exact Evl.some _
      · rw [hb2, decide_eq_false hbad]
        have hok := hbad
        unfold bad at hok
        have HB := Aside0.mk hok
        clear hbad hok hb2
        refine Evl.neg (by simp) ?_
        refine Evl.ite (fun h0 => ?_) (fun h0 => ?_)
        · have hij : e.f1 = (i : Int) ∧ e.f2 = (j : Int) ∧ i < xs.length ∧ j < ys.length := by have := HB.out; omega
          have hfit : fit xs ys e i j = SM (at_ xs i) (at_ ys j) := by unfold fit both; rw [if_pos h0, decide_eq_true hij, Bool.true_and]
          rw [rd35 xs i hij.2.2.1, rd35 ys j hij.2.2.2]
          refine Evl.pos (by omega) (Evl.pos (by omega) (Evl.pos (by omega) (Evl.pos (by omega) ?_)))
          refine Evl.bind (ssame_at O hij.2.2.1 hij.2.2.2) ?_
          refine Evl.ite (fun hs2 => Evl.neg (by omega) (j2 _ (by rw [hfit, hs2]; rfl))) (fun hs2 => j2 _ (by rw [hfit, Bool.eq_false_iff.mpr hs2]; rfl))
        · refine Evl.ite (fun h3 => ?_) (fun h3 => ?_)
          · have hij : e.f1 = (i : Int) ∧ e.f2 = (j : Int) ∧ i < xs.length ∧ j < ys.length := by have := HB.out; omega
            have hfit : fit xs ys e i j = (decide ((at_ xs i).f0 = (at_ ys j).f0) && !SM (at_ xs i) (at_ ys j)) := by unfold fit both; rw [if_neg h0, if_pos h3, decide_eq_true hij, Bool.true_and]
            rw [rd35 xs i hij.2.2.1, rd35 ys j hij.2.2.2]
            refine Evl.pos (by omega) (Evl.pos (by omega) (Evl.pos (by omega) (Evl.pos (by omega) ?_)))
            refine Evl.ite (fun hn => ?_) (fun hn => j2 _ ?_)
            · refine Evl.bind (ssame_at O hij.2.2.1 hij.2.2.2) (j2 _ ?_)
              rw [hfit, decide_eq_true (show (at_ xs i).f0 = (at_ ys j).f0 from hn), Bool.true_and, Bool.not_not]
            · rw [hfit, decide_eq_false (show ¬ (at_ xs i).f0 = (at_ ys j).f0 from hn)]; rfl
          · refine j2 _ ?_
            have : fit xs ys e i j = true := by
              have hok := HB.out
              unfold fit both
              rw [if_neg h0, if_neg h3]
              by_cases h1 : e.f0 = 1
              · rw [if_pos h1, decide_eq_true (by omega)]
              · rw [if_neg h1, if_pos (by omega), decide_eq_true (by omega)]
            rw [this]; rfl
    have J := Aside0.mk j1
    clear j1 j2 ih E1 E2 hd hd2 e3
    refine Evl.succ ?_
    simp only [frisketref36_Right.l0, List.length_map, rd84 l s (by omega), he, toE]
    refine Evl.pos (by omega) (Evl.pos (by omega) ?_)
    have hb1 : ∀ b, (b = true ∧ bad xs ys e i j ∨ b = false ∧ ¬ bad xs ys e i j) → b = decide (bad xs ys e i j) := by
      rintro b (⟨rfl, h⟩ | ⟨rfl, h⟩)
      · exact (decide_eq_true h).symm
      · exact (decide_eq_false h).symm
    have hb3 : ∀ x : Int, ((x ≠ 0 ∧ bad xs ys e i j) ∨ (x = 0 ∧ ¬ bad xs ys e i j)) → (x != 0) = decide (bad xs ys e i j) := by
      rintro x (⟨h, h2⟩ | ⟨h, h2⟩)
      · rw [decide_eq_true h2]; exact bne_iff_ne.mpr h
      · rw [decide_eq_false h2, h]; rfl
    repeat' (refine Evl.ite (fun _ => ?_) (fun _ => ?_))
    all_goals first
      | exact J.out _ (hb1 _ (Or.inl ⟨rfl, by unfold bad; omega⟩))
      | exact J.out _ (hb1 _ (Or.inr ⟨rfl, by unfold bad; omega⟩))
      | exact J.out _ (hb3 _ (by unfold bad; omega))
      | (exfalso; omega)
theorem rapply_l (O : Ok xs ys) : ∀ (m i : Nat) (out : List S35), i + m = ys.length → out.length = i →
    Evl (fun k => frisketref36_Apply.l0 k (ys.map toR) out (i : Int)) (out ++ (ys.drop i).map toR, 0)
  | 0, i, out, h, ho => by
    refine Evl.succ ?_
    simp only [frisketref36_Apply.l0, List.length_map]
    refine Evl.neg (by omega) ?_
    rw [List.drop_eq_nil_of_le (by omega), List.map_nil, List.append_nil]
    exact Evl.some _
  | m + 1, i, out, h, ho => by
    have ly := O.ly
    have hi : i < ys.length := by omega
    refine Evl.succ ?_
    simp only [frisketref36_Apply.l0, List.length_map, rd35 ys i hi]
    refine Evl.pos (by omega) (Evl.pos (by omega) ?_)
    refine Evl.bind (rown_ev (toR (at_ ys i)).f1 (O.my _ (at_mem hi))) (Evl.pos (by omega) ?_)
    rw [wn (by omega), drop_at hi, List.map_cons]
    have h2 := rapply_l O m (i + 1) (out ++ [toR (at_ ys i)]) (by omega) (by simp [ho])
    rw [List.append_assoc] at h2
    exact h2
theorem rapply_ev (O : Ok xs ys) (l : List S54) (hb : l.length ≤ 200) : Evl (fun k => frisketref36_Apply.f k (xs.map toR) (l.map toE) (ys.map toR)) (if run xs ys l 0 0 = true then (ys.map toR, 0) else ([], 1)) := by
  have lx := O.lx
  have ly := O.ly
  simp only [frisketref36_Apply.f, frisketref36_Right.f, List.length_map]
  have hr := right_l O l hb l.length 0 0 0 (by omega) (by omega) (by omega)
  refine Evl.bind hr ?_
  rw [List.drop_zero]
  refine Evl.ite (fun h => ?_) (fun h => ?_)
  · rw [if_pos h]
    refine Evl.neg (by omega) ?_
    rw [decide_eq_false (by omega)]
    refine Evl.succ ?_
    simp only [frisketref36_Apply.j0]
    exact Evl.neg (by simp) (rapply_l O ys.length 0 [] (by omega) rfl)
  · rw [if_neg h]
    exact Evl.some _
theorem law_ev (O : Ok xs ys) (l : List S54) (hb : l.length ≤ 200) : Evl (fun k => (compare_Apply.f k xs l ys).bind fun bt367 => ((frisketlaw36_as.f k xs).bind fun t371 => ((frisketlaw36_edits.f k l).bind fun t374 => ((frisketlaw36_as.f k ys).bind fun t377 => ((frisketref36_Apply.f k t371 t374 t377).bind fun bt380 => (if bt367.2 = bt380.2 then ((frisketlaw36_as.f k bt367.1).bind fun t384 => ((frisketref36_SamePages.f k t384 bt380.1).bind fun t387 => (if t387 = true then ((compare_Cost.f k l).bind fun t388 => ((frisketlaw36_edits.f k l).bind fun t389 => ((frisketref36_Cost.f k t389).bind fun t392 => (if t388 = t392 then ((frisketlaw36_sane.f k).bind fun t393 => (some t393)) else (none))))) else (none)))) else (none))))))) true := by
  have lx := O.lx
  have ly := O.ly
  obtain ⟨R, hR, hg⟩ := apply_l O l hb l.length 0 0 0 [] (by omega) (by omega) (by omega) (by simp)
  have hR2 : Evl (fun k => compare_Apply.f k xs l ys) R := by
    simp only [compare_Apply.f]
    exact hR
  refine Evl.bind hR2 (Evl.bind (as_ev xs (by omega)) (Evl.bind (edits_ev l (by omega)) (Evl.bind (as_ev ys (by omega)) (Evl.bind (rapply_ev O l hb) ?_))))
  rw [List.drop_zero] at hg
  have fin : ∀ (q : List S24) (z : List S35), q.length < 1000 → (∀ p ∈ q, OkC p.f1) → sameL (q.map toR) z = true → Evl (fun k => (frisketlaw36_as.f k q).bind fun t384 => ((frisketref36_SamePages.f k t384 z).bind fun t387 => (if t387 = true then ((compare_Cost.f k l).bind fun t388 => ((frisketlaw36_edits.f k l).bind fun t389 => ((frisketref36_Cost.f k t389).bind fun t392 => (if t388 = t392 then ((frisketlaw36_sane.f k).bind fun t393 => (some t393)) else (none))))) else (none)))) true := by
    intro q z hq hok hs
    refine Evl.bind (as_ev q (by omega)) ?_
    have h2 := spages_ev (q.map toR) z (by rw [List.length_map]; unfold big; omega) (fun z hz => by
      obtain ⟨w, hw, rfl⟩ := List.mem_map.mp hz
      exact (hok w hw).okM)
    rw [hs] at h2
    refine Evl.bind h2 (Evl.pos rfl (Evl.bind (cost_ev l (by omega)) (Evl.bind (edits_ev l (by omega)) (Evl.bind (rcost_ev l (by omega)) (Evl.pos rfl ?_)))))
    exact Evl.bind sane_ev (Evl.some _)
  cases hr : run xs ys l 0 0
  · rw [hg.2 hr, if_neg (by simp)]
    exact Evl.pos rfl (fin [] [] (by simp) (by simp) rfl)
  · obtain ⟨q, rfl, hq, hok⟩ := hg.1 hr
    rw [if_pos rfl]
    rw [List.drop_zero] at hq
    have hl := all2_len hq
    exact Evl.pos rfl (fin q _ (by omega) hok (all2_same hq))
end
theorem CompareApplies_pure (l0 : List Int) (l1 : List S54) (l2 : List Int) : ∃ k, frisketlaw36_CompareApplies.f k l0 l1 l2 = some true := by
  refine Evl.out (v := true) ?_
  have sane_ : Evl (fun k => frisketlaw36_CompareApplies.j0 k l0 l1 l2 true) true := by
    refine Evl.succ ?_
    simp only [frisketlaw36_CompareApplies.j0, if_true]
    exact Evl.bind sane_ev (Evl.some _)
  simp only [frisketlaw36_CompareApplies.f]
  refine Evl.ite (fun _ => sane_) (fun h0 => Evl.ite (fun _ => sane_) (fun h1 => ?_))
  by_cases h2 : (l1.length : Int) > 200
  · rw [decide_eq_true h2]; exact sane_
  · rw [decide_eq_false h2]
    refine Evl.succ ?_
    simp only [frisketlaw36_CompareApplies.j0]
    refine Evl.neg (by simp) ?_
    obtain ⟨xs, ex, lx, ox⟩ := num_ev l0 (by omega)
    obtain ⟨ys, ey, ly, oy⟩ := num_ev l2 (by omega)
    refine Evl.bind ex (Evl.bind ey ?_)
    exact law_ev ⟨by omega, by omega, ox, oy⟩ l1 (by omega)
theorem CompareApplies (l0 : List Int) (l1 : List S54) (l2 : List Int) (g0 : R37.good l0) (g1 : R52.good l1) (g2 : R37.good l2) : ∃ k, frisketlaw36_CompareApplies.f k l0 l1 l2 = some true := CompareApplies_pure l0 l1 l2
end Go.Proofs.Ytgjmljjnminefaa.PureCompareApplies
