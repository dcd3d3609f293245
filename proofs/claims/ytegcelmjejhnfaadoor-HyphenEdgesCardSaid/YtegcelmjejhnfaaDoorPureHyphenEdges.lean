/- Greater edges leave just the points that lie far enough from both ends. -/
import Derived.Test.YtegcelmjejhnfaaDoorRdHyphenEdges
import Derived.Test.YtegcelmjejhnfaaDoorMade9Hy
namespace Go.Proofs.YtegcelmjejhnfaaDoor.Edges9
open Go.RowKit Go.Proofs.YtegcelmjejhnfaaDoor.QHy Go.Proofs.YtegcelmjejhnfaaDoorW.PrintWords Go.Proofs.YtegcelmjejhnfaaDoorW.PrintLast Go.Proofs.YtegcelmjejhnfaaDoorW.PrintMore Go.Proofs.YtegcelmjejhnfaaDoorN Go.Proofs.YtegcelmjejhnfaaDoor.Evl Go.Proofs.YtegcelmjejhnfaaDoor.Str Go.Proofs.YtegcelmjejhnfaaDoor.Words9 Go.Proofs.YtegcelmjejhnfaaDoor.Read9 Go.Proofs.YtegcelmjejhnfaaDoor.Vals9 Go.Proofs.YtegcelmjejhnfaaDoor.Made9
set_option linter.unusedVariables false
def filt (x y n : Int) (l : List Int) : List Int := l.filter fun p => decide (p ≥ x) && decide (n - p ≥ y)
theorem filt_sel (V : List Int) (n x y : Nat) (hx : 1 ≤ x) (hy : 1 ≤ y) : ∀ (m i : Nat), i + m = n → filt x y n (sel V m i) = sel V (n + 1 - y - max i x) (max i x)
  | 0, i, e => by rw [sel, show n + 1 - y - max i x = 0 by omega, sel]; rfl
  | m + 1, i, e => by
    have ih := filt_sel V n x y hx hy m (i + 1) (by omega)
    by_cases h1 : i < x
    · have e1 : max (i + 1) x = max i x := by omega
      rw [e1] at ih
      rw [sel]
      split
      · unfold filt
        rw [List.filter_cons_of_neg (by rw [decide_eq_false (by omega : ¬ (i : Int) ≥ (x : Int))]; simp)]
        exact ih
      · exact ih
    · have e1 : max (i + 1) x = i + 1 := by omega
      have e2 : max i x = i := by omega
      rw [e1] at ih
      rw [e2]
      by_cases h2 : y ≤ n - i
      · rw [show n + 1 - y - i = (n + 1 - y - (i + 1)) + 1 by omega, sel, sel]
        split
        · unfold filt at ih ⊢
          rw [List.filter_cons_of_pos (by rw [decide_eq_true (by omega : (i : Int) ≥ (x : Int)), decide_eq_true (by omega : (n : Int) - (i : Int) ≥ (y : Int))]; rfl), ih]
        · exact ih
      · rw [show n + 1 - y - i = 0 by omega, sel]
        rw [show n + 1 - y - (i + 1) = 0 by omega, sel] at ih
        rw [sel]
        split
        · unfold filt at ih ⊢
          rw [List.filter_cons_of_neg (by rw [decide_eq_false (by omega : ¬ (n : Int) - (i : Int) ≥ (y : Int))]; simp)]
          exact ih
        · exact ih
theorem sel_mem (V : List Int) : ∀ (m i : Nat), ∀ p ∈ sel V m i, (i : Int) ≤ p ∧ p < (i + m : Nat)
  | 0, i, p, h => by cases h
  | m + 1, i, p, h => by
    rw [sel] at h
    split at h
    · rcases List.mem_cons.1 h with rfl | h2
      · omega
      · have := sel_mem V m (i + 1) p h2; omega
    · have := sel_mem V m (i + 1) p h; omega
theorem mod_name (a : Int) (n : Nat) (hn : 0 < n ∧ n < 100) : ∃ x : Nat, 1 ≤ x ∧ x ≤ n ∧ wrap64 (1 + wrap64 (Int.tmod (IntKind.u64.wrap a) (n : Int))) = (x : Int) := by
  have h := tm_range (Made9.u64_range a).1 (n : Int) (by omega)
  refine ⟨(1 + Int.tmod (IntKind.u64.wrap a) (n : Int)).toNat, by omega, by omega, ?_⟩
  rw [w64 (x := Int.tmod (IntKind.u64.wrap a) (n : Int)) (by omega) (by omega), w64 (by omega) (by omega)]
  omega
theorem edges_l (w : List UInt8) (hw : w.length ≤ 60) (x y : Nat) (all some_ : List Int) (hm : ∀ p ∈ all, 0 ≤ p ∧ p ≤ 1000) (hl : all.length < 1000) (hs : some_ = filt x y w.length all) :
    ∀ (m i : Nat) (acc : List Int), i + m = all.length → acc.length ≤ i → acc ++ filt x y w.length (all.drop i) = some_ → Evl (fun k => frisketlaw09_HyphenEdges.l0 k (mkB w) (x : Int) (y : Int) all some_ acc (i : Int)) true
  | 0, i, acc, e, ha, h => by
    refine Evl.succ ?_
    simp only [frisketlaw09_HyphenEdges.l0]
    rw [List.drop_eq_nil_of_le (by omega)] at h
    have h2 : acc = some_ := by rw [← h]; exact (List.append_nil _).symm
    rw [h2]
    rw [h2] at ha
    exact Evl.neg (by omega) (Evl.bind (num_ev some_ (by omega)) (Evl.pos rfl (Evl.bind sane_ev (Evl.some _))))
  | m + 1, i, acc, e, ha, h => by
    have hi : i < all.length := by omega
    have hp := hm _ (List.getElem_mem hi)
    rw [List.drop_eq_getElem_cons hi] at h
    refine Evl.succ ?_
    simp only [frisketlaw09_HyphenEdges.l0, rd_lt all i hi, size_mkB]
    rw [wn (by omega), w64 (x := (w.length : Int) - all[i]) (by omega) (by omega)]
    refine Evl.pos (by omega) (Evl.pos (by omega) ?_)
    unfold filt at h
    refine Evl.ite (fun c => Evl.ite (fun c2 => Evl.pos (by omega) ?_) (fun c2 => ?_)) (fun c => ?_)
    · rw [List.filter_cons_of_pos (by rw [decide_eq_true c, decide_eq_true c2]; rfl)] at h
      exact edges_l w hw x y all some_ hm hl hs m (i + 1) _ (by omega) (by simp; omega) (by rw [List.append_assoc]; exact h)
    · rw [List.filter_cons_of_neg (by rw [decide_eq_false c2]; simp)] at h
      exact edges_l w hw x y all some_ hm hl hs m (i + 1) _ (by omega) (by omega) h
    · rw [List.filter_cons_of_neg (by rw [decide_eq_false c]; simp)] at h
      exact edges_l w hw x y all some_ hm hl hs m (i + 1) _ (by omega) (by omega) h
theorem edges_ev (l0 l1 : List Int) (a b : Int) (h0 : l0.length < 4611686018427387904) : Evl (fun k => frisketlaw09_HyphenEdges.f k l0 l1 a b) true := by
  obtain ⟨r, hr, w, rfl, hw⟩ := word_made l0 h0
  obtain ⟨r2, hr2, P, rfl, hP, hok, hsh⟩ := patterns_made l1
  have h60 := isW_len hw
  obtain ⟨x, hx1, hx2, ex⟩ := mod_name a 10 (by omega)
  obtain ⟨y, hy1, hy2, ey⟩ := mod_name b 10 (by omega)
  have hpos : 0 < w.length := List.length_pos_iff.2 (isW_ne hw)
  obtain ⟨V, hV⟩ : ∃ V, vOf9 (w.map low8) (P.map pair) = V := ⟨_, rfl⟩
  have hp := points_ev w hw P (by omega) (pats_small hsh) hok 1 1 (by omega) (by omega)
  have hq := points_ev w hw P (by omega) (pats_small hsh) hok x y (by omega) (by omega)
  rw [hV] at hp hq
  have hf := filt_sel V w.length x y hx1 hy1 (w.length - 1) 1 (by omega)
  rw [show max 1 x = x by omega] at hf
  rw [show w.length + 1 - 1 - 1 = w.length - 1 by omega] at hp
  have hm := sel_mem V (w.length - 1) 1
  have hl := sel_len V (w.length - 1) 1
  simp only [frisketlaw09_HyphenEdges.f]
  have ex' : wrap64 (1 + wrap64 ((IntKind.u64.wrap a).tmod 10)) = (x : Int) := ex
  have ey' : wrap64 (1 + wrap64 ((IntKind.u64.wrap b).tmod 10)) = (y : Int) := ey
  rw [ex', ey']
  refine Evl.bind hr (Evl.bind hr2 (Evl.bind hp (Evl.bind hq (Evl.pos rfl (Evl.succ ?_)))))
  simp only [frisketlaw09_HyphenEdges.j0]
  refine Evl.neg (by simp) ?_
  exact edges_l w h60 x y _ _ (fun p hp => by have := hm p hp; omega) (by omega) hf.symm _ 0 [] (Nat.zero_add _) (Nat.le_refl _) hf
end Go.Proofs.YtegcelmjejhnfaaDoor.Edges9
namespace Go.Proofs.YtegcelmjejhnfaaDoor.PureHyphenEdges
open Go.RowKit Go.Proofs.YtegcelmjejhnfaaDoorR Go.Proofs.YtegcelmjejhnfaaDoor.QHy Go.Proofs.YtegcelmjejhnfaaDoorW.PrintWords Go.Proofs.YtegcelmjejhnfaaDoorW.PrintLast Go.Proofs.YtegcelmjejhnfaaDoor.Evl
theorem HyphenEdges (x0_0 : List Int) (x0_1 : List Int) (x0_2 : Int) (x0_3 : Int) (g0 : R24.good (x0_0, x0_1, x0_2, x0_3)) : ∃ k, frisketlaw09_HyphenEdges.f k x0_0 x0_1 x0_2 x0_3 = some true := by
  have h : R22e.good x0_0 := g0.1
  have h2 : x0_0.length * 8 ≤ 140737488351232 := h.2.1
  exact Evl.out (Edges9.edges_ev x0_0 x0_1 x0_2 x0_3 (by omega))
end Go.Proofs.YtegcelmjejhnfaaDoor.PureHyphenEdges
