/- More patterns never make a value less; without patterns there is no point. -/
import Derived.Test.YtegcelmjejhnfaaDoorQHyx8
import Derived.Test.YtegcelmjejhnfaaDoorMade9Hy
namespace Go.Proofs.YtegcelmjejhnfaaDoor.More9
open Go.RowKit Go.Proofs.YtegcelmjejhnfaaDoor.QHy Go.Proofs.YtegcelmjejhnfaaDoorW.PrintWords Go.Proofs.YtegcelmjejhnfaaDoorW.PrintLast Go.Proofs.YtegcelmjejhnfaaDoorW.PrintMore Go.Proofs.YtegcelmjejhnfaaDoorN Go.Proofs.YtegcelmjejhnfaaDoor.Evl Go.Proofs.YtegcelmjejhnfaaDoor.Str Go.Proofs.YtegcelmjejhnfaaDoor.Words9 Go.Proofs.YtegcelmjejhnfaaDoor.Read9 Go.Proofs.YtegcelmjejhnfaaDoor.Vals9 Go.Proofs.YtegcelmjejhnfaaDoor.Made9
set_option linter.unusedVariables false
def Under (a b : List Int) : Prop := ∀ i : Nat, rd a (i : Int) ≤ rd b (i : Int)
theorem Under.refl (a : List Int) : Under a a := fun i => Int.le_refl _
theorem Under.trans {a b c : List Int} (h : Under a b) (h2 : Under b c) : Under a c := fun i => Int.le_trans (h i) (h2 i)
theorem rd_nat (l : List Int) (i : Nat) : rd l (i : Int) = l[i]?.getD 0 := by
  unfold rd
  rw [Int.toNat_natCast, List.getD_eq_getElem?_getD]
theorem under_set (all : List Int) (j : Nat) (v : Int) : Under all (all.set j (mx (rd all (j : Int)) v)) := fun i => by
  rw [rd_nat, rd_nat, rd_nat, List.getElem?_set]
  by_cases h : j = i
  · subst h
    rw [if_pos rfl]
    by_cases h2 : j < all.length
    · rw [if_pos h2, Option.getD_some]
      unfold mx
      split <;> omega
    · rw [if_neg h2, List.getElem?_eq_none (by omega)]
      exact Int.le_refl _
  · rw [if_neg h]
    exact Int.le_refl _
theorem under_upd : ∀ (vs all : List Int) (j : Nat), Under all (upd all j vs)
  | [], all, j => Under.refl _
  | v :: vs, all, j => (under_set all j v).trans (under_upd vs _ _)
theorem under_scan (F T : List UInt8) (V : List Int) : ∀ (m j : Nat) (all : List Int), Under all (scan F T V m j all)
  | 0, _, _ => Under.refl _
  | m + 1, j, all => by
    rw [scan]
    refine Under.trans ?_ (under_scan F T V m (j + 1) _)
    split
    · exact under_upd _ _ _
    · exact Under.refl _
theorem under_vals (F : List UInt8) : ∀ (ps : List (List UInt8 × List Int)) (all : List Int), Under all (vals F ps all)
  | [], _ => Under.refl _
  | p :: ps, all => (under_scan F _ _ _ _ _).trans (under_vals F ps _)
theorem vals_app (F : List UInt8) : ∀ (ps qs : List (List UInt8 × List Int)) (all : List Int), vals F (ps ++ qs) all = vals F qs (vals F ps all)
  | [], qs, all => rfl
  | p :: ps, qs, all => by rw [List.cons_append, vals, vals, vals_app F ps]
theorem rd_cut (l : List Int) (n i : Nat) : rd ((l.take n).drop 1) (i : Int) = if i + 1 < n then rd l ((i + 1 : Nat) : Int) else 0 := by
  rw [rd_nat, rd_nat, List.getElem?_drop, List.getElem?_take, Nat.add_comm 1 i]
  split <;> rfl
theorem under_vOf (W : List UInt8) (ps qs : List (List UInt8 × List Int)) : Under (vOf9 W ps) (vOf9 W (ps ++ qs)) := fun i => by
  unfold vOf9
  rw [rd_cut, rd_cut, vals_app]
  split
  · exact under_vals _ _ _ _
  · exact Int.le_refl _
theorem sel_none (all : List Int) (h : ∀ i : Nat, rd all (i : Int) = 0) : ∀ (m i : Nat), sel all m i = []
  | 0, i => rfl
  | m + 1, i => by rw [sel, h i, if_neg (by decide), sel_none all h m]
theorem none_zero (W : List UInt8) (i : Nat) : rd (vOf9 W []) (i : Int) = 0 := by
  unfold vOf9
  rw [rd_cut, vals]
  split
  · rw [rd_nat, List.getElem?_replicate]
    split <;> rfl
  · rfl
theorem more_l (w : List UInt8) (a b : List Int) (hab : Under a b) (hl : a.length = b.length) (hs : a.length < 10000) (hn : Evl (fun k => hyphen_Points.f k (mkB w) ([] : List ByteArray) ([] : List ByteArray) 1 1) ([], 0)) :
    ∀ (m i : Nat), i + m = a.length → Evl (fun k => frisketlaw09_HyphenMore.l0 k (mkB w) a b (i : Int)) true
  | 0, i, e => by
    refine Evl.succ ?_
    simp only [frisketlaw09_HyphenMore.l0]
    refine Evl.neg (by omega) (Evl.bind hn (Evl.pos rfl (Evl.pos rfl (Evl.bind sane_ev (Evl.some _)))))
  | m + 1, i, e => by
    refine Evl.succ ?_
    simp only [frisketlaw09_HyphenMore.l0]
    have := hab i
    rw [wn (by omega)]
    exact Evl.pos (by omega) (Evl.pos (by omega) (Evl.pos (by omega) (Evl.neg (by omega) (more_l w a b hab hl hs hn m (i + 1) (by omega)))))
theorem more_ev (l0 l1 l2 : List Int) (h0 : l0.length < 4611686018427387904) (h1 : l1.length < 4611686018427387904) (h2 : l2.length < 4611686018427387904) : Evl (fun k => frisketlaw09_HyphenMore.f k l0 l1 l2) true := by
  obtain ⟨r, hr, w, rfl, hw⟩ := word_made l0 h0
  obtain ⟨r1, hr1, P, rfl, hP, hok, hsh⟩ := patterns_made l1
  obtain ⟨r2, hr2, Q, rfl, hQ, hokQ, hshQ⟩ := patterns_made l2
  have h60 := isW_len hw
  have hv := vals_ev w hw P (by omega) (pats_small hsh) hok hyphen_Values.f (fun _ _ _ => rfl)
  have hv2 := vals_ev w hw (P ++ Q) (by rw [List.length_append]; omega) (pats_small fun s hs => (List.mem_append.1 hs).elim (hsh s) (hshQ s)) (by rw [List.all_append, hok, hokQ]; rfl) hyphen_Values.f (fun _ _ _ => rfl)
  rw [List.map_append, List.map_append] at hv2
  have hp := points_ev w hw [] (by simp) (fun _ h => by cases h) rfl 1 1 (by omega) (by omega)
  rw [List.map_nil, List.map_nil, sel_none _ (none_zero _)] at hp
  have e1 := vOf9_len (w.map low8) (P.map pair)
  have e2 := vOf9_len (w.map low8) (P.map pair ++ Q.map pair)
  have hlen : (w.map low8).length = w.length := List.length_map ..
  simp only [frisketlaw09_HyphenMore.f]
  refine Evl.bind hr (Evl.bind hr1 (Evl.bind hv (Evl.bind (Evl.some _) (Evl.pos (by rw [List.length_map, List.length_nil]; omega) (Evl.bind (Evl.some _) (Evl.bind hr2 (Evl.pos (by rw [List.nil_append, List.length_map, List.length_map]; omega) ?_)))))))
  rw [List.nil_append]
  refine Evl.bind hv2 (Evl.pos rfl (Evl.pos rfl ?_))
  simp only [size_mkB]
  refine Evl.pos (by rw [w64 (by omega) (by omega)]; omega) ?_
  refine Evl.succ ?_
  simp only [frisketlaw09_HyphenMore.j0]
  refine Evl.neg (by simp; omega) ?_
  exact more_l w _ _ (under_vOf _ _ _) (by omega) (by omega) hp _ 0 (Nat.zero_add _)
end Go.Proofs.YtegcelmjejhnfaaDoor.More9
namespace Go.Proofs.YtegcelmjejhnfaaDoor.Pure
open Go.RowKit Go.Proofs.YtegcelmjejhnfaaDoor.QHy Go.Proofs.YtegcelmjejhnfaaDoorW.PrintWords Go.Proofs.YtegcelmjejhnfaaDoorW.PrintLast Go.Proofs.YtegcelmjejhnfaaDoor.Evl
theorem HyphenMore : frisketlaw09_HyphenMore.Pure := by
  intro l0 l1 l2 _ h0 _ _ h1 _ _ h2 _
  exact Evl.out (More9.more_ev l0 l1 l2 (by omega) (by omega) (by omega))
end Go.Proofs.YtegcelmjejhnfaaDoor.Pure
