/- Any texts and numbers are answered as the document says. -/
import Derived.Test.YtegcelmjejhnfaaDoorRdHyphenRaw
import Derived.Test.YtegcelmjejhnfaaDoorSame9Hy
namespace Go.Proofs.YtegcelmjejhnfaaDoor.Raw9
open Go.RowKit Go.Proofs.YtegcelmjejhnfaaDoor.QHy Go.Proofs.YtegcelmjejhnfaaDoorW.PrintWords Go.Proofs.YtegcelmjejhnfaaDoorW.PrintLast Go.Proofs.YtegcelmjejhnfaaDoorW.PrintMore Go.Proofs.YtegcelmjejhnfaaDoorN Go.Proofs.YtegcelmjejhnfaaDoor.Evl Go.Proofs.YtegcelmjejhnfaaDoor.Str Go.Proofs.YtegcelmjejhnfaaDoor.Words9 Go.Proofs.YtegcelmjejhnfaaDoor.Read9 Go.Proofs.YtegcelmjejhnfaaDoor.Vals9 Go.Proofs.YtegcelmjejhnfaaDoor.Ref9 Go.Proofs.YtegcelmjejhnfaaDoor.Same9
set_option linter.unusedVariables false
section
variable (w : List UInt8) (hw : w.length < 2000000) (P X : List (List UInt8)) (hP : P.length ≤ 60) (hS : Small P) (hX : X.length ≤ 60) (hB : Brief X) (a b : Int)
include hw hP hS hX hB in
theorem raw_l1 : ∀ (m i : Nat), i + m = X.length → Evl (fun k => frisketlaw09_HyphenRaw.l1 k (mkB w) (P.map mkB) (X.map mkB) a b (i : Int)) true
  | 0, i, e => by
    refine Evl.succ ?_
    simp only [frisketlaw09_HyphenRaw.l1, List.length_map]
    exact Evl.neg (by omega) (Evl.bind (same_all w hw P X (by omega) hS (by omega) hB a b) (Evl.pos rfl (Evl.bind sane_ev (Evl.some _))))
  | m + 1, i, e => by
    have hi : i < X.length := by omega
    have hx := hB _ (List.getElem_mem hi)
    refine Evl.succ ?_
    simp only [frisketlaw09_HyphenRaw.l1, List.length_map, rdOf_map X i hi, exc_h _ hx, Option.bind_some]
    rw [wn (by omega)]
    exact Evl.pos (by omega) (Evl.pos (by omega) (Evl.bind (except_ev _ hx) (Evl.neg (by simp) (raw_l1 m (i + 1) (by omega)))))
include hw hP hS hX hB in
theorem raw_l0 : ∀ (m i : Nat), i + m = P.length → Evl (fun k => frisketlaw09_HyphenRaw.l0 k (mkB w) (P.map mkB) (X.map mkB) a b (i : Int)) true
  | 0, i, e => by
    refine Evl.succ ?_
    simp only [frisketlaw09_HyphenRaw.l0, List.length_map]
    exact Evl.neg (by omega) (raw_l1 w hw P X hP hS hX hB a b X.length 0 (by omega))
  | m + 1, i, e => by
    have hi : i < P.length := by omega
    have hp := hS _ (List.getElem_mem hi)
    have h1 : Evl (fun k => hyphen_Pattern.f k (mkB P[i])) (okP P[i]) := by
      simp only [hyphen_Pattern.f]
      exact Evl.bind (read_ev P[i] hp) (Evl.some _)
    refine Evl.succ ?_
    simp only [frisketlaw09_HyphenRaw.l0, List.length_map, rdOf_map P i hi]
    rw [wn (by omega)]
    exact Evl.pos (by omega) (Evl.pos (by omega) (Evl.bind h1 (Evl.bind (pattern_ev _ hp) (Evl.neg (by simp) (raw_l0 m (i + 1) (by omega))))))
end
theorem raw_ev (w : List UInt8) (hw : w.length < 2000000) (P X : List (List UInt8)) (hS : Small P) (hB : Brief X) (a b : Int) : Evl (fun k => frisketlaw09_HyphenRaw.f k (mkB w) (P.map mkB) (X.map mkB) a b) true := by
  have jt : Evl (fun k => frisketlaw09_HyphenRaw.j0 k (mkB w) (P.map mkB) (X.map mkB) a b true) true := by
    refine Evl.succ ?_
    simp only [frisketlaw09_HyphenRaw.j0]
    exact Evl.pos trivial (Evl.bind sane_ev (Evl.some _))
  simp only [frisketlaw09_HyphenRaw.f, List.length_map]
  refine Evl.ite (fun c => jt) (fun c => ?_)
  by_cases c2 : (X.length : Int) > 60
  · rw [decide_eq_true c2]
    exact jt
  · rw [decide_eq_false c2]
    refine Evl.succ ?_
    simp only [frisketlaw09_HyphenRaw.j0]
    exact Evl.neg (by simp) (raw_l0 w hw P X (by omega) hS (by omega) hB a b P.length 0 (by omega))
theorem lists (l : List ByteArray) : l = (l.map fun s => s.data.toList).map mkB := by
  rw [List.map_map]
  conv => lhs; rw [← List.map_id l]
  exact List.map_congr_left fun s _ => mkB_data s
end Go.Proofs.YtegcelmjejhnfaaDoor.Raw9
namespace Go.Proofs.YtegcelmjejhnfaaDoor.PureHyphenRaw
open Go.RowKit Go.Proofs.YtegcelmjejhnfaaDoorRB Go.Proofs.YtegcelmjejhnfaaDoor.QHy Go.Proofs.YtegcelmjejhnfaaDoorW.PrintWords Go.Proofs.YtegcelmjejhnfaaDoorW.PrintLast Go.Proofs.YtegcelmjejhnfaaDoor.Evl Go.Proofs.YtegcelmjejhnfaaDoor.Str
theorem HyphenRaw (x0_0 : ByteArray) (x0_1 : List ByteArray) (x0_2 : List ByteArray) (x0_3 : Int) (x0_4 : Int) (g0 : R46.good (x0_0, x0_1, x0_2, x0_3, x0_4)) : ∃ k, frisketlaw09_HyphenRaw.f k x0_0 x0_1 x0_2 x0_3 x0_4 = some true := by
  have h0 : x0_0.size ≤ 1048576 := g0.1
  have h1 : ∀ x ∈ x0_1, x.size ≤ 1048576 := g0.2.1.2
  have h2 : ∀ x ∈ x0_2, x.size ≤ 1048576 := g0.2.2.1.2
  have e := Raw9.raw_ev x0_0.data.toList (by rw [Array.length_toList]; show x0_0.size < _; omega) (x0_1.map fun s => s.data.toList) (x0_2.map fun s => s.data.toList)
    (by
      intro s hs
      obtain ⟨t, ht, rfl⟩ := List.mem_map.1 hs
      have := h1 t ht
      rw [Array.length_toList]
      show t.size < _
      omega)
    (by
      intro s hs
      obtain ⟨t, ht, rfl⟩ := List.mem_map.1 hs
      have := h2 t ht
      rw [Array.length_toList]
      show t.size < _
      omega) x0_3 x0_4
  rw [← Raw9.lists, ← Raw9.lists, ← mkB_data] at e
  exact Evl.out e
end Go.Proofs.YtegcelmjejhnfaaDoor.PureHyphenRaw
