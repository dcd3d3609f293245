/- Words and patterns that numbers make, with exceptions that are the word itself, are broken as the document says. -/
import Derived.Test.YtegcelmjejhnfaaDoorRdHyphenMade
import Derived.Test.YtegcelmjejhnfaaDoorMade9Hy
import Derived.Test.YtegcelmjejhnfaaDoorSame9Hy
namespace Go.Proofs.YtegcelmjejhnfaaDoor.Make9
open Go.RowKit Go.Proofs.YtegcelmjejhnfaaDoor.QHy Go.Proofs.YtegcelmjejhnfaaDoorW.PrintWords Go.Proofs.YtegcelmjejhnfaaDoorW.PrintLast Go.Proofs.YtegcelmjejhnfaaDoorW.PrintMore Go.Proofs.YtegcelmjejhnfaaDoorN Go.Proofs.YtegcelmjejhnfaaDoor.Evl Go.Proofs.YtegcelmjejhnfaaDoor.Str Go.Proofs.YtegcelmjejhnfaaDoor.Words9 Go.Proofs.YtegcelmjejhnfaaDoor.Read9 Go.Proofs.YtegcelmjejhnfaaDoor.Vals9 Go.Proofs.YtegcelmjejhnfaaDoor.Made9 Go.Proofs.YtegcelmjejhnfaaDoor.Ref9 Go.Proofs.YtegcelmjejhnfaaDoor.Same9
set_option linter.unusedVariables false
section
variable (w : List UInt8) (hw : isW w = true) (more at_ : List Int) (a b : Int)
include hw in
theorem fin_ (Y : List (List UInt8)) (hY : Y.length ≤ 4) (hB : ∀ y ∈ Y, y.length ≤ 100) (t : ByteArray) (i : Int) : Evl (fun k => frisketlaw09_HyphenMade.j2 k more at_ a b (mkB w) t (Y.map mkB) i false) true := by
  obtain ⟨r2, hr2, P, rfl, hP, hok, hsh⟩ := patterns_made more
  have h60 := isW_len hw
  refine Evl.succ ?_
  simp only [frisketlaw09_HyphenMade.j2]
  refine Evl.neg (by simp) (Evl.bind hr2 (Evl.bind (same_all w (by omega) P Y (by omega) (pats_small hsh) (by omega) (fun y hy => by have := hB y hy; omega) _ _) (Evl.pos rfl (Evl.bind sane_ev (Evl.some _)))))
include hw in
theorem made_l1 : ∀ (m i : Nat) (Y : List (List UInt8)), m = 4 - i → i ≤ 4 → Y.length = i → (∀ y ∈ Y, y.length ≤ 100) → Evl (fun k => frisketlaw09_HyphenMade.l1 k more at_ a b (mkB w) (mkB (w.map low8)) (Y.map mkB) (i : Int)) true
  | 0, i, Y, e, hi, hY, hB => by
    refine Evl.succ ?_
    simp only [frisketlaw09_HyphenMade.l1]
    rw [decide_eq_false (by omega : ¬ (i : Int) < 4)]
    exact Evl.ite (fun _ => fin_ w hw more at_ a b Y (by omega) hB _ _) (fun _ => fin_ w hw more at_ a b Y (by omega) hB _ _)
  | m + 1, i, Y, e, hi, hY, hB => by
    have h60 := isW_len hw
    have hpos : 0 < w.length := List.length_pos_iff.2 (isW_ne hw)
    have hlen : (w.map low8).length = w.length := List.length_map ..
    refine Evl.succ ?_
    simp only [frisketlaw09_HyphenMade.l1]
    rw [decide_eq_true (by omega : (i : Int) < 4)]
    refine Evl.ite (fun c => ?_) (fun _ => fin_ w hw more at_ a b Y (by omega) hB _ _)
    refine Evl.succ ?_
    simp only [frisketlaw09_HyphenMade.j2, size_mkB]
    rw [u64_id (x := (w.length : Int)) (by omega) (by omega)]
    have h := tm_range (Made9.u64_range (rd at_ (i : Int))).1 (w.length : Int) (by omega)
    obtain ⟨n, hn⟩ : ∃ n : Nat, Int.tmod (IntKind.u64.wrap (rd at_ (i : Int))) (w.length : Int) = (n : Int) := ⟨_, (Int.toNat_of_nonneg h.1).symm⟩
    rw [hn] at h ⊢
    rw [w64 (x := (n : Int)) (by omega) (by omega), wn (by omega), hlen]
    have step : ∀ y : List UInt8, y.length ≤ 100 → Evl (fun k => if (Y.map mkB).length < 8796093022208 then (frisketlaw09_HyphenMade.l1 k more at_ a b (mkB w) (mkB (w.map low8)) (Y.map mkB ++ [mkB y]) ((i + 1 : Nat) : Int)) else none) true := by
      intro y hy
      refine Evl.pos (by rw [List.length_map]; omega) ?_
      have := made_l1 m (i + 1) (Y ++ [y]) (by omega) (by omega) (by simp [hY]) (by
        intro z hz
        rcases List.mem_append.1 hz with h | h
        · exact hB z h
        · rw [List.mem_singleton.1 h]; exact hy)
      rw [List.map_append] at this
      exact this
    refine Evl.pos trivial (Evl.pos (by omega) (Evl.pos c (Evl.neg (by omega) (Evl.ite (fun c2 => ?_) (fun c2 => ?_)))))
    · rw [Int.toNat_natCast, extract_mkB, extract_mkB, List.drop_zero, dash_one, append_mkB, append_mkB, size_mkB, size_mkB, size_mkB]
      have s1 : ((w.map low8).take n).length = n := by rw [List.length_take, hlen]; omega
      have s2 : (((w.map low8).take w.length).drop n).length = w.length - n := by rw [List.length_drop, List.length_take, hlen, Nat.min_self]
      refine Evl.pos (by omega) (Evl.pos (by omega) (Evl.pos (by omega) (Evl.pos (by rw [List.length_append, s1, s2, List.length_singleton]; omega) ?_)))
      exact step _ (by rw [List.length_append, List.length_append, s1, s2, List.length_singleton]; omega)
    · exact step (w.map low8) (by omega)
include hw in
theorem made_l0 : ∀ (m i : Nat) (s : List UInt8), i + m = w.length → s.length = i → s ++ (w.drop i).map low8 = w.map low8 → Evl (fun k => frisketlaw09_HyphenMade.l0 k more at_ a b (mkB w) (mkB s) (i : Int)) true
  | 0, i, s, e, hs, h => by
    refine Evl.succ ?_
    simp only [frisketlaw09_HyphenMade.l0, size_mkB]
    rw [List.drop_eq_nil_of_le (by omega), List.map_nil, List.append_nil] at h
    rw [h]
    exact Evl.neg (by omega) (made_l1 w hw more at_ a b 4 0 [] rfl (by omega) rfl (fun y hy => by cases hy))
  | m + 1, i, s, e, hs, h => by
    have h60 := isW_len hw
    have hi : i < w.length := by omega
    have hlt : lt w[i] = true := by
      unfold isW at hw
      rw [Bool.and_eq_true] at hw
      exact List.all_eq_true.1 hw.1 _ (List.getElem_mem hi)
    have hl := (lt_iff w[i]).1 hlt
    have ih := made_l0 m (i + 1) (s ++ [low8 w[i]]) (by omega) (by simp [hs]) (by
      rw [List.drop_eq_getElem_cons hi, List.map_cons] at h
      rw [List.append_assoc]
      exact h)
    have ln := low8_nat w[i]
    unfold lowI at ln
    refine Evl.succ ?_
    simp only [frisketlaw09_HyphenMade.l0, size_mkB, bt_mkB w i hi]
    rw [wn (by omega)]
    refine Evl.pos (by omega) (Evl.pos (by omega) (Evl.ite (fun c => ?_) (fun c => ?_)))
    · refine Evl.bind (Evl.some _) ?_
      have e1 : strOfNums [(((w[i].toNat : Int) + 97) % 256 - 65) % 256] = mkB [low8 w[i]] := by
        rw [← nums_str]
        congr 1
        rw [List.map_cons, List.map_nil, ln, if_pos (by omega)]
        congr 1
        omega
      rw [e1, append_mkB, size_mkB]
      exact Evl.pos (by simp; omega) ih
    · have e1 : low8 w[i] = w[i] := by
        unfold low8
        rw [if_neg (by omega)]
      have e2 : (mkB w).extract ((i : Int)).toNat (((i + 1 : Nat) : Int)).toNat = mkB [w[i]] := by
        have := ext_drop (l := w) (i := i) (u := [w[i]]) (t := w.drop (i + 1)) (by rw [List.drop_eq_getElem_cons hi]; rfl)
        simpa using this
      rw [e1] at ih
      rw [e2, append_mkB, size_mkB]
      exact Evl.pos (by omega) (Evl.pos (by omega) (Evl.pos (by simp; omega) ih))
end
theorem made_ev (l0 l1 l2 : List Int) (a b : Int) (h0 : l0.length < 4611686018427387904) : Evl (fun k => frisketlaw09_HyphenMade.f k l0 l1 l2 a b) true := by
  obtain ⟨r, hr, w, rfl, hw⟩ := word_made l0 h0
  simp only [frisketlaw09_HyphenMade.f]
  refine Evl.bind hr ?_
  exact made_l0 w hw l1 l2 a b w.length 0 [] (by omega) rfl (by rw [List.drop_zero]; rfl)
end Go.Proofs.YtegcelmjejhnfaaDoor.Make9
namespace Go.Proofs.YtegcelmjejhnfaaDoor.PureHyphenMade
open Go.RowKit Go.Proofs.YtegcelmjejhnfaaDoorR Go.Proofs.YtegcelmjejhnfaaDoor.QHy Go.Proofs.YtegcelmjejhnfaaDoorW.PrintWords Go.Proofs.YtegcelmjejhnfaaDoorW.PrintLast Go.Proofs.YtegcelmjejhnfaaDoor.Evl
theorem HyphenMade (x0_0 : List Int) (x0_1 : List Int) (x0_2 : List Int) (x0_3 : Int) (x0_4 : Int) (g0 : R36.good (x0_0, x0_1, x0_2, x0_3, x0_4)) : ∃ k, frisketlaw09_HyphenMade.f k x0_0 x0_1 x0_2 x0_3 x0_4 = some true := by
  have h : R22e.good x0_0 := g0.1
  have h2 : x0_0.length * 8 ≤ 140737488351232 := h.2.1
  exact Evl.out (Make9.made_ev x0_0 x0_1 x0_2 x0_3 x0_4 (by omega))
end Go.Proofs.YtegcelmjejhnfaaDoor.PureHyphenMade
