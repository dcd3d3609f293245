/- The standard patterns are the document's, and words are broken by them alike. -/
import Derived.Test.YtegcelmjejhnfaaDoorQHyx14
import Derived.Test.YtegcelmjejhnfaaDoorMade9Hy
import Derived.Test.YtegcelmjejhnfaaDoorRef9Hy
namespace Go.Proofs.YtegcelmjejhnfaaDoor.Std9
open Go.RowKit Go.Proofs.YtegcelmjejhnfaaDoor.QHy Go.Proofs.YtegcelmjejhnfaaDoorW.PrintWords Go.Proofs.YtegcelmjejhnfaaDoorW.PrintLast Go.Proofs.YtegcelmjejhnfaaDoorW.PrintMore Go.Proofs.YtegcelmjejhnfaaDoorN Go.Proofs.YtegcelmjejhnfaaDoor.Evl Go.Proofs.YtegcelmjejhnfaaDoor.Str Go.Proofs.YtegcelmjejhnfaaDoor.Words9 Go.Proofs.YtegcelmjejhnfaaDoor.Read9 Go.Proofs.YtegcelmjejhnfaaDoor.Vals9 Go.Proofs.YtegcelmjejhnfaaDoor.Made9 Go.Proofs.YtegcelmjejhnfaaDoor.Ref9
set_option linter.unusedVariables false
def std : List (List UInt8) := [[49, 98, 97], [49, 98, 101], [49, 98, 105], [49, 98, 111], [49, 98, 117], [49, 99, 97], [49, 99, 101], [49, 99, 105], [49, 99, 111], [49, 99, 117], [49, 100, 97], [49, 100, 101], [49, 100, 105], [49, 100, 111], [49, 100, 117], [49, 102, 97], [49, 102, 101], [49, 102, 105], [49, 102, 111], [49, 102, 117], [49, 103, 97], [49, 103, 101], [49, 103, 105], [49, 103, 111], [49, 103, 117], [49, 108, 97], [49, 108, 101], [49, 108, 105], [49, 108, 111], [49, 108, 117], [49, 109, 97], [49, 109, 101], [49, 109, 105], [49, 109, 111], [49, 109, 117], [49, 110, 97], [49, 110, 101], [49, 110, 105], [49, 110, 111], [49, 110, 117], [49, 112, 97], [49, 112, 101], [49, 112, 105], [49, 112, 111], [49, 112, 117], [49, 114, 97], [49, 114, 101], [49, 114, 105], [49, 114, 111], [49, 114, 117], [49, 115, 97], [49, 115, 101], [49, 115, 105], [49, 115, 111], [49, 115, 117], [49, 116, 97], [49, 116, 101], [49, 116, 105], [49, 116, 111], [49, 116, 117], [49, 118, 97], [49, 118, 101], [49, 118, 105], [49, 118, 111], [110, 49, 100], [110, 49, 116], [114, 49, 116], [108, 49, 116], [115, 49, 116, 50], [50, 101, 100, 46], [50, 101, 115, 46], [46, 117, 110, 49], [46, 114, 101, 49], [116, 50, 105, 111], [52, 108, 101, 46], [50, 103, 104, 116], [49, 116, 105, 111, 110]]
set_option maxRecDepth 100000 in
theorem std_h : hyphen_Standard.f = some (std.map mkB) := by kernel_rfl
set_option maxRecDepth 100000 in
theorem std_r0 : frisketref09_Standard.f 200 = some (std.map mkB) := by kernel_rfl
set_option maxRecDepth 100000 in
theorem std_ok : std.all okP = true := by decide +kernel
theorem std_len : std.length ≤ 2000 := by decide +kernel
theorem std_small : Small std := by
  have h : std.all (fun s => decide (s.length < 8796093022208)) = true := by decide +kernel
  exact fun s hs => of_decide_eq_true (List.all_eq_true.1 h s hs)
theorem std_r : Evl (fun k => frisketref09_Standard.f k) (std.map mkB) := by
  have h : ∀ n, frisketref09_Standard.f (200 + n) = some (std.map mkB) := by
    intro n
    induction n with
    | zero => exact std_r0
    | succ n ih => exact frisketref09_Standard.mono (200 + n) _ ih
  refine ⟨200, fun k hk => ?_⟩
  have := h (k - 200)
  rw [show 200 + (k - 200) = k by omega] at this
  exact this
theorem texts_l (l : List ByteArray) (hl : l.length < 100000) : ∀ (m i : Nat), i + m = l.length → Evl (fun k => frisketlaw09_texts.l0 k l l (i : Int)) true
  | 0, i, h => by
    refine Evl.succ ?_
    simp only [frisketlaw09_texts.l0]
    exact Evl.neg (by omega) (Evl.some _)
  | m + 1, i, h => by
    refine Evl.succ ?_
    simp only [frisketlaw09_texts.l0]
    rw [wn (by omega)]
    exact Evl.pos (by omega) (Evl.pos (by omega) (Evl.pos (by omega) (Evl.pos trivial (texts_l l hl m (i + 1) (by omega)))))
theorem texts_ev (l : List ByteArray) (hl : l.length < 100000) : Evl (fun k => frisketlaw09_texts.f k l l) true := by
  simp only [frisketlaw09_texts.f]
  exact Evl.pos trivial (texts_l l hl l.length 0 (by omega))
theorem same_ev (w : List UInt8) (hw : isW w = true) (P : List (List UInt8)) (hP : P.length ≤ 2000) (hS : Small P) (hok : P.all okP = true) (a b : Nat) (ha : 1 ≤ a ∧ a ≤ 10) (hb : 1 ≤ b ∧ b ≤ 10) :
    Evl (fun k => frisketlaw09_same.f k (mkB w) (P.map mkB) [] (a : Int) (b : Int)) true := by
  have h60 := isW_len hw
  have hpos : 0 < w.length := List.length_pos_iff.2 (isW_ne hw)
  have h1 := points_ev w hw P hP hS hok a b ha hb
  have h2 := rpoints_ev w hw P [] hP hS hok (by simp) (fun _ h => by cases h) rfl a b ha hb
  rw [found, filt_sel _ w.length a b ha.1 hb.1 (w.length - 1) 1 (by omega), show max 1 a = a by omega] at h2
  have h3 := vals_ev w hw P hP hS hok hyphen_Values.f (fun _ _ _ => rfl)
  have h4 := rvals_ev w hw P hP hS hok
  have hl := sel_len (vOf9 (w.map low8) (P.map pair)) (w.length + 1 - b - a) a
  have hv := vOf9_len (w.map low8) (P.map pair)
  have hlen : (w.map low8).length = w.length := List.length_map ..
  simp only [frisketlaw09_same.f]
  refine Evl.bind h1 (Evl.bind h2 (Evl.pos rfl (Evl.bind (num_ev _ (by show (sel (vOf9 (w.map low8) (P.map pair)) (w.length + 1 - b - a) a).length < 1000; omega)) (Evl.succ ?_))))
  simp only [frisketlaw09_same.j0]
  exact Evl.neg (by simp) (Evl.bind h3 (Evl.bind h4 (Evl.pos rfl (Evl.bind (num_ev _ (by show (vOf9 (w.map low8) (P.map pair)).length < 1000; omega)) (Evl.some _)))))
theorem mod_name (a : Int) (n : Nat) (hn : 0 < n ∧ n < 100) : ∃ x : Nat, 1 ≤ x ∧ x ≤ n ∧ wrap64 (1 + wrap64 (Int.tmod (IntKind.u64.wrap a) (n : Int))) = (x : Int) := by
  have h := tm_range (Made9.u64_range a).1 (n : Int) (by omega)
  refine ⟨(1 + Int.tmod (IntKind.u64.wrap a) (n : Int)).toNat, by omega, by omega, ?_⟩
  rw [w64 (x := Int.tmod (IntKind.u64.wrap a) (n : Int)) (by omega) (by omega), w64 (by omega) (by omega)]
  omega
theorem standard_ev (l0 : List Int) (a b : Int) (h0 : l0.length < 4611686018427387904) : Evl (fun k => frisketlaw09_HyphenStandard.f k l0 a b) true := by
  obtain ⟨r, hr, w, rfl, hw⟩ := word_made l0 h0
  obtain ⟨x, hx1, hx2, ex⟩ := mod_name a 10 (by omega)
  obtain ⟨y, hy1, hy2, ey⟩ := mod_name b 10 (by omega)
  have ex' : wrap64 (1 + wrap64 ((IntKind.u64.wrap a).tmod 10)) = (x : Int) := ex
  have ey' : wrap64 (1 + wrap64 ((IntKind.u64.wrap b).tmod 10)) = (y : Int) := ey
  simp only [frisketlaw09_HyphenStandard.f, std_h, Option.bind_some]
  rw [ex', ey']
  refine Evl.bind std_r (Evl.bind (texts_ev _ (by rw [List.length_map]; have := std_len; omega)) (Evl.pos rfl (Evl.bind hr (Evl.bind (same_ev w hw std std_len std_small std_ok x y ⟨hx1, hx2⟩ ⟨hy1, hy2⟩) (Evl.pos rfl (Evl.bind sane_ev (Evl.some _)))))))
end Go.Proofs.YtegcelmjejhnfaaDoor.Std9
namespace Go.Proofs.YtegcelmjejhnfaaDoor.Pure
open Go.RowKit Go.Proofs.YtegcelmjejhnfaaDoor.QHy Go.Proofs.YtegcelmjejhnfaaDoorW.PrintWords Go.Proofs.YtegcelmjejhnfaaDoorW.PrintLast Go.Proofs.YtegcelmjejhnfaaDoor.Evl
theorem HyphenStandard : frisketlaw09_HyphenStandard.Pure := by
  intro l0 a b _ h0 _ _ _
  exact Evl.out (Std9.standard_ev l0 a b (by omega))
end Go.Proofs.YtegcelmjejhnfaaDoor.Pure
