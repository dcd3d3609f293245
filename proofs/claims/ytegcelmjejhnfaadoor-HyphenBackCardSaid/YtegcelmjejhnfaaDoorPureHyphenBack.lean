/- Read of Show is the word with its points. -/
import Derived.Test.YtegcelmjejhnfaaDoorMade9Hy
namespace Go.Proofs.YtegcelmjejhnfaaDoor.Back9
open Go.RowKit Go.Proofs.YtegcelmjejhnfaaDoor.QHy Go.Proofs.YtegcelmjejhnfaaDoorW.PrintWords Go.Proofs.YtegcelmjejhnfaaDoorW.PrintLast Go.Proofs.YtegcelmjejhnfaaDoorW.PrintMore Go.Proofs.YtegcelmjejhnfaaDoorN Go.Proofs.YtegcelmjejhnfaaDoor.Evl Go.Proofs.YtegcelmjejhnfaaDoor.Str Go.Proofs.YtegcelmjejhnfaaDoor.Words9 Go.Proofs.YtegcelmjejhnfaaDoor.Read9 Go.Proofs.YtegcelmjejhnfaaDoor.Vals9 Go.Proofs.YtegcelmjejhnfaaDoor.Made9
set_option linter.unusedVariables false
/-- Places that climb, behind fr and ahead of n. -/
def Climb (n : Nat) : Nat → List Int → Prop
  | _, [] => True
  | fr, p :: P => (fr : Int) < p ∧ p < (n : Int) ∧ Climb n p.toNat P
def wv (W : List UInt8) : List Int → Nat → List UInt8
  | [], fr => W.drop fr
  | p :: P, fr => (W.take p.toNat).drop fr ++ 45 :: wv W P p.toNat
theorem wv_len (W : List UInt8) : ∀ (P : List Int) (fr : Nat), Climb W.length fr P → fr ≤ W.length → (wv W P fr).length = W.length - fr + P.length
  | [], fr, h, hf => by simp [wv]
  | p :: P, fr, h, hf => by
    obtain ⟨h1, h2, h3⟩ := h
    have := wv_len W P p.toNat h3 (by omega)
    rw [wv, List.length_append, List.length_cons, this, List.length_drop, List.length_take, List.length_cons]
    omega
theorem show_wv (W : List UInt8) : ∀ (P : List Int) (fr : Nat) (acc : List UInt8), Climb W.length fr P → fr ≤ W.length → showR (mkB W) P (mkB acc) (fr : Int) = (mkB (acc ++ wv W P fr), 0)
  | [], fr, acc, h, hf => by
    rw [showR, wv, Int.toNat_natCast, rest_drop rfl, append_mkB]
  | p :: P, fr, acc, h, hf => by
    obtain ⟨h1, h2, h3⟩ := h
    rw [showR, wv, if_neg (by rw [size_mkB]; omega), Int.toNat_natCast, extract_mkB, dash_one, append_mkB, append_mkB]
    have := show_wv W P p.toNat (acc ++ ((W.take p.toNat).drop fr ++ [45])) h3 (by omega)
    rw [show ((p.toNat : Nat) : Int) = p by omega] at this
    rw [this]
    congr 2
    simp
theorem noD_app (a b : List UInt8) : noD (a ++ b) = noD a ++ noD b := by
  induction a with
  | nil => rfl
  | cons c a ih =>
    rw [List.cons_append, noD, noD, ih]
    split <;> rfl
theorem noD_id {a : List UInt8} (h : ∀ c ∈ a, c ≠ 45) : noD a = a := by
  induction a with
  | nil => rfl
  | cons c a ih => rw [noD, if_neg (h c (by simp)), ih (fun d hd => h d (by simp [hd]))]
theorem pts_app : ∀ (a b : List UInt8) (n : Int), (∀ c ∈ a, c ≠ 45) → pts (a ++ b) n = pts b (n + a.length)
  | [], b, n, h => by simp
  | c :: a, b, n, h => by
    rw [List.cons_append, pts, if_neg (h c (by simp)), pts_app a b (n + 1) (fun d hd => h d (by simp [hd])), List.length_cons]
    congr 1
    omega
theorem D_app : ∀ (a b : List UInt8) (p : Bool), (∀ c ∈ a, c ≠ 45) → a ≠ [] → D p (a ++ b) = D false b
  | [], b, p, h, hne => absurd rfl hne
  | [c], b, p, h, hne => by
    show D p (c :: b) = _
    rw [D, if_neg (h c (by simp))]
  | c :: d :: a, b, p, h, hne => by
    rw [List.cons_append, D, if_neg (h c (by simp))]
    exact D_app (d :: a) b false (fun e he => h e (by simp [he])) (by simp)
section
variable (W : List UInt8) (hW : ∀ c ∈ W, c ≠ 45)
include hW in
theorem part_ne {i j : Nat} : ∀ c ∈ (W.take j).drop i, c ≠ 45 := fun c hc => hW c (List.mem_of_mem_take (List.mem_of_mem_drop hc))
include hW in
theorem noD_wv : ∀ (P : List Int) (fr : Nat), Climb W.length fr P → fr ≤ W.length → noD (wv W P fr) = W.drop fr
  | [], fr, h, hf => noD_id fun c hc => hW c (List.mem_of_mem_drop hc)
  | p :: P, fr, h, hf => by
    obtain ⟨h1, h2, h3⟩ := h
    have ih := noD_wv P p.toNat h3 (by omega)
    rw [wv, noD_app, noD_id (part_ne W hW), noD, if_pos rfl, ih]
    conv => rhs; rw [← List.take_append_drop p.toNat W]
    rw [List.drop_append_of_le_length (by rw [List.length_take]; omega)]
include hW in
theorem pts_wv : ∀ (P : List Int) (fr : Nat), Climb W.length fr P → fr ≤ W.length → pts (wv W P fr) (fr : Int) = P
  | [], fr, h, hf => by
    have := pts_app (W.drop fr) [] (fr : Int) (fun c hc => hW c (List.mem_of_mem_drop hc))
    rw [List.append_nil] at this
    rw [wv, this]
    rfl
  | p :: P, fr, h, hf => by
    obtain ⟨h1, h2, h3⟩ := h
    have ih := pts_wv P p.toNat h3 (by omega)
    have e : (fr : Int) + ((W.take p.toNat).drop fr).length = p := by rw [List.length_drop, List.length_take]; omega
    rw [wv, pts_app _ _ _ (part_ne W hW), e, pts, if_pos rfl]
    rw [show ((p.toNat : Nat) : Int) = p by omega] at ih
    rw [ih]
include hW in
theorem D_wv : ∀ (P : List Int) (fr : Nat) (b : Bool), Climb W.length fr P → fr < W.length → D b (wv W P fr) = true
  | [], fr, b, h, hf => by
    have := D_app (W.drop fr) [] b (fun c hc => hW c (List.mem_of_mem_drop hc)) (by
      intro e
      have := congrArg List.length e
      rw [List.length_drop, List.length_nil] at this
      omega)
    rw [List.append_nil] at this
    rw [wv, this]
    rfl
  | p :: P, fr, b, h, hf => by
    obtain ⟨h1, h2, h3⟩ := h
    have ih := D_wv P p.toNat true h3 (by omega)
    rw [wv, D_app _ _ _ (part_ne W hW) (by
      intro e
      have := congrArg List.length e
      rw [List.length_drop, List.length_take, List.length_nil] at this
      omega), D, if_pos rfl, if_neg (by simp), ih]
end
theorem climb_sel (all : List Int) (n : Nat) : ∀ (m i fr : Nat), fr < i → i + m ≤ n → Climb n fr (sel all m i)
  | 0, i, fr, h, hn => trivial
  | m + 1, i, fr, h, hn => by
    rw [sel]
    split
    · exact ⟨by omega, by omega, by rw [Int.toNat_natCast]; exact climb_sel all n m (i + 1) i (by omega) (by omega)⟩
    · exact climb_sel all n m (i + 1) fr (by omega) (by omega)
theorem lt_ne {w : List UInt8} (h : w.all lt = true) : ∀ c ∈ w, c ≠ 45 := by
  rintro c hc rfl
  have := List.all_eq_true.1 h 45 hc
  rw [lt_dash] at this
  cases this
theorem isW_all {w : List UInt8} (h : isW w = true) : w.all lt = true := by unfold isW at h; simp only [Bool.and_eq_true] at h; exact h.1
theorem back_ev (l0 l1 : List Int) (h0 : l0.length < 4611686018427387904) (h1 : l1.length < 4611686018427387904) : Evl (fun k => frisketlaw09_HyphenBack.f k l0 l1) true := by
  obtain ⟨r, hr, w, rfl, hw⟩ := word_made l0 h0
  obtain ⟨r2, hr2, P, rfl, hP, hok, hsh⟩ := patterns_made l1
  have h60 := isW_len hw
  have hne := isW_ne hw
  have hpos : 0 < w.length := List.length_pos_iff.2 hne
  obtain ⟨Q, hQ⟩ : ∃ Q, sel (vOf9 (w.map low8) (P.map pair)) (w.length + 1 - 1 - 1) 1 = Q := ⟨_, rfl⟩
  have hcl : Climb w.length 0 Q := by rw [← hQ]; exact climb_sel _ _ _ _ _ (by omega) (by omega)
  have hql : Q.length ≤ 60 := by
    have := sel_len (vOf9 (w.map low8) (P.map pair)) (w.length + 1 - 1 - 1) 1
    rw [hQ] at this
    omega
  have hp := points_ev w hw P (by omega) (pats_small hsh) hok 1 1 (by omega) (by omega)
  rw [hQ] at hp
  have hs := hshow_ev w (by omega) Q (by omega)
  unfold showF at hs
  rw [if_pos hw] at hs
  have hsw := show_wv w Q 0 [] hcl (by omega)
  rw [List.nil_append] at hsw
  rw [show showR (mkB w) Q ⟨#[]⟩ 0 = (mkB (wv w Q 0), 0) from hsw] at hs
  have hwl := wv_len w Q 0 hcl (by omega)
  have hre := hread_ev (wv w Q 0) (by omega)
  have hne45 := lt_ne (isW_all hw)
  have e1 : noD (wv w Q 0) = w := noD_wv w hne45 Q 0 hcl (by omega)
  have e2 : pts (wv w Q 0) 0 = Q := pts_wv w hne45 Q 0 hcl (by omega)
  have e3 : D true (wv w Q 0) = true := D_wv w hne45 Q 0 true hcl hpos
  have hrr : readR (wv w Q 0) = (mkB w, Q, 0) := by
    unfold readR
    rw [e1, e2, e3, hw]
    rfl
  rw [hrr] at hre
  simp only [frisketlaw09_HyphenBack.f]
  refine Evl.bind hr (Evl.bind hr2 (Evl.bind hp (Evl.bind hs (Evl.bind hre (Evl.pos rfl (Evl.pos rfl (Evl.pos rfl (Evl.pos rfl (Evl.bind (num_ev Q (by omega)) (Evl.pos rfl (Evl.bind sane_ev (Evl.some _))))))))))))
end Go.Proofs.YtegcelmjejhnfaaDoor.Back9
namespace Go.Proofs.YtegcelmjejhnfaaDoor.Pure
open Go.RowKit Go.Proofs.YtegcelmjejhnfaaDoor.QHy Go.Proofs.YtegcelmjejhnfaaDoorW.PrintWords Go.Proofs.YtegcelmjejhnfaaDoorW.PrintLast Go.Proofs.YtegcelmjejhnfaaDoor.Evl
theorem HyphenBack : frisketlaw09_HyphenBack.Pure := by
  intro l0 l1 _ h0 _ _ h1 _
  exact Evl.out (Back9.back_ev l0 l1 (by omega) (by omega))
end Go.Proofs.YtegcelmjejhnfaaDoor.Pure
