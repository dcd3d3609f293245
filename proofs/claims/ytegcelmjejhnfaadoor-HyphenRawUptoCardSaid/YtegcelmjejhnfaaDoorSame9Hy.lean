/- The points and values of any word, with any patterns and exceptions, are the document's. -/
import Derived.Test.YtegcelmjejhnfaaDoorRef9Hy
import Derived.Test.YtegcelmjejhnfaaDoorQHyx13
/- hyphen's exceptions are the document's; the points of a word that has exceptions. -/
namespace Go.Proofs.YtegcelmjejhnfaaDoor.Exc9
open Go.RowKit Go.Proofs.YtegcelmjejhnfaaDoor.QHy Go.Proofs.YtegcelmjejhnfaaDoorW.PrintWords Go.Proofs.YtegcelmjejhnfaaDoorW.PrintLast Go.Proofs.YtegcelmjejhnfaaDoorW.PrintMore Go.Proofs.YtegcelmjejhnfaaDoorN Go.Proofs.YtegcelmjejhnfaaDoor.Evl Go.Proofs.YtegcelmjejhnfaaDoor.Str Go.Proofs.YtegcelmjejhnfaaDoor.Words9 Go.Proofs.YtegcelmjejhnfaaDoor.Read9 Go.Proofs.YtegcelmjejhnfaaDoor.Vals9 Go.Proofs.YtegcelmjejhnfaaDoor.Ref9
set_option linter.unusedVariables false
theorem E_eq : ∀ (l : List UInt8) (p : Bool), E p l = ((noD l).all sm && D p l)
  | [], p => rfl
  | c :: l, p => by
    rw [E, noD, D]
    by_cases h1 : 97 ≤ c.toNat ∧ c.toNat ≤ 122
    · have hne : c ≠ 45 := by rintro rfl; exact absurd h1 (by decide)
      rw [if_pos h1, if_neg hne, if_neg hne, List.all_cons, show sm c = true from decide_eq_true h1, Bool.true_and]
      exact E_eq l false
    · rw [if_neg h1]
      by_cases h2 : c = 45
      · rw [if_pos h2, if_pos h2, if_pos h2]
        cases p
        · simp only [Bool.false_eq_true, if_false]; exact E_eq l true
        · simp
      · rw [if_neg h2, if_neg h2, if_neg h2, List.all_cons, show sm c = false from decide_eq_false h1, Bool.false_and, Bool.false_and]
theorem pre_one (c : UInt8) (l : List UInt8) : [(45 : UInt8), 45].isPrefixOf (c :: l) = (c == 45 && [(45 : UInt8)].isPrefixOf l) := by
  show ((45 : UInt8) == c && [(45 : UInt8)].isPrefixOf l) = _
  congr 1
  exact Bool.eq_iff_iff.2 ⟨fun h => beq_iff_eq.2 (beq_iff_eq.1 h).symm, fun h => beq_iff_eq.2 (beq_iff_eq.1 h).symm⟩
theorem contains_cons (c : UInt8) (l sub : List UInt8) : Lib.contains (c :: l) sub = (sub.isPrefixOf (c :: l) || Lib.contains l sub) := by
  have hg := Lib.index_ge l sub
  unfold Lib.contains
  rw [Lib.index]
  cases h : sub.isPrefixOf (c :: l)
  · simp only [Bool.false_eq_true, if_false, Bool.false_or]
    by_cases h2 : Lib.index l sub = -1
    · rw [if_pos (beq_iff_eq.2 h2), h2]
    · rw [if_neg (fun e => h2 (beq_iff_eq.1 e))]
      exact decide_eq_decide.2 (by omega)
  · simp
/-- Does a list end in a hyphen? -/
def lastD : List UInt8 → Bool
  | [] => false
  | [c] => c == 45
  | _ :: l => lastD l
def headD : List UInt8 → Bool
  | [] => false
  | c :: _ => c == 45
theorem lastD_cons (c d : UInt8) (l : List UInt8) : lastD (c :: d :: l) = lastD (d :: l) := rfl
theorem pre_head (l : List UInt8) : [(45 : UInt8)].isPrefixOf l = headD l := by
  cases l with
  | nil => rfl
  | cons c l =>
    show ((45 : UInt8) == c && [].isPrefixOf l) = (c == 45)
    rw [show ([] : List UInt8).isPrefixOf l = true from rfl, Bool.and_true]
    exact Bool.eq_iff_iff.2 ⟨fun h => beq_iff_eq.2 (beq_iff_eq.1 h).symm, fun h => beq_iff_eq.2 (beq_iff_eq.1 h).symm⟩
theorem D_true (l : List UInt8) : D true l = (!l.isEmpty && !headD l && D false l) := by
  cases l with
  | nil => rfl
  | cons c l =>
    rw [D, D]
    by_cases h : c = 45
    · rw [if_pos h, if_pos h]
      simp [headD, h]
    · rw [if_neg h, if_neg h]
      simp [headD, h]
theorem D_false : ∀ l : List UInt8, D false l = (!lastD l && !Lib.contains l [45, 45])
  | [] => by decide
  | [c] => by
    rw [D, contains_cons, pre_one]
    by_cases h : c = 45
    · rw [if_pos h]; subst h; decide
    · rw [if_neg h]
      have h2 : (c == 45) = false := beq_eq_false_iff_ne.2 h
      rw [show lastD [c] = (c == 45) from rfl, h2]
      decide
  | c :: d :: l => by
    have ih := D_false (d :: l)
    rw [D, contains_cons, pre_one, lastD_cons, pre_head]
    by_cases h : c = 45
    · rw [if_pos h, if_neg (by simp), D_true, ih]
      subst h
      show (!false && !(d == 45) && _) = _
      rw [show ((45 : UInt8) == 45) = true from rfl, Bool.true_and, show headD (d :: l) = (d == 45) from rfl]
      cases (d == 45) <;> simp
    · rw [if_neg h, ih]
      have h2 : (c == 45) = false := beq_eq_false_iff_ne.2 h
      rw [h2, Bool.false_and, Bool.false_or]
theorem noD_nil_len {l : List UInt8} (h : 1 ≤ (noD l).length) : l ≠ [] := by rintro rfl; simp [noD] at h
theorem map_low_eq (l : List UInt8) (h : l.all lt = true) : (l.map low8 = l) ↔ l.all sm = true := by
  induction l with
  | nil => simp
  | cons c l ih =>
    rw [List.all_cons, Bool.and_eq_true] at h
    rw [List.map_cons, List.all_cons, Bool.and_eq_true, List.cons.injEq, ih h.2]
    have h1 := (lt_iff c).1 h.1
    refine and_congr_left fun _ => ?_
    unfold low8 sm
    constructor
    · intro e
      by_cases h2 : 65 ≤ c.toNat ∧ c.toNat ≤ 90
      · rw [if_pos h2] at e
        have := congrArg UInt8.toNat e
        rw [UInt8.toNat_ofNat'] at this
        omega
      · exact decide_eq_true (by omega)
    · intro e
      have := of_decide_eq_true e
      rw [if_neg (by omega)]
theorem sm_lt (l : List UInt8) (h : l.all sm = true) : l.all lt = true := List.all_eq_true.2 fun c hc => by
  have := of_decide_eq_true (List.all_eq_true.1 h c hc)
  exact (lt_iff c).2 (Or.inl this)
end Go.Proofs.YtegcelmjejhnfaaDoor.Exc9

namespace Go.Proofs.YtegcelmjejhnfaaDoor.Same9
open Go.RowKit Go.Proofs.YtegcelmjejhnfaaDoor.QHy Go.Proofs.YtegcelmjejhnfaaDoorW.PrintWords Go.Proofs.YtegcelmjejhnfaaDoorW.PrintLast Go.Proofs.YtegcelmjejhnfaaDoorW.PrintMore Go.Proofs.YtegcelmjejhnfaaDoorN Go.Proofs.YtegcelmjejhnfaaDoor.Evl Go.Proofs.YtegcelmjejhnfaaDoor.Str Go.Proofs.YtegcelmjejhnfaaDoor.Words9 Go.Proofs.YtegcelmjejhnfaaDoor.Read9 Go.Proofs.YtegcelmjejhnfaaDoor.Vals9 Go.Proofs.YtegcelmjejhnfaaDoor.Ref9 Go.Proofs.YtegcelmjejhnfaaDoor.Exc9
set_option linter.unusedVariables false
/-! ### exceptions -/
theorem hasPre (x : List UInt8) : QHe.strings_HasPrefix.f (mkB x) (⟨#[45]⟩ : ByteArray) = some (headD x) := by
  rw [dash_one]
  unfold QHe.strings_HasPrefix.f QHe.stringslite_HasPrefix.f
  rw [size_mkB, size_mkB]
  cases x with
  | nil => rw [if_neg (by simp)]; rfl
  | cons c l =>
    rw [if_pos (by simp; omega), if_pos (by simp), if_pos (by simp; omega), extract_mkB, toList_mkB, toList_mkB]
    show some ([c] == [45]) = some (c == 45)
    congr 1
    exact Bool.eq_iff_iff.2 (by simp)
theorem last_drop : ∀ (l : List UInt8), l ≠ [] → (l.drop (l.length - 1) == [45]) = lastD l
  | [], h => absurd rfl h
  | [c], _ => by
    show ([c] == [45]) = (c == 45)
    exact Bool.eq_iff_iff.2 (by simp)
  | c :: d :: l, _ => by
    have ih := last_drop (d :: l) (by simp)
    rw [lastD_cons, ← ih]
    rw [show (c :: d :: l).length - 1 = ((d :: l).length - 1) + 1 by simp, List.drop_succ_cons]
theorem hasSuf (x : List UInt8) (hx : x.length < 2000000) : QHe.strings_HasSuffix.f (mkB x) (⟨#[45]⟩ : ByteArray) = some (lastD x) := by
  rw [dash_one]
  unfold QHe.strings_HasSuffix.f QHe.stringslite_HasSuffix.f
  rw [size_mkB, size_mkB]
  by_cases hn : x = []
  · subst hn
    rw [if_neg (by simp)]; rfl
  · have hl : 0 < x.length := List.length_pos_iff.2 hn
    rw [show ([45] : List UInt8).length = 1 from rfl, w64 (x := (x.length : Int) - ((1 : Nat) : Int)) (by omega) (by omega), if_pos (by omega), if_pos (by omega), if_pos (by omega), extract_mkB, toList_mkB, toList_mkB, List.take_length,
      show ((x.length : Int) - ((1 : Nat) : Int)).toNat = x.length - 1 by omega, last_drop x hn]
    rfl
theorem replD (x : List UInt8) (hx : x.length < 2000000) : strings_ReplaceAll.f (mkB x) (⟨#[45]⟩ : ByteArray) (⟨#[]⟩ : ByteArray) = some (mkB (noD x)) := by
  unfold strings_ReplaceAll.f
  show (if (mkB x).size < 10000000 ∧ (0 : Nat) < 10000 ∧ ([] : List UInt8) ≠ [45] then some _ else none) = _
  rw [if_pos ⟨by rw [size_mkB]; omega, by decide, by decide⟩, ← noD_rep, data_mkB]
  rfl
theorem exc_h (x : List UInt8) (hx : x.length < 2000000) : hyphen_Exception.f (mkB x) = some (okX x) := by
  have hr : QHe.strings_ReplaceAll.f (mkB x) (⟨#[45]⟩ : ByteArray) (⟨#[]⟩ : ByteArray) = some (mkB (noD x)) := replD x hx
  have hn := noD_len x
  have hlow : QHe.hyphen_low.f (mkB (noD x)) = _ := low_eq (noD x) (by omega)
  have hc : QHe.strings_Contains.f (mkB x) (⟨#[45, 45]⟩ : ByteArray) = some (Lib.contains x [45, 45]) := by
    show strings_Contains.f _ _ = _
    unfold strings_Contains.f
    rw [if_pos (by rw [size_mkB]; omega), data_mkB]
  have hp := hasPre x
  have hs := hasSuf x hx
  show QHe.hyphen_Exception.f _ = _
  unfold QHe.hyphen_Exception.f
  simp only [hr, hlow, hc, hp, hs, Option.bind_some]
  unfold okX
  rw [E_eq, D_true, D_false]
  by_cases hall : (noD x).all lt = true
  · rw [if_pos hall]
    simp only
    by_cases hd : 1 ≤ (noD x).length ∧ (noD x).length ≤ 60
    · have hne : x.isEmpty = false := by
        cases x with
        | nil => simp [noD] at hd
        | cons => rfl
      rw [decide_eq_true hd, if_pos rfl, toList_mkB, toList_mkB, hne]
      by_cases hm : (noD x).map low8 = noD x
      · rw [if_pos hm, (map_low_eq _ hall).1 hm]
        cases headD x <;> cases lastD x <;> cases Lib.contains x [45, 45] <;> rfl
      · have : (noD x).all sm = false := Bool.eq_false_iff.2 fun h => hm ((map_low_eq _ hall).2 h)
        rw [if_neg hm, this]
        rfl
    · rw [decide_eq_false hd, if_neg (by simp), Bool.and_false]
  · have : (noD x).all sm = false := Bool.eq_false_iff.2 fun h => hall (sm_lt _ h)
    rw [if_neg hall, this]
    rfl
theorem noExc_eq (x : List UInt8) (hx : x.length < 2000000) : QHe.hyphen_Points_1.f (mkB x) = some (!okX x) := by
  have h : QHe.hyphen_Exception.f (mkB x) = some (okX x) := exc_h x hx
  unfold QHe.hyphen_Points_1.f
  rw [h]
  rfl
theorem any_no (X : List (List UInt8)) (hX : X.length ≤ 2000) (hB : Brief X) : slices_ContainsFunc_string_string.f (X.map mkB) () = some (!X.all okX) := by
  have h1 : (X.map mkB).all (fun s => (QHe.hyphen_Points_1.f s).isSome) = true := by
    rw [List.all_map]
    refine List.all_eq_true.2 fun x hx => ?_
    show (QHe.hyphen_Points_1.f (mkB x)).isSome = true
    rw [noExc_eq x (hB x hx)]
    rfl
  have h2 : ∀ Y : List (List UInt8), Brief Y → (Y.map mkB).any noExc = !Y.all okX := by
    intro Y
    induction Y with
    | nil => intro _; rfl
    | cons y Y ih =>
      intro hY
      have e : noExc (mkB y) = !okX y := by
        unfold noExc
        rw [noExc_eq y (hY y (List.mem_cons_self ..))]
        cases okX y <;> rfl
      rw [List.map_cons, List.any_cons, List.all_cons, ih (fun z hz => hY z (List.mem_cons_of_mem _ hz)), e, Bool.not_and]
  unfold slices_ContainsFunc_string_string.f
  rw [if_pos ⟨by rw [List.length_map]; omega, h1⟩, h2 X hB]
/-! ### the marks of an exception -/
def mark : List Int → List UInt8 → Nat → List Int
  | all, [], _ => all
  | all, c :: l, n => if c = 45 then mark (all.set n 1) l n else mark all l (n + 1)
theorem mark_len : ∀ (l : List UInt8) (all : List Int) (n : Nat), (mark all l n).length = all.length
  | [], all, n => rfl
  | c :: l, all, n => by
    rw [mark]
    split
    · rw [mark_len l, List.length_set]
    · rw [mark_len l]
theorem rd_set (all : List Int) (n j : Nat) (v : Int) (hn : n < all.length) : rd (all.set n v) (j : Int) = if j = n then v else rd all (j : Int) := by
  unfold rd
  rw [Int.toNat_natCast, List.getD_eq_getElem?_getD, List.getD_eq_getElem?_getD, List.getElem?_set]
  by_cases h : n = j
  · rw [if_pos h, if_pos hn, if_pos h.symm]; rfl
  · rw [if_neg h, if_neg (fun e => h e.symm)]
theorem mark_lt : ∀ (l : List UInt8) (all : List Int) (n j : Nat), n + (noD l).length < all.length → j < n → rd (mark all l n) (j : Int) = rd all (j : Int)
  | [], all, n, j, _, _ => rfl
  | c :: l, all, n, j, hl, hj => by
    rw [noD] at hl
    rw [mark]
    split
    · rename_i h
      rw [if_pos h] at hl
      rw [mark_lt l _ n j (by rw [List.length_set]; omega) hj, rd_set _ _ _ _ (by omega), if_neg (by omega)]
    · rename_i h
      rw [if_neg h, List.length_cons] at hl
      exact mark_lt l all (n + 1) j (by omega) (by omega)
theorem mark_one : ∀ (l : List UInt8) (all : List Int) (n j : Nat), n + (noD l).length < all.length → rd all (j : Int) = 1 → rd (mark all l n) (j : Int) = 1
  | [], all, n, j, _, h1 => h1
  | c :: l, all, n, j, hl, h1 => by
    rw [noD] at hl
    rw [mark]
    split
    · rename_i h
      rw [if_pos h] at hl
      refine mark_one l _ n j (by rw [List.length_set]; omega) ?_
      rw [rd_set _ _ _ _ (by omega)]
      split
      · rfl
      · exact h1
    · rename_i h
      rw [if_neg h, List.length_cons] at hl
      exact mark_one l all (n + 1) j (by omega) h1
theorem sel_mark : ∀ (l : List UInt8) (p : Bool) (n : Nat) (V : List Int), V.length = n + (noD l).length + 1 → (∀ j : Nat, n < j → rd V (j : Int) = 0) → (p = false → rd V (n : Int) = 0) → D p l = true →
    sel (mark V l n) (n + (noD l).length - (if p = true then n + 1 else n)) (if p = true then n + 1 else n) = pts l (n : Int)
  | [], p, n, V, hV, h0, hp, hD => by
    rw [D] at hD
    have : p = false := by simpa using hD
    subst this
    simp only [noD, List.length_nil, Bool.false_eq_true, if_false, Nat.add_zero, Nat.sub_self]
    rfl
  | c :: l, p, n, V, hV, h0, hp, hD => by
    rw [D] at hD
    rw [noD] at hV ⊢
    rw [mark, pts]
    by_cases h : c = 45
    · rw [if_pos h] at hD hV
      rw [if_pos h, if_pos h, if_pos h]
      cases p with
      | true => simp at hD
      | false =>
        simp only [Bool.false_eq_true, if_false] at hD ⊢
        have hne : noD l ≠ [] := fun e => by rw [D_none l e] at hD; cases hD
        have hpos : 0 < (noD l).length := List.length_pos_iff.2 hne
        have ih := sel_mark l true n (V.set n 1) (by rw [List.length_set]; omega) (fun j hj => by
          rw [rd_set _ _ _ _ (by omega), if_neg (by omega)]
          exact h0 j hj) nofun hD
        simp only [if_true] at ih
        rw [show n + (noD l).length - n = (n + (noD l).length - (n + 1)) + 1 by omega, sel, if_pos, ih]
        rw [mark_one l _ n n (by rw [List.length_set]; omega) (by rw [rd_set _ _ _ _ (by omega), if_pos rfl])]
        rfl
    · rw [if_neg h] at hD hV
      rw [if_neg h, if_neg h, if_neg h]
      rw [List.length_cons] at hV ⊢
      have ih := sel_mark l false (n + 1) V (by omega) (fun j hj => h0 j (by omega)) (fun _ => h0 (n + 1) (by omega)) hD
      simp only [Bool.false_eq_true, if_false] at ih
      rw [show n + 1 + (noD l).length - (n + 1) = n + ((noD l).length + 1) - (n + 1) by omega, Int.natCast_add, Int.natCast_one] at ih
      cases p with
      | true => simp only [if_true]; exact ih
      | false =>
        simp only [Bool.false_eq_true, if_false]
        rw [show n + ((noD l).length + 1) - n = (n + ((noD l).length + 1) - (n + 1)) + 1 by omega, sel, if_neg]
        · exact ih
        · rw [mark_lt l V (n + 1) n (by omega) (by omega), hp rfl]
          decide
theorem rd_zeros (n j : Nat) : rd (List.replicate n 0) (j : Int) = 0 := by
  unfold rd
  rw [Int.toNat_natCast, List.getD_eq_getElem?_getD, List.getElem?_replicate]
  split <;> rfl
theorem sel_pts (x W : List UInt8) (hD : D true x = true) (hW : noD x = W) : sel (mark (List.replicate (W.length + 1) 0) x 0) (W.length - 1) 1 = pts x 0 := by
  subst hW
  have := sel_mark x true 0 (List.replicate ((noD x).length + 1) 0) (by rw [List.length_replicate]; omega) (fun j _ => rd_zeros _ _) (fun h => by cases h) hD
  simp only [if_true, Nat.zero_add] at this
  exact this
/-- The values that the last exception that is the word puts in the place of the patterns'. -/
def foundV (W : List UInt8) : List (List UInt8) → List Int → List Int
  | [], V => V
  | x :: X, V => foundV W X (if noD x = W then mark (List.replicate (W.length + 1) 0) x 0 else V)
theorem foundV_len (W : List UInt8) : ∀ (X : List (List UInt8)) (V : List Int), V.length = W.length + 1 → (foundV W X V).length = W.length + 1
  | [], V, h => h
  | x :: X, V, h => by
    rw [foundV]
    refine foundV_len W X _ ?_
    split
    · rw [mark_len, List.length_replicate]
    · exact h
theorem sel_found (W : List UInt8) : ∀ (X : List (List UInt8)) (V : List Int), X.all okX = true → sel (foundV W X V) (W.length - 1) 1 = found W X (sel V (W.length - 1) 1)
  | [], V, _ => rfl
  | x :: X, V, h => by
    rw [List.all_cons, Bool.and_eq_true] at h
    rw [foundV, found, sel_found W X _ h.2]
    by_cases c : noD x = W
    · rw [if_pos c, if_pos c]
      have hok := h.1
      unfold okX at hok
      rw [Bool.and_eq_true, E_eq, Bool.and_eq_true] at hok
      rw [sel_pts x W hok.1.2 c]
    · rw [if_neg c, if_neg c]
/-! ### hyphen.Points with exceptions -/
section
variable (W : List UInt8) (hW : W.length ≤ 60) (X : List (List UInt8)) (hX : X.length ≤ 2000) (hB : Brief X) (a b : Int)
include hW in
theorem hp_l1 (x : List UInt8) (hx : x.length < 2000000) (hn : noD x = W) (Z : List ByteArray) (zn z : Int) {G : List Int × Int} : ∀ (m i n : Nat) (all : List Int), i + m = x.length → n + (noD (x.drop i)).length = W.length → all.length = W.length + 1 →
    Evl (fun k => hyphen_Points.l0 k a b (mkB W) (mark all (x.drop i) n) Z zn (wrap64 (z + 1))) G →
    Evl (fun k => hyphen_Points.l1 k a b (mkB W) all (mkB x) (n : Int) Z zn z (x.length : Int) (i : Int)) G
  | 0, i, n, all, e, hl, ha, h => by
    refine Evl.succ ?_
    simp only [hyphen_Points.l1, size_mkB]
    rw [List.drop_eq_nil_of_le (by omega), mark] at h
    exact Evl.neg (by omega) h
  | m + 1, i, n, all, e, hl, ha, h => by
    have hi : i < x.length := by omega
    refine Evl.succ ?_
    simp only [hyphen_Points.l1, size_mkB, bt_mkB x i hi]
    rw [List.drop_eq_getElem_cons hi, mark] at h
    rw [List.drop_eq_getElem_cons hi, noD] at hl
    rw [wn (i := i) (by omega), wn (i := n) (by omega), Int.toNat_natCast]
    have hb : ((x[i].toNat : Int) = 45) ↔ x[i] = 45 := b_eq (n := 45) (by decide)
    refine Evl.pos (by omega) (Evl.pos (by omega) (Evl.pos (by omega) (Evl.ite (fun c => ?_) (fun c => ?_))))
    · rw [if_pos (hb.1 c)] at h hl
      refine Evl.pos (by omega) (Evl.pos (by omega) ?_)
      exact hp_l1 x hx hn Z zn z m (i + 1) n _ (by omega) hl (by rw [List.length_set]; exact ha) h
    · rw [if_neg (fun e => c (hb.2 e))] at h hl
      rw [List.length_cons] at hl
      exact hp_l1 x hx hn Z zn z m (i + 1) (n + 1) _ (by omega) (by omega) ha h
include hW hX hB in
theorem hp_l0 {G : List Int × Int} : ∀ (m i : Nat) (V : List Int), i + m = X.length → V.length = W.length + 1 →
    Evl (fun k => hyphen_Points.l2 k b (mkB W) (foundV W (X.drop i) V) [] a) G →
    Evl (fun k => hyphen_Points.l0 k a b (mkB W) V (X.map mkB) (X.length : Int) (i : Int)) G
  | 0, i, V, e, hV, h => by
    refine Evl.succ ?_
    simp only [hyphen_Points.l0]
    rw [List.drop_eq_nil_of_le (by omega), foundV] at h
    exact Evl.neg (by omega) h
  | m + 1, i, V, e, hV, h => by
    have hi : i < X.length := by omega
    have hx := hB _ (List.getElem_mem hi)
    rw [List.drop_eq_getElem_cons hi, foundV] at h
    refine Evl.succ ?_
    simp only [hyphen_Points.l0, List.length_map, rdOf_map X i hi, replD _ hx, Option.bind_some, toList_mkB, size_mkB]
    refine Evl.pos (by omega) (Evl.pos (by omega) (Evl.pos (by omega) (Evl.ite (fun c => ?_) (fun c => ?_))))
    · rw [if_pos c] at h
      rw [w64 (x := (W.length : Int) + 1) (by omega) (by omega), show ((W.length : Int) + 1).toNat = W.length + 1 by omega]
      refine Evl.pos (by omega) (Evl.pos (by omega) ?_)
      refine hp_l1 W hW a b X[i] hx c (X.map mkB) (X.length : Int) (i : Int) X[i].length 0 0 _ (by omega) (by rw [List.drop_zero, c]; omega) (by rw [List.length_replicate]) ?_
      rw [wn (i := i) (by omega), List.drop_zero]
      exact hp_l0 m (i + 1) _ (by omega) (by rw [mark_len, List.length_replicate]) h
    · rw [if_neg c] at h
      rw [wn (i := i) (by omega)]
      exact hp_l0 m (i + 1) V (by omega) hV h
end
/-! ### the answers, told once for both -/
open Classical in
noncomputable def PT (w : List UInt8) (P X : List (List UInt8)) (a b : Int) : List Int × Int :=
  if P.all okP = true then (if X.all okX = true then (if isW w = true ∧ (1 ≤ a ∧ a ≤ 10) ∧ (1 ≤ b ∧ b ≤ 10) then (sel (foundV (w.map low8) X (vOf9 (w.map low8) (P.map pair))) (w.length + 1 - b.toNat - a.toNat) a.toNat, 0) else ([], 1)) else ([], 4)) else ([], 4)
noncomputable def VT (w : List UInt8) (P : List (List UInt8)) : List Int × Int :=
  if P.all okP = true then (if isW w = true then (vOf9 (w.map low8) (P.map pair), 0) else ([], 1)) else ([], 4)
theorem low_no (w : List UInt8) (hw : w.length < 2000000) (h : ¬ isW w = true) : ∃ t, hyphen_low.f (mkB w) = some (t, false) := by
  rw [low_eq w hw]
  unfold isW at h
  by_cases c : w.all lt = true
  · rw [if_pos c]
    rw [c, Bool.true_and] at h
    exact ⟨_, by rw [decide_eq_false (fun e => h (decide_eq_true e))]⟩
  · rw [if_neg c]
    exact ⟨_, rfl⟩
theorem low_yes (w : List UInt8) (h : isW w = true) : hyphen_low.f (mkB w) = some (mkB (w.map low8), true) := by
  have h60 := isW_len h
  rw [low_eq w (by omega)]
  unfold isW at h
  rw [Bool.and_eq_true] at h
  rw [if_pos h.1, h.2]
theorem fit_all {P : List (List UInt8)} (hS : Small P) (hok : P.all okP = true) : ∀ p ∈ P.map pair, Fit p := by
  intro p hp
  obtain ⟨s, hs, rfl⟩ := List.mem_map.1 hp
  exact pair_fit (hS s hs) (List.all_eq_true.1 hok s hs)
theorem hpoints_ev (w : List UInt8) (hw : w.length < 2000000) (P X : List (List UInt8)) (hP : P.length ≤ 2000) (hS : Small P) (hX : X.length ≤ 2000) (hB : Brief X) (a b : Int) :
    Evl (fun k => hyphen_Points.f k (mkB w) (P.map mkB) (X.map mkB) a b) (PT w P X a b) := by
  have hpe := parsed_ev P hS
  rw [if_pos hP] at hpe
  unfold PT
  simp only [hyphen_Points.f, List.length_map]
  refine Evl.neg (by omega) (Evl.bind hpe ?_)
  by_cases hok : P.all okP = true
  · rw [if_pos hok, if_pos hok]
    refine Evl.pos rfl ?_
    simp only [any_no X hX hB, Option.bind_some]
    refine Evl.succ ?_
    simp only [hyphen_Points.j0]
    by_cases hox : X.all okX = true
    · rw [hox, if_pos rfl]
      refine Evl.neg (by simp) (Evl.succ ?_)
      simp only [hyphen_Points.j1]
      refine Evl.pos trivial ?_
      by_cases hww : isW w = true
      · have h60 := isW_len hww
        have hlen : (w.map low8).length = w.length := List.length_map ..
        simp only [low_yes w hww, Option.bind_some]
        refine Evl.pos trivial (Evl.ite (fun c => ?_) (fun c => ?_))
        · rw [if_neg (fun e => by unfold mn at c; split at c <;> omega)]
          refine Evl.succ ?_
          simp only [hyphen_Points.j2]
          exact Evl.pos trivial (Evl.some _)
        · refine Evl.succ ?_
          simp only [hyphen_Points.j2]
          refine Evl.ite (fun c2 => ?_) (fun c2 => ?_)
          · have c3 := of_decide_eq_true c2
            rw [if_neg (fun e => by unfold mx at c3; split at c3 <;> omega)]
            exact Evl.some _
          · have c3 : ¬ mx a b > 10 := fun e => c2 (decide_eq_true e)
            have hab : (1 ≤ a ∧ a ≤ 10) ∧ (1 ≤ b ∧ b ≤ 10) := by
              unfold mn at c
              unfold mx at c3
              split at c <;> split at c3 <;> omega
            rw [if_pos ⟨hww, hab⟩, map_pat]
            refine Evl.bind (values_ev (w.map low8) (by omega) (P.map pair) (by rw [List.length_map]; omega) (fit_all hS hok)) ?_
            have h := points_l2 (w.map low8) b.toNat (foundV (w.map low8) X (vOf9 (w.map low8) (P.map pair))) (by omega) (by omega) (foundV_len _ _ _ (vOf9_len _ _)) (w.length + 1 - b.toNat - a.toNat) a.toNat [] (by omega) (by simp) (by omega)
            rw [show ((b.toNat : Nat) : Int) = b by omega, show ((a.toNat : Nat) : Int) = a by omega, List.nil_append] at h
            have g := hp_l0 (w.map low8) (by omega) X hX hB a b X.length 0 (vOf9 (w.map low8) (P.map pair)) (by omega) (vOf9_len _ _) (by rw [List.drop_zero]; exact h)
            rw [List.length_map]
            exact g
      · obtain ⟨t, ht⟩ := low_no w hw hww
        simp only [ht, Option.bind_some]
        rw [if_neg (fun e => hww e.1)]
        refine Evl.neg (by simp) (Evl.succ ?_)
        simp only [hyphen_Points.j2]
        exact Evl.pos trivial (Evl.some _)
    · rw [if_neg hox]
      have : X.all okX = false := Bool.eq_false_iff.2 hox
      rw [this]
      refine Evl.pos rfl (Evl.succ ?_)
      simp only [hyphen_Points.j1]
      exact Evl.neg (by decide) (Evl.some _)
  · rw [if_neg hok, if_neg hok]
    refine Evl.neg (by decide) (Evl.succ ?_)
    simp only [hyphen_Points.j0]
    refine Evl.neg (by simp) (Evl.succ ?_)
    simp only [hyphen_Points.j1]
    exact Evl.neg (by decide) (Evl.some _)
theorem rpoints_all (w : List UInt8) (hw : w.length < 2000000) (P X : List (List UInt8)) (hP : P.length ≤ 2000) (hS : Small P) (hX : X.length ≤ 2000) (hB : Brief X) (a b : Int) :
    Evl (fun k => frisketref09_Points.f k (mkB w) (P.map mkB) (X.map mkB) a b) (PT w P X a b) := by
  unfold PT
  by_cases hok : P.all okP = true
  · by_cases hox : X.all okX = true
    · rw [if_pos hok, if_pos hox]
      by_cases hg : isW w = true ∧ (1 ≤ a ∧ a ≤ 10) ∧ (1 ≤ b ∧ b ≤ 10)
      · obtain ⟨hww, ha, hb⟩ := hg
        rw [if_pos ⟨hww, ha, hb⟩]
        have h := rpoints_ev w hww P X hP hS hok hX hB hox a.toNat b.toNat (by omega) (by omega)
        have hpos : 0 < w.length := List.length_pos_iff.2 (isW_ne hww)
        have hlen : (w.map low8).length = w.length := List.length_map ..
        have hf := sel_found (w.map low8) X (vOf9 (w.map low8) (P.map pair)) hox
        rw [hlen] at hf
        rw [← hf, filt_sel _ w.length a.toNat b.toNat (by omega) (by omega) (w.length - 1) 1 (by omega), show max 1 a.toNat = a.toNat by omega, show ((b.toNat : Nat) : Int) = b by omega, show ((a.toNat : Nat) : Int) = a by omega] at h
        exact h
      · rw [if_neg hg]
        have hc := check_ev P X hP hS hX hB
        rw [if_pos hok, if_pos hox] at hc
        simp only [frisketref09_Points.f]
        refine Evl.bind hc (Evl.pos rfl (Evl.bind (word_ev w hw) ?_))
        have jt : Evl (fun k => frisketref09_Points.j0 k (mkB w) (P.map mkB) (X.map mkB) a b true) (([] : List Int), (1 : Int)) := by
          refine Evl.succ ?_
          simp only [frisketref09_Points.j0]
          exact Evl.pos trivial (Evl.some _)
        refine Evl.ite (fun c => Evl.ite (fun _ => jt) (fun c1 => Evl.ite (fun _ => jt) (fun c2 => Evl.ite (fun _ => jt) (fun c3 => ?_)))) (fun _ => jt)
        rw [decide_eq_true (show b > 10 from Int.not_le.1 fun e => hg ⟨c, by omega, by omega⟩)]
        exact jt
    · rw [if_pos hok, if_neg hox]
      have hc := check_ev P X hP hS hX hB
      rw [if_pos hok, if_neg hox] at hc
      simp only [frisketref09_Points.f]
      exact Evl.bind hc (Evl.neg (by decide) (Evl.some _))
  · rw [if_neg hok]
    have hc := check_ev P X hP hS hX hB
    rw [if_neg hok] at hc
    simp only [frisketref09_Points.f]
    exact Evl.bind hc (Evl.neg (by decide) (Evl.some _))
theorem hvals_all (w : List UInt8) (hw : w.length < 2000000) (P : List (List UInt8)) (hP : P.length ≤ 2000) (hS : Small P) : Evl (fun k => hyphen_Values.f k (mkB w) (P.map mkB)) (VT w P) := by
  have hpe := parsed_ev P hS
  rw [if_pos hP] at hpe
  unfold VT
  simp only [hyphen_Values.f]
  refine Evl.bind hpe ?_
  by_cases hok : P.all okP = true
  · rw [if_pos hok, if_pos hok]
    refine Evl.pos rfl ?_
    by_cases hww : isW w = true
    · have h60 := isW_len hww
      have hlen : (w.map low8).length = w.length := List.length_map ..
      simp only [low_yes w hww, Option.bind_some]
      rw [if_pos hww, map_pat]
      exact Evl.pos trivial (Evl.bind (values_ev (w.map low8) (by omega) (P.map pair) (by rw [List.length_map]; omega) (fit_all hS hok)) (Evl.some _))
    · obtain ⟨t, ht⟩ := low_no w hw hww
      simp only [ht, Option.bind_some]
      rw [if_neg hww]
      exact Evl.neg (by simp) (Evl.some _)
  · rw [if_neg hok, if_neg hok]
    exact Evl.neg (by decide) (Evl.some _)
theorem rvals_all (w : List UInt8) (hw : w.length < 2000000) (P : List (List UInt8)) (hP : P.length ≤ 2000) (hS : Small P) : Evl (fun k => frisketref09_Values.f k (mkB w) (P.map mkB)) (VT w P) := by
  unfold VT
  by_cases hok : P.all okP = true
  · rw [if_pos hok]
    by_cases hww : isW w = true
    · rw [if_pos hww]
      exact rvals_ev w hww P hP hS hok
    · rw [if_neg hww]
      have hc := check_ev P [] hP hS (by simp) (fun _ h => by cases h)
      rw [if_pos hok, if_pos (show ([] : List (List UInt8)).all okX = true from rfl)] at hc
      simp only [frisketref09_Values.f]
      exact Evl.bind hc (Evl.pos rfl (Evl.bind (word_ev w hw) (Evl.neg hww (Evl.some _))))
  · rw [if_neg hok]
    have hc := check_ev P [] hP hS (by simp) (fun _ h => by cases h)
    rw [if_neg hok] at hc
    simp only [frisketref09_Values.f]
    exact Evl.bind hc (Evl.neg (by decide) (Evl.some _))
theorem same_all (w : List UInt8) (hw : w.length < 2000000) (P X : List (List UInt8)) (hP : P.length ≤ 2000) (hS : Small P) (hX : X.length ≤ 2000) (hB : Brief X) (a b : Int) :
    Evl (fun k => frisketlaw09_same.f k (mkB w) (P.map mkB) (X.map mkB) a b) true := by
  have lp : (PT w P X a b).1.length < 1000 := by
    unfold PT
    split
    · split
      · split
        · rename_i h
          have h60 := isW_len h.1
          have := sel_len (foundV (w.map low8) X (vOf9 (w.map low8) (P.map pair))) (w.length + 1 - b.toNat - a.toNat) a.toNat
          show (sel _ _ _).length < _
          omega
        · simp
      · simp
    · simp
  have lv : (VT w P).1.length < 1000 := by
    unfold VT
    split
    · split
      · rename_i h
        have h60 := isW_len h
        have hlen : (w.map low8).length = w.length := List.length_map ..
        have := vOf9_len (w.map low8) (P.map pair)
        show (vOf9 _ _).length < _
        omega
      · simp
    · simp
  simp only [frisketlaw09_same.f]
  refine Evl.bind (hpoints_ev w hw P X hP hS hX hB a b) (Evl.bind (rpoints_all w hw P X hP hS hX hB a b) (Evl.pos rfl (Evl.bind (num_ev _ lp) (Evl.succ ?_))))
  simp only [frisketlaw09_same.j0]
  exact Evl.neg (by simp) (Evl.bind (hvals_all w hw P hP hS) (Evl.bind (rvals_all w hw P hP hS) (Evl.pos rfl (Evl.bind (num_ev _ lv) (Evl.some _)))))
end Go.Proofs.YtegcelmjejhnfaaDoor.Same9
