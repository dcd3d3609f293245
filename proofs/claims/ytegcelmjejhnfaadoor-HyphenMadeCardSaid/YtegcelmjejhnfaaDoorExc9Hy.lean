/- hyphen's exceptions are the document's; the points of a word that has exceptions. -/
import Derived.Test.YtegcelmjejhnfaaDoorRef9Hy
namespace Go.Proofs.YtegcelmjejhnfaaDoor.Exc9
open Go.RowKit Go.Proofs.YtegcelmjejhnfaaDoor.QHy Go.Proofs.YtegcelmjejhnfaaDoorW.PrintWords Go.Proofs.YtegcelmjejhnfaaDoorW.PrintLast Go.Proofs.YtegcelmjejhnfaaDoorW.PrintMore Go.Proofs.YtegcelmjejhnfaaDoorN Go.Proofs.YtegcelmjejhnfaaDoor.Evl Go.Proofs.YtegcelmjejhnfaaDoor.Str Go.Proofs.YtegcelmjejhnfaaDoor.Words9 Go.Proofs.YtegcelmjejhnfaaDoor.Read9 Go.Proofs.YtegcelmjejhnfaaDoor.Vals9 Go.Proofs.YtegcelmjejhnfaaDoor.Ref9
set_option linter.unusedVariables false
theorem E_eq : ∀ (l : List UInt8) (p : Bool), E p l = ((noD l).all sm && D p l)
  | [], p => rfl
  | c :: l, p => by
    rw [E, noD, D]
    by_cases h1 : 97 ≤ c.toNat ∧ c.toNat ≤ 122
    · have hne : c ≠ 45 := by rintro rfl; exact absurd h1 (by decide)
      rw [if_pos h1, if_neg hne, if_neg hne, List.all_cons, show sm c = true from decide_eq_true h1, Bool.true_and]
      exact E_eq l false
    · rw [if_neg h1]
      by_cases h2 : c = 45
      · rw [if_pos h2, if_pos h2, if_pos h2]
        cases p
        · simp only [Bool.false_eq_true, if_false]; exact E_eq l true
        · simp
      · rw [if_neg h2, if_neg h2, if_neg h2, List.all_cons, show sm c = false from decide_eq_false h1, Bool.false_and, Bool.false_and]
theorem pre_one (c : UInt8) (l : List UInt8) : [(45 : UInt8), 45].isPrefixOf (c :: l) = (c == 45 && [(45 : UInt8)].isPrefixOf l) := by
  show ((45 : UInt8) == c && [(45 : UInt8)].isPrefixOf l) = _
  congr 1
  exact Bool.eq_iff_iff.2 ⟨fun h => beq_iff_eq.2 (beq_iff_eq.1 h).symm, fun h => beq_iff_eq.2 (beq_iff_eq.1 h).symm⟩
theorem contains_cons (c : UInt8) (l sub : List UInt8) : Lib.contains (c :: l) sub = (sub.isPrefixOf (c :: l) || Lib.contains l sub) := by
  have hg := Lib.index_ge l sub
  unfold Lib.contains
  rw [Lib.index]
  cases h : sub.isPrefixOf (c :: l)
  · simp only [Bool.false_eq_true, if_false, Bool.false_or]
    by_cases h2 : Lib.index l sub = -1
    · rw [if_pos (beq_iff_eq.2 h2), h2]
    · rw [if_neg (fun e => h2 (beq_iff_eq.1 e))]
      exact decide_eq_decide.2 (by omega)
  · simp
/-- Does a list end in a hyphen? -/
def lastD : List UInt8 → Bool
  | [] => false
  | [c] => c == 45
  | _ :: l => lastD l
def headD : List UInt8 → Bool
  | [] => false
  | c :: _ => c == 45
theorem lastD_cons (c d : UInt8) (l : List UInt8) : lastD (c :: d :: l) = lastD (d :: l) := rfl
theorem pre_head (l : List UInt8) : [(45 : UInt8)].isPrefixOf l = headD l := by
  cases l with
  | nil => rfl
  | cons c l =>
    show ((45 : UInt8) == c && [].isPrefixOf l) = (c == 45)
    rw [show ([] : List UInt8).isPrefixOf l = true from rfl, Bool.and_true]
    exact Bool.eq_iff_iff.2 ⟨fun h => beq_iff_eq.2 (beq_iff_eq.1 h).symm, fun h => beq_iff_eq.2 (beq_iff_eq.1 h).symm⟩
theorem D_true (l : List UInt8) : D true l = (!l.isEmpty && !headD l && D false l) := by
  cases l with
  | nil => rfl
  | cons c l =>
    rw [D, D]
    by_cases h : c = 45
    · rw [if_pos h, if_pos h]
      simp [headD, h]
    · rw [if_neg h, if_neg h]
      simp [headD, h]
theorem D_false : ∀ l : List UInt8, D false l = (!lastD l && !Lib.contains l [45, 45])
  | [] => by decide
  | [c] => by
    rw [D, contains_cons, pre_one]
    by_cases h : c = 45
    · rw [if_pos h]; subst h; decide
    · rw [if_neg h]
      have h2 : (c == 45) = false := beq_eq_false_iff_ne.2 h
      rw [show lastD [c] = (c == 45) from rfl, h2]
      decide
  | c :: d :: l => by
    have ih := D_false (d :: l)
    rw [D, contains_cons, pre_one, lastD_cons, pre_head]
    by_cases h : c = 45
    · rw [if_pos h, if_neg (by simp), D_true, ih]
      subst h
      show (!false && !(d == 45) && _) = _
      rw [show ((45 : UInt8) == 45) = true from rfl, Bool.true_and, show headD (d :: l) = (d == 45) from rfl]
      cases (d == 45) <;> simp
    · rw [if_neg h, ih]
      have h2 : (c == 45) = false := beq_eq_false_iff_ne.2 h
      rw [h2, Bool.false_and, Bool.false_or]
theorem noD_nil_len {l : List UInt8} (h : 1 ≤ (noD l).length) : l ≠ [] := by rintro rfl; simp [noD] at h
theorem map_low_eq (l : List UInt8) (h : l.all lt = true) : (l.map low8 = l) ↔ l.all sm = true := by
  induction l with
  | nil => simp
  | cons c l ih =>
    rw [List.all_cons, Bool.and_eq_true] at h
    rw [List.map_cons, List.all_cons, Bool.and_eq_true, List.cons.injEq, ih h.2]
    have h1 := (lt_iff c).1 h.1
    refine and_congr_left fun _ => ?_
    unfold low8 sm
    constructor
    · intro e
      by_cases h2 : 65 ≤ c.toNat ∧ c.toNat ≤ 90
      · rw [if_pos h2] at e
        have := congrArg UInt8.toNat e
        rw [UInt8.toNat_ofNat'] at this
        omega
      · exact decide_eq_true (by omega)
    · intro e
      have := of_decide_eq_true e
      rw [if_neg (by omega)]
theorem sm_lt (l : List UInt8) (h : l.all sm = true) : l.all lt = true := List.all_eq_true.2 fun c hc => by
  have := of_decide_eq_true (List.all_eq_true.1 h c hc)
  exact (lt_iff c).2 (Or.inl this)
end Go.Proofs.YtegcelmjejhnfaaDoor.Exc9
