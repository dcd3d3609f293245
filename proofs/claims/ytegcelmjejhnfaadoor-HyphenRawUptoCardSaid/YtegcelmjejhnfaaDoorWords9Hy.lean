/- Words of letters and hyphens: what low, word, lower, Show and Exception compute, told of lists of bytes. -/
import Derived.Test.YtegcelmjejhnfaaDoorQHyx6
import Derived.Test.YtegcelmjejhnfaaDoorStr
namespace Go.Proofs.YtegcelmjejhnfaaDoor.Words9
open Go.RowKit Go.Proofs.YtegcelmjejhnfaaDoor.QHy Go.Proofs.YtegcelmjejhnfaaDoorW.PrintWords Go.Proofs.YtegcelmjejhnfaaDoorW.PrintLast Go.Proofs.YtegcelmjejhnfaaDoorW.PrintMore Go.Proofs.YtegcelmjejhnfaaDoorN Go.Proofs.YtegcelmjejhnfaaDoor.Evl Go.Proofs.YtegcelmjejhnfaaDoor.Str
set_option linter.unusedVariables false
def lt (c : UInt8) : Bool := isLow (lowI (c.toNat : Int))
def low8 (c : UInt8) : UInt8 := if 65 ≤ c.toNat ∧ c.toNat ≤ 90 then UInt8.ofNat (c.toNat + 32) else c
theorem low8_nat (c : UInt8) : ((low8 c).toNat : Int) = lowI (c.toNat : Int) := by
  unfold low8 lowI
  by_cases h : 65 ≤ c.toNat ∧ c.toNat ≤ 90
  · rw [if_pos h, if_pos (by omega), UInt8.toNat_ofNat']
    omega
  · rw [if_neg h, if_neg (by omega)]
theorem lt_iff (c : UInt8) : lt c = true ↔ (97 ≤ c.toNat ∧ c.toNat ≤ 122) ∨ (65 ≤ c.toNat ∧ c.toNat ≤ 90) := by
  unfold lt isLow lowI
  by_cases h : 65 ≤ (c.toNat : Int) ∧ (c.toNat : Int) ≤ 90
  · rw [if_pos h, decide_eq_true_iff]; omega
  · rw [if_neg h, decide_eq_true_iff]; omega
theorem lt_dash : lt 45 = false := by decide
theorem low_dash (c : UInt8) : (low8 c = 45) ↔ c = 45 := by
  constructor
  · intro h
    have e := low8_nat c
    rw [h] at e
    unfold lowI at e
    have e45 : (((45 : UInt8).toNat : Nat) : Int) = 45 := rfl
    rw [e45] at e
    split at e
    · omega
    · have : c.toNat = (45 : UInt8).toNat := by show c.toNat = 45; omega
      exact UInt8.toNat_inj.1 this
  · rintro rfl
    decide
theorem small_ev (c : UInt8) : frisketref09_small.f (c.toNat : Int) = some (decide (97 ≤ c.toNat ∧ c.toNat ≤ 122)) := by
  unfold frisketref09_small.f
  by_cases h : (c.toNat : Int) ≥ 97
  · rw [if_pos h]; congr 1; exact decide_eq_decide.2 (by omega)
  · rw [if_neg h]; congr 1; exact (decide_eq_false (by omega)).symm
theorem great_ev (c : UInt8) : frisketref09_great.f (c.toNat : Int) = some (decide (65 ≤ c.toNat ∧ c.toNat ≤ 90)) := by
  unfold frisketref09_great.f
  by_cases h : (c.toNat : Int) ≥ 65
  · rw [if_pos h]; congr 1; exact decide_eq_decide.2 (by omega)
  · rw [if_neg h]; congr 1; exact (decide_eq_false (by omega)).symm
theorem small_low (c : UInt8) : decide (97 ≤ (low8 c).toNat ∧ (low8 c).toNat ≤ 122) = lt c := by
  have e := low8_nat c
  unfold lt isLow
  exact decide_eq_decide.2 (by omega)
theorem low_eq (l : List UInt8) (hl : l.length < 2000000) : hyphen_low.f (mkB l) = some (if l.all lt = true then (mkB (l.map low8), decide (1 ≤ l.length ∧ l.length ≤ 60)) else (⟨#[]⟩, false)) := by
  unfold hyphen_low.f
  rw [if_pos (by rw [size_mkB]; omega), bytesOf_mkB, size_mkB, List.map_map]
  have e1 : (l.map (lowI ∘ fun b => (b.toNat : Int))) = (l.map low8).map fun b => (b.toNat : Int) := by
    rw [List.map_map]
    exact List.map_congr_left fun c _ => (low8_nat c).symm
  have e2 : ((l.map low8).map fun b => (b.toNat : Int)).all isLow = l.all lt := by
    rw [List.map_map, List.all_map]
    congr 1
    funext c
    show isLow ((low8 c).toNat : Int) = lt c
    rw [low8_nat]
    rfl
  rw [e1, e2, nums_str]
/-- A word. -/
def isW (l : List UInt8) : Bool := l.all lt && decide (1 ≤ l.length ∧ l.length ≤ 60)
theorem word_l (l : List UInt8) (hl : l.length < 2000000) : ∀ (m i : Nat), i + m = l.length → Evl (fun k => frisketref09_word.l0 k (mkB l) (i : Int)) ((l.drop i).all lt && decide (1 ≤ l.length ∧ l.length ≤ 60))
  | 0, i, h => by
    refine Evl.succ ?_
    simp only [frisketref09_word.l0, size_mkB]
    refine Evl.neg (by omega) ?_
    rw [List.drop_eq_nil_of_le (by omega), List.all_nil, Bool.true_and]
    refine Evl.ite (fun c => ?_) (fun c => ?_)
    · rw [show decide (1 ≤ l.length ∧ l.length ≤ 60) = decide ((l.length : Int) ≤ 60) from decide_eq_decide.2 (by omega)]
      exact Evl.some _
    · rw [show decide (1 ≤ l.length ∧ l.length ≤ 60) = false from decide_eq_false (by omega)]
      exact Evl.some _
  | m + 1, i, h => by
    have hi : i < l.length := by omega
    refine Evl.succ ?_
    simp only [frisketref09_word.l0, size_mkB, bt_mkB l i hi, small_ev, great_ev, Option.bind_some]
    refine Evl.pos (by omega) (Evl.pos (by omega) ?_)
    rw [wn (by omega), List.drop_eq_getElem_cons hi, List.all_cons]
    have ih := word_l l hl m (i + 1) (by omega)
    have hlt := lt_iff l[i]
    refine Evl.ite (fun c => ?_) (fun c => Evl.ite (fun c2 => ?_) (fun c2 => ?_))
    · rw [hlt.2 (Or.inl (of_decide_eq_true c)), Bool.true_and]; exact ih
    · rw [hlt.2 (Or.inr (of_decide_eq_true c2)), Bool.true_and]; exact ih
    · have : lt l[i] = false := by
        cases e : lt l[i] with
        | false => rfl
        | true =>
          rcases hlt.1 e with h1 | h1
          · exact absurd (decide_eq_true h1) c
          · exact absurd (decide_eq_true h1) c2
      rw [this, Bool.false_and, Bool.false_and]
      exact Evl.some _
theorem word_ev (l : List UInt8) (hl : l.length < 2000000) : Evl (fun k => frisketref09_word.f k (mkB l)) (isW l) := by
  simp only [frisketref09_word.f]
  exact word_l l hl l.length 0 (by omega)
theorem lower_l (l : List UInt8) (hl : l.length < 2000000) : ∀ (m i : Nat) (s : List UInt8), i + m = l.length → s.length = i → Evl (fun k => frisketref09_lower.l0 k (mkB l) (mkB s) (i : Int)) (mkB (s ++ (l.drop i).map low8))
  | 0, i, s, h, hs => by
    refine Evl.succ ?_
    simp only [frisketref09_lower.l0, size_mkB]
    refine Evl.neg (by omega) ?_
    rw [List.drop_eq_nil_of_le (by omega), List.map_nil, List.append_nil]
    exact Evl.some _
  | m + 1, i, s, h, hs => by
    have hi : i < l.length := by omega
    have ih := lower_l l hl m (i + 1) (s ++ [low8 l[i]]) (by omega) (by simp [hs])
    rw [List.append_assoc] at ih
    refine Evl.succ ?_
    simp only [frisketref09_lower.l0, size_mkB, bt_mkB l i hi, great_ev, Option.bind_some]
    refine Evl.pos (by omega) (Evl.pos (by omega) ?_)
    rw [wn (by omega), List.drop_eq_getElem_cons hi, List.map_cons]
    refine Evl.ite (fun c => ?_) (fun c => ?_)
    · have hc := of_decide_eq_true c
      have e : strOfNums [((((l[i].toNat : Int)) + 97) % 256 - 65) % 256] = mkB [low8 l[i]] := by
        rw [← nums_str, List.map_cons, List.map_nil, low8_nat]
        congr 2
        unfold lowI
        rw [if_pos (by omega)]
        omega
      rw [e, size_mkB, append_mkB]
      refine Evl.pos (by simp; omega) ?_
      exact ih
    · have e : low8 l[i] = l[i] := by
        unfold low8
        rw [if_neg (fun h => c (decide_eq_true h))]
      refine Evl.pos (by omega) (Evl.pos (by omega) ?_)
      have e2 : (mkB l).extract ((i : Int)).toNat (((i + 1 : Nat) : Int)).toNat = mkB [l[i]] := by
        have := ext_drop (l := l) (i := i) (u := [l[i]]) (t := l.drop (i + 1)) (by rw [List.drop_eq_getElem_cons hi]; rfl)
        simpa using this
      rw [e2, size_mkB, append_mkB]
      refine Evl.pos (by simp; omega) ?_
      rw [e] at ih
      rw [e]
      exact ih
theorem lower_ev (l : List UInt8) (hl : l.length < 2000000) : Evl (fun k => frisketref09_lower.f k (mkB l)) (mkB (l.map low8)) := by
  simp only [frisketref09_lower.f]
  exact lower_l l hl l.length 0 [] (by omega) rfl
/-! ### Show -/
/-- What Show makes of a text and places. -/
def showR (a : ByteArray) : List Int → ByteArray → Int → ByteArray × Int
  | [], s, fr => (s ++ a.extract fr.toNat a.size, 0)
  | p :: P, s, fr => if p ≤ fr ∨ p ≥ (a.size : Int) then (⟨#[]⟩, 1) else showR a P (s ++ (a.extract fr.toNat p.toNat ++ (⟨#[45]⟩ : ByteArray))) p
theorem ext_le (a : ByteArray) (x y : Nat) : (a.extract x y).size ≤ a.size := by
  rw [ByteArray.size_extract]
  omega
theorem hshow_l (a : ByteArray) (ha : a.size ≤ 900) (l : List Int) (hl : l.length ≤ 1000) : ∀ (m i : Nat) (s : ByteArray) (fr : Int), i + m = l.length → 0 ≤ fr → fr ≤ (a.size : Int) → s.size ≤ 1000 * i →
    Evl (fun k => hyphen_Show.l0 k a s fr l (l.length : Int) (i : Int)) (showR a (l.drop i) s fr)
  | 0, i, s, fr, h, h0, h1, h2 => by
    have := ext_le a fr.toNat a.size
    refine Evl.succ ?_
    simp only [hyphen_Show.l0]
    refine Evl.neg (by omega) (Evl.pos h0 (Evl.pos h1 (Evl.pos (by omega) ?_)))
    rw [List.drop_eq_nil_of_le (by omega), showR]
    exact Evl.some _
  | m + 1, i, s, fr, h, h0, h1, h2 => by
    have hd := drop_getD l i 0 (by omega)
    have hr : rd l (i : Int) = l.getD ((i : Int).toNat) 0 := rfl
    rw [← hr] at hd
    obtain ⟨p, hp⟩ : ∃ p, rd l (i : Int) = p := ⟨_, rfl⟩
    rw [hp] at hd
    refine Evl.succ ?_
    simp only [hyphen_Show.l0, hp]
    rw [hd, showR]
    refine Evl.pos (by omega) (Evl.pos (by omega) (Evl.pos (by omega) ?_))
    refine Evl.ite (fun c => ?_) (fun c => Evl.ite (fun c2 => ?_) (fun c2 => ?_))
    · rw [if_pos (Or.inl c)]; exact Evl.some _
    · rw [if_pos (Or.inr c2)]; exact Evl.some _
    · rw [if_neg (by omega), wn (by omega)]
      have e1 := ext_le a fr.toNat p.toNat
      have e2 : (a.extract fr.toNat p.toNat ++ (⟨#[45]⟩ : ByteArray)).size = (a.extract fr.toNat p.toNat).size + 1 := ByteArray.size_append
      refine Evl.pos h0 (Evl.pos (by omega) (Evl.pos (by omega) (Evl.pos (by omega) (Evl.pos (by rw [e2]; omega) ?_))))
      exact hshow_l a ha l hl m (i + 1) _ p (by omega) (by omega) (by omega) (by rw [ByteArray.size_append, e2]; omega)
theorem rshow_l (a : ByteArray) (ha : a.size ≤ 900) (l : List Int) (hl : l.length ≤ 1000) : ∀ (m i : Nat) (s : ByteArray) (fr : Int), i + m = l.length → 0 ≤ fr → fr ≤ (a.size : Int) → s.size ≤ 1000 * i →
    Evl (fun k => frisketref09_Show.l0 k a l s fr (i : Int)) (showR a (l.drop i) s fr)
  | 0, i, s, fr, h, h0, h1, h2 => by
    have := ext_le a fr.toNat a.size
    refine Evl.succ ?_
    simp only [frisketref09_Show.l0]
    refine Evl.neg (by omega) (Evl.pos h0 (Evl.pos h1 (Evl.pos (by omega) ?_)))
    rw [List.drop_eq_nil_of_le (by omega), showR]
    exact Evl.some _
  | m + 1, i, s, fr, h, h0, h1, h2 => by
    have hd := drop_getD l i 0 (by omega)
    have hr : rd l (i : Int) = l.getD ((i : Int).toNat) 0 := rfl
    rw [← hr] at hd
    obtain ⟨p, hp⟩ : ∃ p, rd l (i : Int) = p := ⟨_, rfl⟩
    rw [hp] at hd
    refine Evl.succ ?_
    simp only [frisketref09_Show.l0, hp]
    rw [hd, showR]
    refine Evl.pos (by omega) (Evl.pos (by omega) ?_)
    refine Evl.ite (fun c => ?_) (fun c => Evl.ite (fun c2 => ?_) (fun c2 => ?_))
    · rw [if_pos (Or.inl c)]; exact Evl.some _
    · rw [if_pos (Or.inr c2)]; exact Evl.some _
    · rw [if_neg (by omega), wn (by omega)]
      have e1 := ext_le a fr.toNat p.toNat
      have e2 : (a.extract fr.toNat p.toNat ++ (⟨#[45]⟩ : ByteArray)).size = (a.extract fr.toNat p.toNat).size + 1 := ByteArray.size_append
      refine Evl.pos h0 (Evl.pos (by omega) (Evl.pos (by omega) (Evl.pos (by omega) (Evl.pos (by rw [e2]; omega) ?_))))
      exact rshow_l a ha l hl m (i + 1) _ p (by omega) (by omega) (by omega) (by rw [ByteArray.size_append, e2]; omega)
def showF (w : List UInt8) (P : List Int) : ByteArray × Int := if isW w = true then showR (mkB w) P ⟨#[]⟩ 0 else (⟨#[]⟩, 1)
theorem hshow_ev (w : List UInt8) (hw : w.length ≤ 900) (P : List Int) (hP : P.length ≤ 1000) : Evl (fun k => hyphen_Show.f k (mkB w) P) (showF w P) := by
  simp only [hyphen_Show.f, low_eq w (by omega), Option.bind_some]
  unfold showF isW
  cases h : w.all lt
  · simp only [Bool.false_eq_true, if_false, Bool.false_and]
    exact Evl.some _
  · simp only [if_true, Bool.true_and]
    refine Evl.ite (fun c => ?_) (fun c => ?_)
    · rw [if_pos c]
      have := hshow_l (mkB w) (by rw [size_mkB]; omega) P hP P.length 0 ⟨#[]⟩ 0 (by omega) (by omega) (by omega) (Nat.zero_le _)
      rw [List.drop_zero] at this
      exact this
    · rw [if_neg c]
      exact Evl.some _
theorem rshow_ev (w : List UInt8) (hw : w.length ≤ 900) (P : List Int) (hP : P.length ≤ 1000) : Evl (fun k => frisketref09_Show.f k (mkB w) P) (showF w P) := by
  simp only [frisketref09_Show.f]
  refine Evl.bind (word_ev w (by omega)) ?_
  unfold showF
  refine Evl.ite (fun c => ?_) (fun c => ?_)
  · rw [if_pos c]
    have := rshow_l (mkB w) (by rw [size_mkB]; omega) P hP P.length 0 ⟨#[]⟩ 0 (by omega) (by omega) (by omega) (Nat.zero_le _)
    rw [List.drop_zero] at this
    exact this
  · rw [if_neg c]
    exact Evl.some _
end Go.Proofs.YtegcelmjejhnfaaDoor.Words9
