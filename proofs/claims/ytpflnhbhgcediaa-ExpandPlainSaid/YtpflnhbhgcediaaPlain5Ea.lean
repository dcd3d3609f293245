/- What is said of plain texts, where nobody answers. -/
import Derived.Test.YtpflnhbhgcediaaEx4Ea
namespace Go.Proofs.Ytpflnhbhgcediaa.Ex4
open Go.Proofs.Ytpflnhbhgcediaa.Str Go.Proofs.Ytpflnhbhgcediaa.Esc4 Go.Proofs.Ytpflnhbhgcediaa.Plain4
set_option linter.unusedVariables false
set_option linter.unusedSimpArgs false
def nobody (_ : As) : List UInt8 := []
theorem cut_len {s p q : List UInt8} (h : cutB 92 s = some (p, q)) : s.length = p.length + (q.length + 1) := by
  have h1 := congrArg List.length (cut_eq h).1
  rw [List.length_append, List.length_cons] at h1
  exact h1
theorem widF (r : List UInt8) : widC false r = wid r := rfl
theorem inN_in3 (d : UInt8) : (in3 d || (d == 119 && !false)) = inN d := by
  unfold in3 inN
  rw [Bool.not_false, Bool.and_true]
/-- All is well: few questions, no more text than there was. -/
theorem ex_fits : ∀ (n : Nat) (out s : List UInt8) (A : List As), need A s < n → 3 * A.length + out.length + s.length ≤ 1000 → ∃ o A', ex false nobody n out s A = .ok o A' ∧ 3 * A'.length + o.length ≤ 3 * A.length + out.length + s.length := by
  intro n
  induction n with
  | zero => intro out s A h _; exact absurd h (Nat.not_lt_zero _)
  | succ n ih =>
    intro out s A hn hb
    cases hc : cutB 92 s with
    | none => exact ⟨out ++ s, A, ex_none hc, by rw [List.length_append]; omega⟩
    | some pq =>
      obtain ⟨p, q⟩ := pq
      have hl := cut_len hc
      cases he : esc (92 :: q) with
      | some e =>
        have h3 := esc_ok he
        rw [List.length_cons] at h3
        have ho : aOut e (nobody (askE e)) (out ++ p) = out ++ p := by unfold aOut nobody; split <;> simp
        have hr : aRest e (nobody (askE e)) (92 :: q) = (92 :: q).drop e.size := by unfold aRest nobody; split <;> simp
        rw [ex_esc hc he (by omega), ho, hr, room_ok (by rw [List.length_append, List.length_drop, List.length_cons]; omega)]
        obtain ⟨o, A', h1, h2⟩ := ih (out ++ p) ((92 :: q).drop e.size) (A ++ [askE e]) (by
          have h4 := need_less (A := A) (A1 := A ++ [askE e]) (s := s) (s1 := (92 :: q).drop e.size) (by omega) (by rw [List.length_append, List.length_cons, List.length_nil]; omega) (by rw [List.length_drop, List.length_cons]; omega)
          omega) (by rw [List.length_append, List.length_append, List.length_drop, List.length_cons, List.length_cons, List.length_nil]; omega)
        refine ⟨o, A', h1, ?_⟩
        rw [List.length_append, List.length_append, List.length_drop, List.length_cons, List.length_cons, List.length_nil] at h2
        omega
      | none =>
        cases hz : widC false (92 :: q) with
        | some z =>
          have hw := wid_ok (widC_ok hz).2
          rw [List.length_cons] at hw
          obtain ⟨i, A1, h1, h2⟩ := ih [] z.1 A (by have := need_short (A := A) (s := s) (s1 := z.1) (by omega); omega) (by simp only [List.length_nil]; omega)
          simp only [List.length_nil] at h2
          rw [ex_wid hc he hz h1 (by omega)]
          have hgr : A.length ≤ A1.length := by have := ex_grows (cp := false) (an := nobody) n [] z.1 A; rw [h1] at this; exact this
          have e0 : (out ++ p) ++ nobody ⟨119, i, 0⟩ = out ++ p := by unfold nobody; simp
          rw [e0, room_ok (by rw [List.length_append, List.length_drop, List.length_cons]; omega)]
          obtain ⟨o, A', h3, h4⟩ := ih (out ++ p) ((92 :: q).drop z.2) (A1 ++ [⟨119, i, 0⟩]) (by
            have h4 := need_less (A := A) (A1 := A1 ++ [(⟨119, i, 0⟩ : As)]) (s := s) (s1 := (92 :: q).drop z.2) (by omega) (by rw [List.length_append, List.length_cons, List.length_nil]; omega) (by rw [List.length_drop, List.length_cons]; omega)
            omega) (by rw [List.length_append, List.length_append, List.length_drop, List.length_cons, List.length_cons, List.length_nil]; omega)
          refine ⟨o, A', h3, ?_⟩
          rw [List.length_append, List.length_append, List.length_drop, List.length_cons, List.length_cons, List.length_nil] at h4
          omega
        | none =>
          rw [ex_tail hc he hz]
          have step : ∀ (o2 s2 : List UInt8), o2.length + s2.length ≤ out.length + s.length → s2.length < s.length → ∃ o A', ex false nobody n o2 s2 A = .ok o A' ∧ 3 * A'.length + o.length ≤ 3 * A.length + out.length + s.length := by
            intro o2 s2 h1 h2
            obtain ⟨o, A', h3, h4⟩ := ih o2 s2 A (by have := need_short (A := A) h2; omega) (by omega)
            exact ⟨o, A', h3, by omega⟩
          cases q with
          | nil => exact step _ _ (by simp only [List.length_append, List.length_cons, List.length_nil] at hl ⊢; omega) (by simp only [List.length_nil] at hl ⊢; omega)
          | cons d u =>
            rw [exTail]
            simp only [List.length_cons] at hl
            split
            · exact ⟨out ++ p, A, rfl, by rw [List.length_append]; omega⟩
            · split
              · exact step _ _ (by simp only [List.length_append, List.length_cons, List.length_nil]; omega) (by simp only [List.length_cons]; omega)
              · split
                · exact step _ _ (by simp only [List.length_append, List.length_cons, List.length_nil]; omega) (by omega)
                · exact step _ _ (by simp only [List.length_append, List.length_cons, List.length_nil]; omega) (by omega)
/-- A plain text is left as it is. -/
theorem ex_plain : ∀ (m n : Nat) (out s : List UInt8) (A : List As), need A s < n → wp m s = (false, false) → s.length < m → ex false nobody n out s A = .ok (out ++ s) A := by
  intro m
  induction m with
  | zero => intro n out s A _ _ h; exact absurd h (Nat.not_lt_zero _)
  | succ m ih =>
    intro n out s A hn hw hm
    obtain ⟨k, rfl⟩ : ∃ k, n = k + 1 := ⟨n - 1, by omega⟩
    cases hc : cutB 92 s with
    | none => exact ex_none hc
    | some pq =>
      obtain ⟨p, q⟩ := pq
      have hl := cut_len hc
      have hs := (cut_eq hc).1
      rw [wp_some hc] at hw
      split at hw
      · cases hw
      · rename_i hno
        have he : esc (92 :: q) = none := by
          cases h : esc (92 :: q) with
          | none => rfl
          | some e => rw [h] at hno; exact absurd rfl hno
        have hz : wid (92 :: q) = none := by
          cases h : wid (92 :: q) with
          | none => rfl
          | some e => rw [h] at hno; exact absurd (Bool.or_true _) hno
        rw [ex_tail hc he (by rw [widF]; exact hz)]
        have step : ∀ (o2 s2 : List UInt8), wp m s2 = (false, false) → s2.length < s.length → ex false nobody k o2 s2 A = .ok (o2 ++ s2) A := by
          intro o2 s2 h1 h2
          exact ih k o2 s2 A (by have := need_short (A := A) h2; omega) h1 (by omega)
        cases q with
        | nil =>
          have h0 : wp m [] = (false, false) := by
            cases m with
            | zero => rfl
            | succ m => exact wp_none rfl
          rw [exTail, step _ _ h0 (by rw [List.length_nil]; omega), hs]
          simp
        | cons d u =>
          simp only [List.length_cons] at hl
          rw [wpTail] at hw
          rw [exTail]
          by_cases h34 : d = 34
          · rw [if_pos h34] at hw; cases hw
          · rw [if_neg h34] at hw ⊢
            rw [inN_in3]
            by_cases hin : inN d = true
            · rw [if_pos hin] at hw ⊢
              rw [step _ _ hw (by simp only [List.length_cons]; omega), hs]
              simp
            · rw [if_neg hin] at hw ⊢
              rw [if_neg (by rw [Bool.false_and]; decide), step _ _ hw (by omega), hs]
              simp
/-- A text that is not plain asks, or loses something. -/
theorem ex_not : ∀ (m n : Nat) (out s : List UInt8) (A : List As), need A s < n → 3 * A.length + out.length + s.length ≤ 1000 → wp m s ≠ (false, false) → ∀ o A', ex false nobody n out s A = .ok o A' → A.length < A'.length ∨ o.length < out.length + s.length := by
  intro m
  induction m with
  | zero => intro n out s A _ _ h; exact absurd rfl h
  | succ m ih =>
    intro n out s A hn hb hw o A' hr
    obtain ⟨k, rfl⟩ : ∃ k, n = k + 1 := ⟨n - 1, by omega⟩
    have grows : ∀ (o2 s2 : List UInt8) (A2 : List As), A.length < A2.length → room (ex false nobody k) o2 s2 A2 = .ok o A' → A.length < A'.length := by
      intro o2 s2 A2 h1 h2
      unfold room at h2
      split at h2
      · cases h2
      · have := ex_grows (cp := false) (an := nobody) k o2 s2 A2
        rw [h2] at this
        exact Nat.lt_of_lt_of_le h1 this
    cases hc : cutB 92 s with
    | none => exact absurd (wp_none hc) hw
    | some pq =>
      obtain ⟨p, q⟩ := pq
      have hl := cut_len hc
      rw [wp_some hc] at hw
      cases he : esc (92 :: q) with
      | some e =>
        rw [ex_esc hc he (by omega)] at hr
        exact Or.inl (grows _ _ _ (by rw [List.length_append, List.length_cons, List.length_nil]; omega) hr)
      | none =>
        cases hz : widC false (92 :: q) with
        | some z =>
          cases hi : ex false nobody k [] z.1 A with
          | lim A1 => rw [ex_wlim hc he hz hi] at hr; cases hr
          | ok i A1 =>
            have hgr : A.length ≤ A1.length := by have := ex_grows (cp := false) (an := nobody) k [] z.1 A; rw [hi] at this; exact this
            by_cases hA : 500 ≤ A1.length
            · rw [ex_wfull hc he hz hi hA] at hr; cases hr
            · rw [ex_wid hc he hz hi (by omega)] at hr
              exact Or.inl (grows _ _ _ (by rw [List.length_append, List.length_cons, List.length_nil]; omega) hr)
        | none =>
          rw [ex_tail hc he hz] at hr
          have hz2 : wid (92 :: q) = none := hz
          rw [he, hz2, if_neg (by decide)] at hw
          have step : ∀ (o2 s2 : List UInt8), o2.length + s2.length ≤ out.length + s.length → s2.length < s.length → wp m s2 ≠ (false, false) → ex false nobody k o2 s2 A = .ok o A' → A.length < A'.length ∨ o.length < out.length + s.length := by
            intro o2 s2 h1 h2 h3 h4
            rcases ih k o2 s2 A (by have := need_short (A := A) h2; omega) (by omega) h3 o A' h4 with h | h
            · exact Or.inl h
            · exact Or.inr (by omega)
          cases q with
          | nil => exact absurd rfl hw
          | cons d u =>
            simp only [List.length_cons] at hl
            rw [wpTail] at hw
            rw [exTail] at hr
            by_cases h34 : d = 34
            · rw [if_pos h34] at hr
              injection hr with h1 h2
              right
              rw [← h1, List.length_append]
              omega
            · rw [if_neg h34] at hw hr
              rw [inN_in3] at hr
              by_cases hin : inN d = true
              · rw [if_pos hin] at hw hr
                exact step _ _ (by simp only [List.length_append, List.length_cons, List.length_nil]; omega) (by simp only [List.length_cons]; omega) hw hr
              · rw [if_neg hin] at hw hr
                rw [if_neg (by rw [Bool.false_and]; decide)] at hr
                exact step _ _ (by simp only [List.length_append, List.length_cons, List.length_nil]; omega) (by omega) hw hr
/-- The whole, of a short text. -/
theorem plain_all (s : List UInt8) (hs : s.length ≤ 1000) : ∃ o A, ex false nobody (need [] s + 1) [] s [] = .ok o A ∧ A.length ≤ 500 ∧ (plainB s = true → o = s ∧ A = []) ∧ (plainB s = false → 0 < A.length ∨ o.length < s.length) := by
  obtain ⟨o, A, h1, h2⟩ := ex_fits (need [] s + 1) [] s [] (Nat.lt_succ_self _) (by simp only [List.length_nil]; omega)
  refine ⟨o, A, h1, by simp only [List.length_nil] at h2; omega, fun hp => ?_, fun hp => ?_⟩
  · have hw : wp (s.length + 1) s = (false, false) := by
      unfold plainB at hp
      rw [Bool.and_eq_true] at hp
      obtain ⟨⟨a, b⟩, hab⟩ : ∃ r, wp (s.length + 1) s = r := ⟨_, rfl⟩
      rw [hab] at hp ⊢
      cases a <;> cases b <;> simp_all
    have h3 := ex_plain (s.length + 1) (need [] s + 1) [] s [] (Nat.lt_succ_self _) hw (Nat.lt_succ_self _)
    rw [h1] at h3
    injection h3 with h4 h5
    exact ⟨h4, h5⟩
  · have hw : wp (s.length + 1) s ≠ (false, false) := by
      intro e
      unfold plainB at hp
      rw [e] at hp
      cases hp
    have h3 := ex_not (s.length + 1) (need [] s + 1) [] s [] (Nat.lt_succ_self _) (by simp only [List.length_nil]; omega) hw o A h1
    simpa using h3
end Go.Proofs.Ytpflnhbhgcediaa.Ex4
