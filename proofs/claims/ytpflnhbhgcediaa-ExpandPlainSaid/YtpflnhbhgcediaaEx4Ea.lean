/- reader.expand in plain words: what comes out, and what is asked. -/
import Derived.Test.YtpflnhbhgcediaaFPlainEa
namespace Go.Proofs.Ytpflnhbhgcediaa.Ex4
open Go.RowKit Go.Proofs.Ytpflnhbhgcediaa.QEa Go.Proofs.YtpflnhbhgcediaaW.PrintWords Go.Proofs.YtpflnhbhgcediaaW.PrintLast Go.Proofs.YtpflnhbhgcediaaW.PrintMore Go.Proofs.YtpflnhbhgcediaaN Go.Proofs.Ytpflnhbhgcediaa.Evl Go.Proofs.Ytpflnhbhgcediaa.Str Go.Proofs.Ytpflnhbhgcediaa.Esc4 Go.Proofs.Ytpflnhbhgcediaa.Ask4 Go.Proofs.Ytpflnhbhgcediaa.Plain4
set_option linter.unusedVariables false
set_option linter.unusedSimpArgs false
theorem nm_le (r : List UInt8) : (nm r).2 ≤ r.length ∧ (nm r).1.length ≤ r.length := by
  match r with
  | [] => simp [nm]
  | c :: r =>
    by_cases h40 : c = 40
    · subst h40
      match r with
      | [] => simp [nm, nm40]
      | [a] => simp [nm, nm40]
      | a :: b :: t =>
        rw [nm_two]
        split <;> simp
    · by_cases h91 : c = 91
      · subst h91
        rw [nm_brk]
        cases hc : cutB 93 r with
        | none => simp
        | some p =>
          have h1 := congrArg List.length (cut_eq (p := p.1) (q := p.2) hc).1
          rw [List.length_append, List.length_cons] at h1
          simp only
          split
          · simp only [List.length_cons]; omega
          · simp
      · rw [nm_one h40 h91]
        split
        · simp
        · split <;> simp
theorem mkE_ok {k : UInt8} {st : Int} {base : Nat} {p : List UInt8 × Nat} {e : Es} (h : mkE k st base p = some e) : e.kind = k ∧ e.name = p.1 ∧ e.size = base + p.2 ∧ p.2 ≠ 0 := by
  unfold mkE at h
  split at h
  · cases h
  · obtain rfl := Option.some.inj h
    exact ⟨rfl, rfl, rfl, by assumption⟩
theorem esc_ok {s : List UInt8} {e : Es} (h : esc s = some e) : 3 ≤ e.size ∧ e.size ≤ s.length ∧ e.name.length ≤ s.length ∧ (e.kind = 110 ∨ e.kind = 42 ∨ e.kind = 36) := by
  match s, h with
  | b :: k :: c :: r, h =>
    rw [esc] at h
    split at h
    · have n1 := nm_le r
      have n2 := nm_le (c :: r)
      simp only [List.length_cons] at n2 ⊢
      unfold esc3 at h
      split at h
      · rename_i hk
        split at h
        · obtain ⟨a1, a2, a3, a4⟩ := mkE_ok h
          rw [a1, a2, a3]
          exact ⟨by omega, by omega, by omega, Or.inl hk⟩
        · split at h
          · obtain ⟨a1, a2, a3, a4⟩ := mkE_ok h
            rw [a1, a2, a3]
            exact ⟨by omega, by omega, by omega, Or.inl hk⟩
          · obtain ⟨a1, a2, a3, a4⟩ := mkE_ok h
            rw [a1, a2, a3]
            exact ⟨by omega, by omega, by omega, Or.inl hk⟩
      · split at h
        · rename_i hk
          obtain ⟨a1, a2, a3, a4⟩ := mkE_ok h
          rw [a1, a2, a3]
          exact ⟨by omega, by omega, by omega, Or.inr hk⟩
        · cases h
    · cases h
theorem wid_ok {s : List UInt8} {z : List UInt8 × Nat} (h : wid s = some z) : z.2 = z.1.length + 4 ∧ z.2 ≤ s.length := by
  match s, h with
  | b :: k :: c :: r, h =>
    rw [wid] at h
    split at h
    · cases hc : cutB c r with
      | none => rw [hc] at h; cases h
      | some p =>
        rw [hc] at h
        obtain rfl := Option.some.inj h
        have h1 := congrArg List.length (cut_eq (p := p.1) (q := p.2) hc).1
        rw [List.length_append, List.length_cons] at h1
        refine ⟨rfl, ?_⟩
        show p.1.length + 4 ≤ _
        simp only [List.length_cons]
        omega
    · cases h
theorem asks_no (s : List UInt8) (hs : s.length < 1000000000) (h : esc s = none) (w : World) : Calls Try.prog 28 #[.string (mkB s)] w fun e w' => ∃ (v0 : Int) (v1 : ByteArray) (v2 v3 : Int), e = .returned (.tuple #[.agg #[.int .u8 v0, .string v1, .int .i64 v2, .int .i64 v3], .bool false]) ∧ Below w.heap.size w w' := by
  refine (asks_esc s hs w).mono ?_
  rintro e w' ⟨⟨v0, v1, v2, v3, v4⟩, hv, rfl, hb⟩
  have h4 : v4 = false := by
    have := hv.1
    rw [h] at this
    exact this
  subst h4
  exact ⟨v0, v1, v2, v3, rfl, hb⟩
theorem asks_yes (s : List UInt8) (hs : s.length < 1000000000) (x : Es) (h : esc s = some x) (w : World) : Calls Try.prog 28 #[.string (mkB s)] w fun e w' => e = .returned (.tuple #[.agg #[.int .u8 (x.kind.toNat : Int), .string (mkB x.name), .int .i64 x.step, .int .i64 (x.size : Int)], .bool true]) ∧ Below w.heap.size w w' := by
  refine (asks_esc s hs w).mono ?_
  rintro e w' ⟨v, hv, rfl, hb⟩
  obtain rfl := hv.2 x h
  exact ⟨rfl, hb⟩
/-- A question. -/
structure As where
  kind : UInt8
  name : List UInt8
  step : Int
inductive Res where
  | ok (out : List UInt8) (A : List As)
  | lim (A : List As)
def Res.asks : Res → List As
  | .ok _ A => A
  | .lim A => A
def in3 (c : UInt8) : Bool := c == 110 || c == 42 || c == 36
def exTail (cp : Bool) (f : List UInt8 → List UInt8 → Res) (out : List UInt8) (A : List As) : List UInt8 → Res
  | [] => f (out ++ [92]) []
  | d :: u => if d = 34 then .ok out A
    else if (in3 d || (d == 119 && !cp)) = true then f (out ++ [92]) (d :: u)
    else if (cp && (d == 92 || d == 46)) = true then f (out ++ [d]) u
    else f (out ++ [92, d]) u
def room (f : List UInt8 → List UInt8 → List As → Res) (out s : List UInt8) (A : List As) : Res := if 8000 < out.length + s.length then .lim A else f out s A
/-- What is behind an answer: the text so far, the rest. -/
def aOut (e : Es) (a out : List UInt8) : List UInt8 := if e.kind = 110 then out ++ a else out
def aRest (e : Es) (a r : List UInt8) : List UInt8 := if e.kind = 110 then r.drop e.size else a ++ r.drop e.size
def askE (e : Es) : As := ⟨e.kind, e.name, e.step⟩
def widC (cp : Bool) (r : List UInt8) : Option (List UInt8 × Nat) := if cp = true then none else wid r
def ex (cp : Bool) (an : As → List UInt8) : Nat → List UInt8 → List UInt8 → List As → Res
  | 0, _, _, A => .lim A
  | n + 1, out, s, A => match cutB 92 s with
    | none => .ok (out ++ s) A
    | some p => match esc (92 :: p.2) with
      | some e => if 500 ≤ A.length then .lim A else room (ex cp an n) (aOut e (an (askE e)) (out ++ p.1)) (aRest e (an (askE e)) (92 :: p.2)) (A ++ [askE e])
      | none => match widC cp (92 :: p.2) with
        | some z => match ex cp an n [] z.1 A with
          | .lim A1 => .lim A1
          | .ok i A1 => if 500 ≤ A1.length then .lim A1 else room (ex cp an n) ((out ++ p.1) ++ an ⟨119, i, 0⟩) ((92 :: p.2).drop z.2) (A1 ++ [⟨119, i, 0⟩])
        | none => exTail cp (fun o s => ex cp an n o s A) (out ++ p.1) A p.2
section
variable {cp : Bool} {an : As → List UInt8} {n : Nat} {out s p q : List UInt8} {A : List As}
theorem ex_none (h : cutB 92 s = none) : ex cp an (n + 1) out s A = .ok (out ++ s) A := by rw [ex, h]
theorem ex_full {e : Es} (h : cutB 92 s = some (p, q)) (he : esc (92 :: q) = some e) (hA : 500 ≤ A.length) : ex cp an (n + 1) out s A = .lim A := by rw [ex, h]; simp only [he]; rw [if_pos hA]
theorem ex_esc {e : Es} (h : cutB 92 s = some (p, q)) (he : esc (92 :: q) = some e) (hA : A.length < 500) : ex cp an (n + 1) out s A = room (ex cp an n) (aOut e (an (askE e)) (out ++ p)) (aRest e (an (askE e)) (92 :: q)) (A ++ [askE e]) := by rw [ex, h]; simp only [he]; rw [if_neg (by omega)]
theorem ex_wlim {z : List UInt8 × Nat} {A1 : List As} (h : cutB 92 s = some (p, q)) (he : esc (92 :: q) = none) (hz : widC cp (92 :: q) = some z) (hi : ex cp an n [] z.1 A = .lim A1) : ex cp an (n + 1) out s A = .lim A1 := by rw [ex, h]; simp only [he, hz, hi]
theorem ex_wfull {z : List UInt8 × Nat} {A1 : List As} {i : List UInt8} (h : cutB 92 s = some (p, q)) (he : esc (92 :: q) = none) (hz : widC cp (92 :: q) = some z) (hi : ex cp an n [] z.1 A = .ok i A1) (hA : 500 ≤ A1.length) : ex cp an (n + 1) out s A = .lim A1 := by rw [ex, h]; simp only [he, hz, hi]; rw [if_pos hA]
theorem ex_wid {z : List UInt8 × Nat} {A1 : List As} {i : List UInt8} (h : cutB 92 s = some (p, q)) (he : esc (92 :: q) = none) (hz : widC cp (92 :: q) = some z) (hi : ex cp an n [] z.1 A = .ok i A1) (hA : A1.length < 500) : ex cp an (n + 1) out s A = room (ex cp an n) ((out ++ p) ++ an ⟨119, i, 0⟩) ((92 :: q).drop z.2) (A1 ++ [⟨119, i, 0⟩]) := by rw [ex, h]; simp only [he, hz, hi]; rw [if_neg (by omega)]
theorem ex_tail (h : cutB 92 s = some (p, q)) (he : esc (92 :: q) = none) (hz : widC cp (92 :: q) = none) : ex cp an (n + 1) out s A = exTail cp (fun o s => ex cp an n o s A) (out ++ p) A q := by rw [ex, h]; simp only [he, hz]
theorem room_big {f : List UInt8 → List UInt8 → List As → Res} (h : 8000 < out.length + s.length) : room f out s A = .lim A := by rw [room, if_pos h]
theorem room_ok {f : List UInt8 → List UInt8 → List As → Res} (h : ¬ 8000 < out.length + s.length) : room f out s A = f out s A := by rw [room, if_neg h]
/-- A byte that is no backslash stands for itself. -/
theorem ex_skip {c : UInt8} (h : c ≠ 92) : ex cp an (n + 1) out (c :: s) A = ex cp an (n + 1) (out ++ [c]) s A := by
  cases ht : cutB 92 s with
  | none =>
    have h2 : cutB 92 (c :: s) = none := by rw [cutB, if_neg h, ht]; rfl
    rw [ex_none h2, ex_none ht, List.append_assoc]
    rfl
  | some r =>
    have h2 : cutB 92 (c :: s) = some (c :: r.1, r.2) := by rw [cutB, if_neg h, ht]; rfl
    have e1 : out ++ (c :: r.1) = (out ++ [c]) ++ r.1 := by rw [List.append_assoc]; rfl
    unfold ex
    rw [h2, ht]
    simp only [e1]
end
/-- As many rounds as a text and the questions so far can take. -/
def need (A : List As) (s : List UInt8) : Nat := (501 - A.length) * 8001 + s.length
theorem need_less {A A1 : List As} {s s1 : List UInt8} (hA : A.length < 500) (h1 : A.length + 1 ≤ A1.length) (hs : s1.length ≤ 8000) : need A1 s1 < need A s := by
  unfold need
  omega
theorem need_short {A : List As} {s s1 : List UInt8} (hs : s1.length < s.length) : need A s1 < need A s := by
  unfold need
  omega
theorem widC_ok {cp : Bool} {r : List UInt8} {z : List UInt8 × Nat} (h : widC cp r = some z) : cp = false ∧ wid r = some z := by
  unfold widC at h
  cases cp with
  | true => rw [if_pos rfl] at h; cases h
  | false => exact ⟨rfl, by simpa using h⟩
theorem ex_grows {cp : Bool} {an : As → List UInt8} : ∀ (n : Nat) (out s : List UInt8) (A : List As), A.length ≤ (ex cp an n out s A).asks.length := by
  intro n
  induction n with
  | zero => intro out s A; exact Nat.le_refl _
  | succ n ih =>
    intro out s A
    have hroom : ∀ (o t : List UInt8) (A1 : List As), A1.length ≤ (room (ex cp an n) o t A1).asks.length := by
      intro o t A1
      unfold room
      split
      · exact Nat.le_refl _
      · exact ih o t A1
    cases hc : cutB 92 s with
    | none => rw [ex_none hc]; exact Nat.le_refl _
    | some p =>
      obtain ⟨p, q⟩ := p
      cases he : esc (92 :: q) with
      | some e =>
        by_cases hA : 500 ≤ A.length
        · rw [ex_full hc he hA]; exact Nat.le_refl _
        · rw [ex_esc hc he (by omega)]
          have := hroom (aOut e (an (askE e)) (out ++ p)) (aRest e (an (askE e)) (92 :: q)) (A ++ [askE e])
          rw [List.length_append] at this
          omega
      | none =>
        cases hz : widC cp (92 :: q) with
        | some z =>
          have h1 := ih [] z.1 A
          cases hi : ex cp an n [] z.1 A with
          | lim A1 => rw [ex_wlim hc he hz hi]; rw [hi] at h1; exact h1
          | ok i A1 =>
            rw [hi] at h1
            by_cases hA : 500 ≤ A1.length
            · rw [ex_wfull hc he hz hi hA]; exact h1
            · rw [ex_wid hc he hz hi (by omega)]
              have := hroom ((out ++ p) ++ an ⟨119, i, 0⟩) ((92 :: q).drop z.2) (A1 ++ [⟨119, i, 0⟩])
              rw [List.length_append] at this
              have h2 : A.length ≤ A1.length := h1
              omega
        | none =>
          rw [ex_tail hc he hz]
          cases q with
          | nil => exact ih _ _ _
          | cons d u =>
            rw [exTail]
            split
            · exact Nat.le_refl _
            · split
              · exact ih _ _ _
              · split <;> exact ih _ _ _
theorem ex_most {cp : Bool} {an : As → List UInt8} : ∀ (n : Nat) (out s : List UInt8) (A : List As), A.length ≤ 500 → (ex cp an n out s A).asks.length ≤ 500 := by
  intro n
  induction n with
  | zero => intro out s A h; exact h
  | succ n ih =>
    intro out s A h
    have hroom : ∀ (o t : List UInt8) (A1 : List As), A1.length ≤ 500 → (room (ex cp an n) o t A1).asks.length ≤ 500 := by
      intro o t A1 h1
      unfold room
      split
      · exact h1
      · exact ih o t A1 h1
    cases hc : cutB 92 s with
    | none => rw [ex_none hc]; exact h
    | some p =>
      obtain ⟨p, q⟩ := p
      cases he : esc (92 :: q) with
      | some e =>
        by_cases hA : 500 ≤ A.length
        · rw [ex_full hc he hA]; exact h
        · rw [ex_esc hc he (by omega)]
          exact hroom _ _ _ (by rw [List.length_append, List.length_cons, List.length_nil]; omega)
      | none =>
        cases hz : widC cp (92 :: q) with
        | some z =>
          have h1 := ih [] z.1 A h
          cases hi : ex cp an n [] z.1 A with
          | lim A1 => rw [ex_wlim hc he hz hi]; rw [hi] at h1; exact h1
          | ok i A1 =>
            rw [hi] at h1
            by_cases hA : 500 ≤ A1.length
            · rw [ex_wfull hc he hz hi hA]; exact h1
            · rw [ex_wid hc he hz hi (by omega)]
              exact hroom _ _ _ (by rw [List.length_append, List.length_cons, List.length_nil]; omega)
        | none =>
          rw [ex_tail hc he hz]
          cases q with
          | nil => exact ih _ _ _ h
          | cons d u =>
            rw [exTail]
            split
            · exact h
            · split
              · exact ih _ _ _ h
              · split <;> exact ih _ _ _ h
theorem in3_ix (c : UInt8) : decide (0 ≤ Lib.indexByte [110, 42, 36] c) = in3 c := by
  unfold in3
  by_cases h1 : c = 110
  · subst h1; decide
  · by_cases h2 : c = 42
    · subst h2; decide
    · by_cases h3 : c = 36
      · subst h3; decide
      · have e1 : ((110 : UInt8) == c) = false := beq_eq_false_iff_ne.2 (fun e => h1 e.symm)
        have e2 : ((42 : UInt8) == c) = false := beq_eq_false_iff_ne.2 (fun e => h2 e.symm)
        have e3 : ((36 : UInt8) == c) = false := beq_eq_false_iff_ne.2 (fun e => h3 e.symm)
        simp [Lib.indexByte, e1, e2, e3, h1, h2, h3]
theorem ex_small {cp : Bool} {an : As → List UInt8} : ∀ (n : Nat) (out s : List UInt8) (A : List As), out.length + s.length ≤ 8000 → ∀ o A1, ex cp an n out s A = .ok o A1 → o.length ≤ 8000 := by
  intro n
  induction n with
  | zero => intro out s A h o A1 e; cases e
  | succ n ih =>
    intro out s A h o A1 e
    have hroom : ∀ (o' t : List UInt8) (A2 : List As), room (ex cp an n) o' t A2 = .ok o A1 → o.length ≤ 8000 := by
      intro o' t A2 h
      unfold room at h
      split at h
      · cases h
      · exact ih o' t A2 (by omega) _ _ h
    cases hc : cutB 92 s with
    | none =>
      rw [ex_none hc] at e
      injection e with e1 e2
      rw [← e1, List.length_append]
      exact h
    | some p =>
      obtain ⟨p, q⟩ := p
      have h1 := congrArg List.length (cut_eq hc).1
      rw [List.length_append, List.length_cons] at h1
      cases he : esc (92 :: q) with
      | some x =>
        by_cases hA : 500 ≤ A.length
        · rw [ex_full hc he hA] at e; cases e
        · rw [ex_esc hc he (by omega)] at e
          exact hroom _ _ _ e
      | none =>
        cases hz : widC cp (92 :: q) with
        | some z =>
          cases hi : ex cp an n [] z.1 A with
          | lim A2 => rw [ex_wlim hc he hz hi] at e; cases e
          | ok i A2 =>
            by_cases hA : 500 ≤ A2.length
            · rw [ex_wfull hc he hz hi hA] at e; cases e
            · rw [ex_wid hc he hz hi (by omega)] at e
              exact hroom _ _ _ e
        | none =>
          rw [ex_tail hc he hz] at e
          cases q with
          | nil =>
            refine ih _ _ _ ?_ _ _ e
            simp only [List.length_append, List.length_cons, List.length_nil] at h1 ⊢
            omega
          | cons d u =>
            rw [exTail] at e
            simp only [List.length_cons] at h1
            split at e
            · injection e with e1 e2
              rw [← e1, List.length_append]
              omega
            · split at e
              · refine ih _ _ _ ?_ _ _ e
                simp only [List.length_append, List.length_cons, List.length_nil]
                omega
              · split at e
                · refine ih _ _ _ ?_ _ _ e
                  simp only [List.length_append, List.length_cons, List.length_nil]
                  omega
                · refine ih _ _ _ ?_ _ _ e
                  simp only [List.length_append, List.length_cons, List.length_nil]
                  omega
end Go.Proofs.Ytpflnhbhgcediaa.Ex4
