/- A text's lines, in plain words. -/
import Derived.Test.YtagadehcbpoihaaDoorCut
import Derived.Shelf.Strings.Split
namespace Go.Proofs.YtagadehcbpoihaaDoor.Lines5
open Go Go.RowKit Go.Proofs.YtagadehcbpoihaaDoor.Str Go.Proofs.YtagadehcbpoihaaDoor.Cut
set_option linter.unusedVariables false
set_option linter.unusedSimpArgs false
/-- All pieces, by rounds. -/
def spl : Nat → List UInt8 → List (List UInt8)
  | 0, l => [l]
  | n + 1, l => match cutB 10 l with
    | none => [l]
    | some p => p.1 :: spl n p.2
/-- The document's lines, by rounds. -/
def lns : Nat → List UInt8 → List (List UInt8)
  | 0, _ => []
  | n + 1, l => match cutB 10 l with
    | none => if l = [] then [] else [l]
    | some p => p.1 :: lns n p.2
theorem spl_none {n : Nat} {l : List UInt8} (h : cutB 10 l = none) : spl n l = [l] := by
  cases n with
  | zero => rfl
  | succ n => rw [spl, h]
theorem spl_some {n : Nat} {l p q : List UInt8} (h : cutB 10 l = some (p, q)) : spl (n + 1) l = p :: spl n q := by rw [spl, h]
theorem lns_none {n : Nat} {l : List UInt8} (h : cutB 10 l = none) : lns (n + 1) l = if l = [] then [] else [l] := by rw [lns, h]
theorem lns_some {n : Nat} {l p q : List UInt8} (h : cutB 10 l = some (p, q)) : lns (n + 1) l = p :: lns n q := by rw [lns, h]
/-- Without a line feed at the end. -/
def trim (l : List UInt8) : List UInt8 := if l.getLast? = some 10 then l.dropLast else l
theorem cut_of {d : UInt8} : ∀ (p q : List UInt8), (∀ c ∈ p, c ≠ d) → cutB d (p ++ d :: q) = some (p, q)
  | [], q, _ => by rw [List.nil_append, cutB, if_pos rfl]
  | c :: p, q, h => by
    rw [List.cons_append, cutB, if_neg (h c (List.mem_cons_self ..)), cut_of p q (fun e he => h e (List.mem_cons_of_mem _ he))]
    rfl
theorem cut_no {d : UInt8} : ∀ (p : List UInt8), (∀ c ∈ p, c ≠ d) → cutB d p = none
  | [], _ => rfl
  | c :: p, h => by
    rw [cutB, if_neg (h c (List.mem_cons_self ..)), cut_no p (fun e he => h e (List.mem_cons_of_mem _ he))]
    rfl
theorem last_app (p : List UInt8) {q : List UInt8} (h : q ≠ []) : (p ++ 10 :: q).getLast? = q.getLast? := by
  cases q with
  | nil => exact absurd rfl h
  | cons a q => simp [List.getLast?_append, List.getLast?_cons]
theorem trim_app (p : List UInt8) {q : List UInt8} (h : q ≠ []) : trim (p ++ 10 :: q) = p ++ 10 :: trim q := by
  unfold trim
  rw [last_app p h]
  split
  · rw [List.dropLast_append_of_ne_nil (by simp)]
    cases q with
    | nil => exact absurd rfl h
    | cons a q => rfl
  · rfl
theorem trim_one (p : List UInt8) : trim (p ++ [10]) = p := by
  unfold trim
  rw [if_pos (by simp)]
  simp
theorem trim_no {l : List UInt8} (h : ∀ c ∈ l, c ≠ 10) : trim l = l := by
  unfold trim
  rw [if_neg]
  intro e
  exact h 10 (List.mem_of_getLast? e) rfl
theorem spl_trim : ∀ (n : Nat) (l : List UInt8), l.length < n → l ≠ [] → ∀ m, l.length < m → spl m (trim l) = lns n l := by
  intro n
  induction n with
  | zero => intro l h; exact absurd h (Nat.not_lt_zero _)
  | succ n ih =>
    intro l hn hl m hm
    cases hc : cutB 10 l with
    | none =>
      rw [trim_no (cut_none hc), spl_none hc, lns_none hc, if_neg hl]
    | some pq =>
      obtain ⟨p, q⟩ := pq
      have h1 := cut_eq hc
      have hlen := cut_len hc
      rw [lns_some hc]
      by_cases hq : q = []
      · subst hq
        rw [h1.1, trim_one, spl_none (cut_no p h1.2)]
        cases n with
        | zero => rfl
        | succ n => rw [lns_none rfl, if_pos rfl]
      · obtain ⟨k, rfl⟩ : ∃ k, m = k + 1 := ⟨m - 1, by omega⟩
        rw [h1.1, trim_app p hq, spl_some (cut_of p (trim q) h1.2), ih q (by omega) hq k (by omega)]
def joined (L : List (List UInt8)) : List UInt8 := L.flatMap (fun x => x ++ [10])
theorem join_lns : ∀ (n : Nat) (l : List UInt8), l.length < n → joined (lns n l) = if l = [] ∨ l.getLast? = some 10 then l else l ++ [10] := by
  intro n
  induction n with
  | zero => intro l h; exact absurd h (Nat.not_lt_zero _)
  | succ n ih =>
    intro l hn
    cases hc : cutB 10 l with
    | none =>
      rw [lns_none hc]
      by_cases hl : l = []
      · rw [if_pos hl, if_pos (Or.inl hl), hl]; rfl
      · have h2 : ¬ (l = [] ∨ l.getLast? = some 10) := by
          rintro (e | e)
          · exact hl e
          · exact cut_none hc 10 (List.mem_of_getLast? e) rfl
        rw [if_neg hl, if_neg h2]
        simp [joined]
    | some pq =>
      obtain ⟨p, q⟩ := pq
      have h1 := cut_eq hc
      have hlen := cut_len hc
      have hj : joined (p :: lns n q) = (p ++ [10]) ++ joined (lns n q) := by simp [joined]
      rw [lns_some hc, hj, ih q (by omega), h1.1]
      by_cases hq : q = []
      · subst hq
        rw [if_pos (Or.inl rfl), if_pos (Or.inr (by simp))]
        simp
      · rw [last_app p hq]
        by_cases h10 : q.getLast? = some 10
        · rw [if_pos (Or.inr h10), if_pos (Or.inr h10)]
          simp
        · rw [if_neg (by rintro (e | e); exact hq e; exact h10 e), if_neg (by rintro (e | e); simp at e; exact h10 e)]
          simp
/-- The library's pieces are these. -/
theorem index_one (s : ByteArray) (c : UInt8) : Lib.indexB s ⟨#[c]⟩ = Lib.indexByte s.data.toList c := by
  have h := Lib.one s ⟨#[c]⟩ rfl
  have e : ((((⟨#[c]⟩ : ByteArray)[0]'(show 0 < (⟨#[c]⟩ : ByteArray).size from Nat.one_pos)).toNat : Int)).toNat.toUInt8 = c := by
    show ((c.toNat : Int)).toNat.toUInt8 = c
    simp
  exact h.trans (congrArg (Lib.indexByte s.data.toList) e)
theorem splitB_spl : ∀ (n : Nat) (l : List UInt8), Lib.splitB ⟨#[10]⟩ 0 n (mkB l) = (spl n l).map mkB := by
  intro n
  induction n with
  | zero => intro l; rfl
  | succ n ih =>
    intro l
    have hi : Lib.indexB (mkB l) ⟨#[10]⟩ = Lib.indexByte l 10 := by rw [index_one, data_mkB]
    rw [ix_cut] at hi
    cases hc : cutB 10 l with
    | none =>
      rw [hc] at hi
      rw [Lib.splitB_miss _ _ _ _ hi, spl_none hc]
      rfl
    | some pq =>
      obtain ⟨p, q⟩ := pq
      rw [hc] at hi
      have h1 := (cut_eq hc).1
      rw [Lib.splitB_hit _ _ _ _ p.length hi, spl_some hc, List.map_cons]
      have e1 : (mkB l).extract 0 (p.length + 0) = mkB p := by rw [extract_mkB, h1, List.drop_zero, Nat.add_zero, List.take_left]
      have e2 : (mkB l).extract (p.length + (⟨#[10]⟩ : ByteArray).size) (mkB l).size = mkB q := by
        rw [extract_mkB, size_mkB, List.take_length, h1]
        show mkB ((p ++ 10 :: q).drop (p.length + 1)) = _
        rw [List.drop_append, List.drop_eq_nil_of_le (by omega), List.nil_append]
        congr 1
        simp
      rw [e1, e2, ih q]
theorem spl_all : ∀ (n : Nat) (l : List UInt8), l.count 10 ≤ n → spl n l = spl (l.count 10) l := by
  intro n
  induction n with
  | zero => intro l h; rw [Nat.le_zero.1 h]
  | succ n ih =>
    intro l h
    cases hc : cutB 10 l with
    | none => rw [spl_none hc, spl_none hc]
    | some pq =>
      obtain ⟨p, q⟩ := pq
      have h1 := cut_eq hc
      have hcount : l.count 10 = q.count 10 + 1 := by
        rw [h1.1, List.count_append, List.count_cons_self, List.count_eq_zero_of_not_mem (fun hm => h1.2 10 hm rfl)]
        omega
      rw [hcount, spl_some hc, spl_some hc, ih q (by omega)]
theorem spl_len (l : List UInt8) : (spl (l.count 10) l).length = l.count 10 + 1 := by
  have key : ∀ (n : Nat) (l : List UInt8), l.count 10 = n → (spl n l).length = n + 1 := by
    intro n
    induction n with
    | zero => intro l _; rfl
    | succ n ih =>
      intro l h
      cases hc : cutB 10 l with
      | none => rw [List.count_eq_zero_of_not_mem (fun hm => cut_none hc 10 hm rfl)] at h; cases h
      | some pq =>
        obtain ⟨p, q⟩ := pq
        have h1 := cut_eq hc
        have hcount : l.count 10 = q.count 10 + 1 := by
          rw [h1.1, List.count_append, List.count_cons_self, List.count_eq_zero_of_not_mem (fun hm => h1.2 10 hm rfl)]
          omega
        rw [spl_some hc, List.length_cons, ih q (by omega)]
  exact key _ l rfl
end Go.Proofs.YtagadehcbpoihaaDoor.Lines5
