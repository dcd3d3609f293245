/- Names, escapes and widths of expand, told of lists. -/
import Derived.Test.YtpflnhbhgcediaaDefsAsk
import Derived.Test.YtpflnhbhgcediaaEvl
import Derived.Test.YtpflnhbhgcediaaStr
namespace Go.Proofs.Ytpflnhbhgcediaa.Esc4
open Go.RowKit Go.Proofs.Ytpflnhbhgcediaa.QEa Go.Proofs.YtpflnhbhgcediaaW.PrintWords Go.Proofs.YtpflnhbhgcediaaW.PrintLast Go.Proofs.YtpflnhbhgcediaaW.PrintMore Go.Proofs.YtpflnhbhgcediaaN Go.Proofs.Ytpflnhbhgcediaa.Evl Go.Proofs.Ytpflnhbhgcediaa.Str
set_option linter.unusedVariables false
def ok1 (c : UInt8) : Bool := decide (33 ≤ c.toNat ∧ c.toNat ≤ 126)
theorem plain_f (c : UInt8) : expand_plain.f (c.toNat : Int) = some (ok1 c) := by
  unfold expand_plain.f ok1
  by_cases h : (c.toNat : Int) ≥ 33
  · rw [if_pos h]; congr 1; exact decide_eq_decide.2 (by omega)
  · rw [if_neg h]; congr 1; exact (decide_eq_false (by omega)).symm
/-- Up to the first of a byte; what stands behind it, if there is one. -/
def cutB (d : UInt8) : List UInt8 → Option (List UInt8 × List UInt8)
  | [] => none
  | c :: l => if c = d then some ([], l) else (cutB d l).map fun p => (c :: p.1, p.2)
theorem cut_eq {d : UInt8} : ∀ {l p q : List UInt8}, cutB d l = some (p, q) → l = p ++ d :: q ∧ ∀ c ∈ p, c ≠ d
  | [], p, q, h => by cases h
  | c :: l, p, q, h => by
    rw [cutB] at h
    split at h
    · rename_i hc
      obtain ⟨rfl, rfl⟩ := Prod.mk.inj (Option.some.inj h)
      exact ⟨by rw [hc]; rfl, fun _ h => by cases h⟩
    · rename_i hc
      obtain ⟨⟨p', q'⟩, h1, h2⟩ := Option.map_eq_some_iff.1 h
      obtain ⟨rfl, rfl⟩ := Prod.mk.inj h2
      obtain ⟨rfl, h3⟩ := cut_eq h1
      refine ⟨rfl, fun e he => ?_⟩
      rcases List.mem_cons.1 he with rfl | he
      · exact hc
      · exact h3 e he
theorem cut_none {d : UInt8} : ∀ {l : List UInt8}, cutB d l = none → ∀ c ∈ l, c ≠ d
  | [], _, c, h => by cases h
  | e :: l, h, c, hc => by
    rw [cutB] at h
    split at h
    · cases h
    · rename_i he
      rcases List.mem_cons.1 hc with rfl | hc
      · exact he
      · exact cut_none (Option.map_eq_none_iff.1 h) c hc
theorem ix_no (d : UInt8) : ∀ l : List UInt8, (∀ c ∈ l, c ≠ d) → Lib.indexByte l d = -1
  | [], _ => rfl
  | c :: l, h => by
    have ih := ix_no d l (fun e he => h e (List.mem_cons_of_mem _ he))
    rw [Lib.indexByte, ih]
    simp [h c (List.mem_cons_self ..)]
theorem ix_at (d : UInt8) : ∀ (a q : List UInt8), (∀ c ∈ a, c ≠ d) → Lib.indexByte (a ++ d :: q) d = (a.length : Int)
  | [], q, _ => by
    rw [List.nil_append, Lib.indexByte]
    simp
  | c :: a, q, h => by
    have ih := ix_at d a q (fun e he => h e (List.mem_cons_of_mem _ he))
    rw [List.cons_append, Lib.indexByte, ih, List.length_cons]
    simp [h c (List.mem_cons_self ..)]
    try omega
theorem ix_cut (d : UInt8) (l : List UInt8) : Lib.indexByte l d = match cutB d l with | none => -1 | some p => (p.1.length : Int) := by
  cases h : cutB d l with
  | none => exact ix_no d l (cut_none h)
  | some p =>
    obtain ⟨h1, h2⟩ := cut_eq (p := p.1) (q := p.2) h
    rw [h1]
    exact ix_at d p.1 p.2 h2
def nm40 : List UInt8 → List UInt8 × Nat
  | a :: b :: _ => if (ok1 a && ok1 b) = true then ([a, b], 3) else ([], 0)
  | _ => ([], 0)
/-- The name at the front, and how many bytes it takes (0: there is none). -/
def nm : List UInt8 → List UInt8 × Nat
  | [] => ([], 0)
  | c :: r =>
    if c = 40 then nm40 r
    else if c = 91 then (match cutB 93 r with | some p => if (okN p.1 && decide (1 ≤ p.1.length ∧ p.1.length ≤ 20)) = true then (p.1, p.1.length + 2) else ([], 0) | none => ([], 0))
    else if c = 43 ∨ c = 45 then ([], 0)
    else if ok1 c = true then ([c], 1) else ([], 0)
theorem nm_two (a b : UInt8) (t : List UInt8) : nm (40 :: a :: b :: t) = if (ok1 a && ok1 b) = true then ([a, b], 3) else ([], 0) := by rw [nm, if_pos rfl, nm40]
theorem nm_brk (r : List UInt8) : nm (91 :: r) = (match cutB 93 r with | some p => if (okN p.1 && decide (1 ≤ p.1.length ∧ p.1.length ≤ 20)) = true then (p.1, p.1.length + 2) else ([], 0) | none => ([], 0)) := by rw [nm, if_neg (by decide), if_pos rfl]
theorem nm_one {c : UInt8} (h1 : c ≠ 40) (h2 : c ≠ 91) (r : List UInt8) : nm (c :: r) = if c = 43 ∨ c = 45 then ([], 0) else if ok1 c = true then ([c], 1) else ([], 0) := by rw [nm, if_neg h1, if_neg h2]
theorem name_f (r : List UInt8) (hr : r.length < 4611686018427387904) : expand_name.f (mkB r) = some (mkB (nm r).1, ((nm r).2 : Int)) := by
  unfold expand_name.f
  rw [toList_mkB, size_mkB]
  cases r with
  | nil => rfl
  | cons c r =>
    rw [if_neg (by simp), if_pos (by rw [List.length_cons]; omega), bt_head]
    have b40 : ((c.toNat : Int) = 40) ↔ c = 40 := b_eq (n := 40) (by decide)
    have b91 : ((c.toNat : Int) = 91) ↔ c = 91 := b_eq (n := 91) (by decide)
    have b43 : ((c.toNat : Int) = 43) ↔ c = 43 := b_eq (n := 43) (by decide)
    have b45 : ((c.toNat : Int) = 45) ↔ c = 45 := b_eq (n := 45) (by decide)
    by_cases h40 : c = 40
    · rw [if_pos (b40.2 h40)]
      subst h40
      match r, hr with
      | [], _ => rfl
      | [a], _ => rfl
      | a :: b :: t, hr =>
        have e1 : bt (mkB (40 :: a :: b :: t)) 1 = (a.toNat : Int) := bt_mkB (40 :: a :: b :: t) 1 (by simp)
        have e2 : bt (mkB (40 :: a :: b :: t)) 2 = (b.toNat : Int) := bt_mkB (40 :: a :: b :: t) 2 (by simp)
        have e3 : (mkB (40 :: a :: b :: t)).extract 1 3 = mkB [a, b] := by rw [extract_mkB]; rfl
        have l1 : ((40 :: a :: b :: t : List UInt8).length : Int) > 2 := by simp only [List.length_cons]; omega
        have l2 : (1 : Int) < ((40 :: a :: b :: t : List UInt8).length : Int) := by omega
        have l3 : (2 : Int) < ((40 :: a :: b :: t : List UInt8).length : Int) := by omega
        have l4 : (3 : Int) ≤ ((40 :: a :: b :: t : List UInt8).length : Int) := by omega
        rw [if_pos l1, if_pos l2, e1, e2, e3, plain_f, plain_f, Option.bind_some, nm_two, if_pos l3, Option.bind_some, if_pos l4]
        cases ok1 a <;> cases ok1 b <;> rfl
    · rw [if_neg (fun e => h40 (b40.1 e))]
      by_cases h91 : c = 91
      · rw [if_pos (b91.2 h91)]
        subst h91
        rw [nm_brk]
        have ei : strings_IndexByte.f (mkB (91 :: r)) 93 = some (match cutB 93 r with | none => -1 | some p => (p.1.length : Int) + 1) := by
          show some (Lib.indexByte (mkB (91 :: r)).data.toList 93) = _
          rw [data_mkB, Lib.indexByte, ix_cut]
          cases cutB 93 r with
          | none => rfl
          | some p =>
            have : (p.1.length : Int) ≠ -1 := by omega
            simp [this]
        rw [ei, Option.bind_some]
        cases hc : cutB 93 r with
        | none => rfl
        | some p =>
          obtain ⟨h1, h2⟩ := cut_eq (p := p.1) (q := p.2) hc
          have hl : r.length = p.1.length + (p.2.length + 1) := by
            have := congrArg List.length h1
            rw [List.length_append, List.length_cons] at this
            exact this
          have ex : (mkB (91 :: r)).extract 1 ((p.1.length : Int) + 1).toNat = mkB p.1 := by
            rw [show ((p.1.length : Int) + 1).toNat = p.1.length + 1 by omega, extract_mkB, h1, List.take_succ_cons, List.drop_succ_cons, List.drop_zero, List.take_left]
          have ef : strings_ContainsFunc.f (mkB p.1) () = some (!okN p.1) := by
            show some (!okN (mkB p.1).data.toList) = _
            rw [data_mkB]
          show (if (p.1.length : Int) + 1 < 2 then some ((⟨#[]⟩ : ByteArray), 0) else (if (p.1.length : Int) + 1 > 21 then some ((⟨#[]⟩ : ByteArray), 0) else (if 1 ≤ (p.1.length : Int) + 1 then (if (p.1.length : Int) + 1 ≤ ((91 :: r : List UInt8).length : Int) then ((strings_ContainsFunc.f ((mkB (91 :: r)).extract 1 ((p.1.length : Int) + 1).toNat) ()).bind fun t104 => (if t104 = true then (some ((⟨#[]⟩ : ByteArray), 0)) else (some ((mkB (91 :: r)).extract 1 ((p.1.length : Int) + 1).toNat, wrap64 ((p.1.length : Int) + 1 + 1))))) else none) else none))) = some (mkB (if (okN p.1 && decide (1 ≤ p.1.length ∧ p.1.length ≤ 20)) = true then (p.1, p.1.length + 2) else ([], 0)).1, (((if (okN p.1 && decide (1 ≤ p.1.length ∧ p.1.length ≤ 20)) = true then (p.1, p.1.length + 2) else ([], 0)).2 : Nat) : Int))
          rw [ex, ef, Option.bind_some]
          by_cases b1 : p.1.length < 1
          · rw [if_pos (by omega), decide_eq_false (by omega : ¬ (1 ≤ p.1.length ∧ p.1.length ≤ 20)), Bool.and_false]
            rfl
          · rw [if_neg (by omega)]
            by_cases b2 : p.1.length > 20
            · rw [if_pos (by omega), decide_eq_false (by omega : ¬ (1 ≤ p.1.length ∧ p.1.length ≤ 20)), Bool.and_false]
              rfl
            · rw [if_neg (by omega), if_pos (by omega), if_pos (by rw [List.length_cons]; omega), decide_eq_true (by omega : 1 ≤ p.1.length ∧ p.1.length ≤ 20), Bool.and_true, w64 (by omega) (by omega)]
              cases okN p.1
              · rfl
              · show some (mkB p.1, (p.1.length : Int) + 1 + 1) = some (mkB p.1, ((p.1.length + 2 : Nat) : Int))
                rw [show (p.1.length : Int) + 1 + 1 = ((p.1.length + 2 : Nat) : Int) by omega]
      · rw [if_neg (fun e => h91 (b91.1 e)), nm_one h40 h91]
        by_cases h43 : c = 43
        · rw [if_pos (b43.2 h43), if_pos (Or.inl h43)]
          rfl
        · rw [if_neg (fun e => h43 (b43.1 e))]
          by_cases h45 : c = 45
          · rw [if_pos (b45.2 h45), if_pos (Or.inr h45)]
            rfl
          · have ex : (mkB (c :: r)).extract 0 1 = mkB [c] := by rw [extract_mkB]; rfl
            have l1 : (1 : Int) ≤ ((c :: r : List UInt8).length : Int) := by rw [List.length_cons]; omega
            rw [if_neg (fun e => h45 (b45.1 e)), if_neg (show ¬ (c = 43 ∨ c = 45) from fun e => e.elim h43 h45), plain_f, Option.bind_some, if_pos (show (0 : Nat) ≤ 1 by decide), if_pos l1, ex]
            cases ok1 c <;> rfl
/-- An escape that asks. -/
structure Es where
  kind : UInt8
  name : List UInt8
  step : Int
  size : Nat
def mkE (k : UInt8) (st : Int) (base : Nat) (p : List UInt8 × Nat) : Option Es := if p.2 = 0 then none else some ⟨k, p.1, st, base + p.2⟩
def esc3 (k c : UInt8) (r : List UInt8) : Option Es :=
  if k = 110 then (if c = 43 then mkE k 1 3 (nm r) else if c = 45 then mkE k (-1) 3 (nm r) else mkE k 0 2 (nm (c :: r)))
  else if k = 42 ∨ k = 36 then mkE k 0 2 (nm (c :: r)) else none
def esc : List UInt8 → Option Es
  | b :: k :: c :: r => if b = 92 then esc3 k c r else none
  | _ => none
/-- What an answer of five values says of an escape. -/
def Says (o : Option Es) (v : Int × ByteArray × Int × Int × Bool) : Prop := v.2.2.2.2 = o.isSome ∧ ∀ e, o = some e → v = ((e.kind.toNat : Int), mkB e.name, e.step, (e.size : Int), true)
theorem says_no (a : Int) (b : ByteArray) (c d : Int) : Says none (a, b, c, d, false) := ⟨rfl, fun e h => by cases h⟩
theorem says_mk (k : UInt8) (st : Int) (base : Nat) (p : List UInt8 × Nat) (hp : p.2 < 4611686018427387904) (hb : base ≤ 3) : Says (mkE k st base p) ((k.toNat : Int), mkB p.1, st, wrap64 ((base : Int) + (p.2 : Int)), decide ((p.2 : Int) > 0)) := by
  unfold mkE
  by_cases h : p.2 = 0
  · rw [if_pos h, decide_eq_false (by omega)]
    exact says_no _ _ _ _
  · rw [if_neg h, decide_eq_true (by omega), w64 (by omega) (by omega)]
    refine ⟨rfl, fun e he => ?_⟩
    obtain rfl := Option.some.inj he
    show _ = ((k.toNat : Int), mkB p.1, st, ((base + p.2 : Nat) : Int), true)
    rw [Int.natCast_add]
theorem nm_small (r : List UInt8) : (nm r).2 ≤ r.length + 3 := by
  cases r with
  | nil => simp [nm]
  | cons c r =>
    rw [nm]
    split
    · unfold nm40
      split
      · split
        · simp
        · simp
      · simp
    · split
      · cases hc : cutB 93 r with
        | none => simp
        | some p =>
          have h1 := congrArg List.length (cut_eq (p := p.1) (q := p.2) hc).1
          rw [List.length_append, List.length_cons] at h1
          simp only
          split
          · simp only [List.length_cons]; omega
          · simp
      · split
        · simp
        · split
          · simp
          · simp
theorem asks_f (s : List UInt8) (hs : s.length < 1000000000) (k : Nat) : ∃ v, expand_asks.f (k + 1) (mkB s) = some v ∧ Says (esc s) v := by
  have no : ∃ v, expand_asks.j0 (k + 1) (mkB s) true = some v ∧ Says none v := ⟨(0, ⟨#[]⟩, 0, 0, false), by rw [expand_asks.j0, if_pos rfl], says_no _ _ _ _⟩
  unfold expand_asks.f
  rw [size_mkB]
  match s, hs, no with
  | [], _, no => rw [if_pos (by simp)]; exact no
  | [a], _, no => rw [if_pos (by simp)]; exact no
  | [a, b], _, no => rw [if_pos (by simp)]; exact no
  | b :: c :: d :: r, hs, no =>
    have l0 : ¬ ((b :: c :: d :: r : List UInt8).length : Int) < 3 := by simp only [List.length_cons]; omega
    have l1 : (0 : Int) < ((b :: c :: d :: r : List UInt8).length : Int) := by omega
    have l2 : (1 : Int) < ((b :: c :: d :: r : List UInt8).length : Int) := by omega
    have l3 : (2 : Int) < ((b :: c :: d :: r : List UInt8).length : Int) := by omega
    have l4 : (2 : Int) ≤ ((b :: c :: d :: r : List UInt8).length : Int) := by omega
    have l5 : (3 : Int) ≤ ((b :: c :: d :: r : List UInt8).length : Int) := by omega
    have hr : r.length < 1000000000 := by simp only [List.length_cons] at hs; omega
    have e1 : bt (mkB (b :: c :: d :: r)) 1 = (c.toNat : Int) := bt_mkB (b :: c :: d :: r) 1 (by simp)
    have e2 : bt (mkB (b :: c :: d :: r)) 2 = (d.toNat : Int) := bt_mkB (b :: c :: d :: r) 2 (by simp)
    have x2 : (mkB (b :: c :: d :: r)).extract 2 (mkB (b :: c :: d :: r)).size = mkB (d :: r) := by rw [extract_mkB, size_mkB, List.take_length]; rfl
    have x3 : (mkB (b :: c :: d :: r)).extract (3 : Int).toNat (mkB (b :: c :: d :: r)).size = mkB r := by rw [extract_mkB, size_mkB, List.take_length]; rfl
    rw [size_mkB] at x2 x3
    have n2 := name_f (d :: r) (by simp only [List.length_cons] at hs ⊢; omega)
    have n3 := name_f r (by omega)
    have s2 := nm_small (d :: r)
    have s3 := nm_small r
    simp only [List.length_cons] at s2 s3
    have b92 : ((b.toNat : Int) = 92) ↔ b = 92 := b_eq (n := 92) (by decide)
    have c110 : ((c.toNat : Int) = 110) ↔ c = 110 := b_eq (n := 110) (by decide)
    have c42 : ((c.toNat : Int) = 42) ↔ c = 42 := b_eq (n := 42) (by decide)
    have c36 : ((c.toNat : Int) = 36) ↔ c = 36 := b_eq (n := 36) (by decide)
    have d43 : ((d.toNat : Int) = 43) ↔ d = 43 := b_eq (n := 43) (by decide)
    have d45 : ((d.toNat : Int) = 45) ↔ d = 45 := b_eq (n := 45) (by decide)
    rw [if_neg l0, if_pos l1, bt_head, esc]
    by_cases hb : b = 92
    · rw [show (((b.toNat : Int) != 92) : Bool) = false from bne_eq_false_iff_eq.2 (b92.2 hb), if_pos hb, expand_asks.j0, if_neg (by simp), size_mkB, if_pos l2, e1, esc3]
      by_cases h1 : c = 110
      · rw [if_pos (c110.2 h1), if_pos l3, e2, if_pos h1]
        by_cases h2 : d = 43
        · rw [if_pos (d43.2 h2), if_neg (show ¬ (1 : Nat) = 0 by decide), if_pos (show (0 : Int) ≤ 3 by decide), if_pos l5, x3, n3, Option.bind_some, if_pos h2]
          exact ⟨_, rfl, says_mk c 1 3 (nm r) (by omega) (by omega)⟩
        · rw [if_neg (fun e => h2 (d43.1 e)), if_neg h2]
          by_cases h3 : d = 45
          · rw [if_pos (d45.2 h3), if_neg (show ¬ (-1 : Int) = 0 by decide), if_pos (show (0 : Int) ≤ 3 by decide), if_pos l5, x3, n3, Option.bind_some, if_pos h3]
            exact ⟨_, rfl, says_mk c (-1) 3 (nm r) (by omega) (by omega)⟩
          · rw [if_neg (fun e => h3 (d45.1 e)), if_pos (show (0 : Nat) = 0 from rfl), if_pos l4, x2, n2, Option.bind_some, if_neg h3]
            exact ⟨_, rfl, says_mk c 0 2 (nm (d :: r)) (by omega) (by omega)⟩
      · rw [if_neg (fun e => h1 (c110.1 e)), if_neg h1]
        by_cases h2 : c = 42
        · rw [if_pos (c42.2 h2), if_pos l4, x2, n2, Option.bind_some, if_pos (Or.inl h2)]
          exact ⟨_, rfl, says_mk c 0 2 (nm (d :: r)) (by omega) (by omega)⟩
        · rw [if_neg (fun e => h2 (c42.1 e))]
          by_cases h3 : c = 36
          · rw [if_pos (c36.2 h3), if_pos l4, x2, n2, Option.bind_some, if_pos (Or.inr h3)]
            exact ⟨_, rfl, says_mk c 0 2 (nm (d :: r)) (by omega) (by omega)⟩
          · rw [if_neg (fun e => h3 (c36.1 e)), if_neg (show ¬ (c = 42 ∨ c = 36) from fun e => e.elim h2 h3)]
            exact ⟨_, rfl, says_no _ _ _ _⟩
    · rw [show (((b.toNat : Int) != 92) : Bool) = true from bne_iff_ne.2 (fun e => hb (b92.1 e)), if_neg hb]
      exact no
/-- A width: its text, and how many bytes it takes. -/
def wid : List UInt8 → Option (List UInt8 × Nat)
  | b :: k :: c :: r => if b = 92 ∧ k = 119 ∧ c ≠ 92 then (match cutB c r with | some p => some (p.1, p.1.length + 4) | none => none) else none
  | _ => none
def widV (o : Option (List UInt8 × Nat)) : ByteArray × Int := match o with | some p => (mkB p.1, (p.2 : Int)) | none => (⟨#[]⟩, 0)
theorem width_f (s : List UInt8) (hs : s.length < 1000000000) (k : Nat) : expand_width.f (k + 1) (mkB s) = some (widV (wid s)) := by
  have no : expand_width.j0 (k + 1) (mkB s) true = some (widV none) := by rw [expand_width.j0, if_pos rfl]; rfl
  unfold expand_width.f
  rw [size_mkB]
  match s, hs, no with
  | [], _, no => rw [if_pos (by simp)]; exact no
  | [a], _, no => rw [if_pos (by simp)]; exact no
  | [a, b], _, no => rw [if_pos (by simp)]; exact no
  | [b, c, d], _, no =>
    rw [if_pos (by simp), wid]
    split
    · exact no
    · exact no
  | b :: c :: d :: e :: r, hs, no =>
    obtain ⟨q, hq⟩ : ∃ q, e :: r = q := ⟨_, rfl⟩
    have hql : 0 < q.length := by rw [← hq]; simp
    rw [hq] at hs no ⊢
    have l0 : ¬ ((b :: c :: d :: q : List UInt8).length : Int) < 4 := by simp only [List.length_cons]; omega
    have l1 : (0 : Int) < ((b :: c :: d :: q : List UInt8).length : Int) := by omega
    have l2 : (1 : Int) < ((b :: c :: d :: q : List UInt8).length : Int) := by omega
    have l3 : (2 : Int) < ((b :: c :: d :: q : List UInt8).length : Int) := by omega
    have l5 : (3 : Int) ≤ ((b :: c :: d :: q : List UInt8).length : Int) := by omega
    have e1 : bt (mkB (b :: c :: d :: q)) 1 = (c.toNat : Int) := bt_mkB (b :: c :: d :: q) 1 (by simp)
    have e2 : bt (mkB (b :: c :: d :: q)) 2 = (d.toNat : Int) := bt_mkB (b :: c :: d :: q) 2 (by simp)
    have x3 : (mkB (b :: c :: d :: q)).extract 3 (mkB (b :: c :: d :: q)).size = mkB q := by rw [extract_mkB, size_mkB, List.take_length]; rfl
    rw [size_mkB] at x3
    have b92 : ((b.toNat : Int) = 92) ↔ b = 92 := b_eq (n := 92) (by decide)
    have c119 : ((c.toNat : Int) = 119) ↔ c = 119 := b_eq (n := 119) (by decide)
    have d92 : ((d.toNat : Int) = 92) ↔ d = 92 := b_eq (n := 92) (by decide)
    rw [if_neg l0, if_pos l1, bt_head, wid]
    by_cases hb : b = 92
    · rw [if_pos (b92.2 hb), if_pos l2, e1]
      by_cases hc : c = 119
      · rw [if_pos (c119.2 hc), if_pos l3, e2]
        by_cases hd : d = 92
        · rw [show (((d.toNat : Int) == 92) : Bool) = true from beq_iff_eq.2 (d92.2 hd), if_neg (show ¬ (b = 92 ∧ c = 119 ∧ d ≠ 92) from fun h => h.2.2 hd)]
          exact no
        · rw [show (((d.toNat : Int) == 92) : Bool) = false from beq_eq_false_iff_ne.2 (fun e => hd (d92.1 e)), if_pos ⟨hb, hc, hd⟩, expand_width.j0, if_neg (by simp), size_mkB, if_pos l5, if_pos l3, x3, e2]
          have ei : strings_IndexByte.f (mkB q) (d.toNat : Int) = some (match cutB d q with | none => -1 | some p => (p.1.length : Int)) := by
            show some (Lib.indexByte (mkB q).data.toList ((d.toNat : Int).toNat.toUInt8)) = _
            rw [data_mkB, Int.toNat_natCast, show (d.toNat.toUInt8) = d from UInt8.ofNat_toNat, ix_cut]
          rw [ei, Option.bind_some]
          cases hp : cutB d q with
          | none => rfl
          | some p =>
            obtain ⟨h1, h2⟩ := cut_eq (p := p.1) (q := p.2) hp
            have hl : q.length = p.1.length + (p.2.length + 1) := by
              have := congrArg List.length h1
              rw [List.length_append, List.length_cons] at this
              exact this
            have hs2 : q.length + 3 < 1000000000 := by simp only [List.length_cons] at hs; omega
            show (if (p.1.length : Int) < 0 then some ((⟨#[]⟩ : ByteArray), 0) else (if 3 ≤ (wrap64 (3 + (p.1.length : Int))) then (if (wrap64 (3 + (p.1.length : Int))) ≤ ((b :: c :: d :: q : List UInt8).length : Int) then (some ((mkB (b :: c :: d :: q)).extract 3 ((wrap64 (3 + (p.1.length : Int))) : Int).toNat, wrap64 ((p.1.length : Int) + 4))) else none) else none)) = some (mkB p.1, ((p.1.length + 4 : Nat) : Int))
            rw [if_neg (by omega), w64 (x := 3 + (p.1.length : Int)) (by omega) (by omega), w64 (x := (p.1.length : Int) + 4) (by omega) (by omega), if_pos (by omega), if_pos (by simp only [List.length_cons]; omega)]
            have ex : (mkB (b :: c :: d :: q)).extract 3 (3 + (p.1.length : Int)).toNat = mkB p.1 := by
              rw [show (3 + (p.1.length : Int)).toNat = p.1.length + 1 + 1 + 1 by omega, extract_mkB, h1, List.take_succ_cons, List.take_succ_cons, List.take_succ_cons, List.take_left]
              rfl
            rw [ex, Int.natCast_add]
            rfl
      · rw [if_neg (fun e => hc (c119.1 e)), if_neg (show ¬ (b = 92 ∧ c = 119 ∧ d ≠ 92) from fun h => hc h.2.1)]
        exact no
    · rw [if_neg (fun e => hb (b92.1 e)), if_neg (show ¬ (b = 92 ∧ c = 119 ∧ d ≠ 92) from fun h => hb h.1)]
      exact no
end Go.Proofs.Ytpflnhbhgcediaa.Esc4
