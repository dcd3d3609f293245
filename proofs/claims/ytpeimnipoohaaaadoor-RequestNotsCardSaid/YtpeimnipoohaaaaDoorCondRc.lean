/- What a condition is read as: both functions tell the same. -/
import Derived.Test.YtpeimnipoohaaaaDoorBitsS
import Derived.Test.YtpeimnipoohaaaaDoorQRcx5
namespace Go.Proofs.YtpeimnipoohaaaaDoor.P06
open Go.RowKit Go.Proofs.YtpeimnipoohaaaaDoorW.PrintWords Go.Proofs.YtpeimnipoohaaaaDoorW.PrintLast Go.Proofs.YtpeimnipoohaaaaDoorW.PrintMore Go.Proofs.YtpeimnipoohaaaaDoorN Go.Proofs.YtpeimnipoohaaaaDoor.Evl Go.Proofs.YtpeimnipoohaaaaDoor.Str Go.Proofs.YtpeimnipoohaaaaDoor.QRq Go.Proofs.YtpeimnipoohaaaaDoor.QRc
set_option linter.unusedVariables false
set_option linter.unusedSimpArgs false
abbrev C7 := Bool × Int × ByteArray × ByteArray × ByteArray × ByteArray × Int
def bad (e : Int) : C7 := (false, 0, mkB [], mkB [], mkB [], mkB [], e)
def lt (x : UInt8) : Bool := decide (97 ≤ x.toNat ∧ x.toNat ≤ 122) || decide (65 ≤ x.toNat ∧ x.toNat ≤ 90) || decide (48 ≤ x.toNat ∧ x.toNat ≤ 57)
def oth : List UInt8 := [40, 43, 45, 46, 124, 33]
def ordi (x : UInt8) : Bool := lt x || (x == 92 || oth.contains x)
def oetn : List UInt8 := [111, 101, 116, 110]
/-- What stands before and behind a byte. -/
def cutAt (c : UInt8) : List UInt8 → Option (List UInt8 × List UInt8)
  | [] => none
  | x :: t => if x = c then some ([], t) else (cutAt c t).map fun p => (x :: p.1, p.2)
theorem cutAt_eq (c : UInt8) : ∀ (s a u : List UInt8), cutAt c s = some (a, u) → s = a ++ c :: u
  | [], a, u, h => by cases h
  | x :: t, a, u, h => by
    rw [cutAt] at h
    by_cases e : x = c
    · rw [if_pos e] at h; cases h; rw [e]; rfl
    · rw [if_neg e] at h
      cases hc : cutAt c t with
      | none => rw [hc] at h; cases h
      | some p =>
        rw [hc] at h
        cases h
        rw [cutAt_eq c t p.1 p.2 hc]
        rfl
def seg (n : Bool) (x : UInt8) (t : List UInt8) : C7 :=
  match cutAt x t with
  | none => bad 4
  | some (a, u) => match cutAt x u with
    | none => bad 4
    | some (b, v) => (n, 39, mkB [], mkB a, mkB b, mkB (v.dropWhile bl), 0)
def kinds (n : Bool) (x : UInt8) (t : List UInt8) : C7 :=
  if oetn.contains x then (n, (x.toNat : Int), mkB [], mkB [], mkB [], mkB (t.dropWhile bl), 0)
  else if x = 100 ∨ x = 114 then (if t.takeWhile nb = [] then bad 4 else (n, (x.toNat : Int), mkB (t.takeWhile nb), mkB [], mkB [], mkB ((t.dropWhile nb).dropWhile bl), 0))
  else if ordi x then (n, 120, mkB ((x :: t).takeWhile nb), mkB [], mkB [], mkB (((x :: t).dropWhile nb).dropWhile bl), 0)
  else seg n x t
def cond : Bool → List UInt8 → C7
  | n, [] => bad 4
  | n, x :: t => if x = 33 then cond (!n) t else if bl x then bad 4 else kinds n x t
def condition (s : List UInt8) : C7 := if okLine s then cond false (s.dropWhile bl) else bad 1
theorem pre1 (s : List UInt8) : strings_HasPrefix.f (mkB s) (⟨#[33]⟩ : ByteArray) = some (s.take 1 == [33]) := by
  unfold strings_HasPrefix.f stringslite_HasPrefix.f
  have e2 : (⟨#[33]⟩ : ByteArray) = mkB [33] := rfl
  rw [e2, size_mkB, size_mkB]
  match s with
  | [] => rfl
  | x :: t =>
    rw [if_pos (by simp only [List.length_cons, List.length_nil]; omega), if_pos (by decide), if_pos (by simp only [List.length_cons, List.length_nil]; omega)]
    simp only [extract_mkB, toList_mkB, Option.bind_some]
    rfl
theorem ibL (L : List UInt8) (x : UInt8) : ∃ j : Int, strings_IndexByte.f (mkB L) (x.toNat : Int) = some j ∧ decide (j ≥ 0) = L.contains x := by
  refine ⟨Lib.indexByte L x, ?_, ?_⟩
  · unfold strings_IndexByte.f
    have e : ((x.toNat : Int)).toNat.toUInt8 = x := by simp
    rw [e, data_mkB]
  · show decide (0 ≤ Lib.indexByte L x) = _
    rw [Lib.contains_iff_indexByte]
theorem letter_all : ∀ n : Nat, n < 256 → request_letter.f (n : Int) = some (decide (97 ≤ n ∧ n ≤ 122) || decide (65 ≤ n ∧ n ≤ 90) || decide (48 ≤ n ∧ n ≤ 57)) := by decide +kernel
theorem letter_eq (x : UInt8) : request_letter.f (x.toNat : Int) = some (lt x) := letter_all x.toNat (by have := x.toNat_lt; omega)
theorem quote_all : ∀ n : Nat, n < 256 → ((frisketref06_letter.f (n : Int)).bind fun a => (frisketref06_digit.f (n : Int)).map fun b => (a || b)) = some (decide (97 ≤ n ∧ n ≤ 122) || decide (65 ≤ n ∧ n ≤ 90) || decide (48 ≤ n ∧ n ≤ 57)) := by decide +kernel
/-! The program's. -/
theorem splitB_cut (c : UInt8) (s : List UInt8) : Lib.indexB (mkB s) ⟨#[c]⟩ = match cutAt c s with | none => -1 | some (a, _) => (a.length : Int) := by
  rw [SplitOne.index_one, data_mkB]
  induction s with
  | nil => rfl
  | cons x t ih =>
    rw [Lib.indexByte, cutAt]
    by_cases e : x = c
    · subst e; simp
    · rw [ih]
      cases hc : cutAt c t with
      | none => simp [e]
      | some p =>
        obtain ⟨a, u⟩ := p
        simp [e]
theorem splitB_none {c : UInt8} {s : List UInt8} (k : Nat) (h : cutAt c s = none) : Lib.splitB ⟨#[c]⟩ 0 k (mkB s) = [mkB s] := by
  apply Lib.splitB_miss
  rw [splitB_cut, h]
theorem splitB_some {c : UInt8} {s a u : List UInt8} (k : Nat) (h : cutAt c s = some (a, u)) : Lib.splitB ⟨#[c]⟩ 0 (k + 1) (mkB s) = mkB a :: Lib.splitB ⟨#[c]⟩ 0 k (mkB u) := by
  have e := cutAt_eq c s a u h
  rw [Lib.splitB_hit ⟨#[c]⟩ 0 k (mkB s) a.length (by rw [splitB_cut, h])]
  congr 1
  · have := ext_drop (l := s) (i := 0) (u := a) (t := c :: u) (by rw [List.drop_zero]; exact e)
    rw [Nat.zero_add] at this
    exact this
  · congr 1
    exact rest_drop (l := s) (i := a.length + 1) (by rw [e, List.append_cons, List.drop_left' (by simp)])
theorem seg_prog (n : Bool) (x : UInt8) (t : List UInt8) (hs : t.length < 100000) : Evl (fun k => request_Condition.j3 k (mkB (x :: t)) false n 0 (mkB []) (mkB []) (mkB []) (mkB [])) (seg n x t) := by
  have tooFew : ∀ L : List ByteArray, strings_SplitN.f (mkB t) (mkB [x]) 3 = some L → L.length < 3 → Evl (fun k => request_Condition.j3 k (mkB (x :: t)) false n 0 (mkB []) (mkB []) (mkB []) (mkB [])) (bad 4) := by
    intro L hL hl
    refine Evl.succ ?_
    simp only [request_Condition.j3]
    refine Evl.neg (by simp) (Evl.pos (by rw [size_mkB]; simp only [List.length_cons]; omega) (Evl.pos (by decide) (Evl.bind (Evl.of_eq (Evl.some _) fun _ => by rw [tail_mkB, extract_mkB]; exact hL) (Evl.pos (by omega) (Evl.some _)))))
  have sp : ∀ m : Nat, m = min 3 (t.length + 1) - 1 → strings_SplitN.f (mkB t) (mkB [x]) 3 = some (Lib.splitB ⟨#[x]⟩ 0 m (mkB t)) := by
    intro m hm
    unfold strings_SplitN.f
    rw [data_mkB]
    show (if _ then _ else _) = _
    rw [size_mkB, if_pos ⟨by omega, by decide, by decide⟩, hm]
    rfl
  have three : ∀ (a b v : List UInt8), strings_SplitN.f (mkB t) (mkB [x]) 3 = some [mkB a, mkB b, mkB v] → Evl (fun k => request_Condition.j3 k (mkB (x :: t)) false n 0 (mkB []) (mkB []) (mkB []) (mkB [])) (n, 39, mkB [], mkB a, mkB b, mkB (v.dropWhile bl), 0) := by
    intro a b v hL
    refine Evl.succ ?_
    simp only [request_Condition.j3]
    refine Evl.neg (by simp) (Evl.pos (by rw [size_mkB]; simp only [List.length_cons]; omega) (Evl.pos (by decide) (Evl.bind (Evl.of_eq (Evl.some _) fun _ => by rw [tail_mkB, extract_mkB]; exact hL) (Evl.neg (by simp) (Evl.pos (by simp) (Evl.pos (by simp) (Evl.pos (by simp) ?_)))))))
    exact Evl.bind (Evl.of_eq (Evl.some _) fun _ => trim_eq v) (Evl.some _)
  unfold seg
  cases hc : cutAt x t with
  | none =>
    refine tooFew _ (sp _ rfl) ?_
    rw [splitB_none _ hc]
    simp
  | some p =>
    obtain ⟨a, u⟩ := p
    have e := cutAt_eq x t a u hc
    cases hd : cutAt x u with
    | none =>
      simp only [hd]
      have : t.length ≥ 1 := by rw [e]; simp; omega
      refine tooFew _ (sp ((min 3 (t.length + 1) - 2) + 1) (by omega)) ?_
      rw [splitB_some _ hc, splitB_none _ hd]
      simp
    | some q =>
      obtain ⟨b, v⟩ := q
      simp only [hd]
      have e2 := cutAt_eq x u b v hd
      have : t.length ≥ 2 := by rw [e, e2]; simp; omega
      refine three a b v ?_
      rw [sp 2 (by omega), splitB_some _ hc, splitB_some _ hd]
      rfl
theorem ord_prog (n : Bool) (x : UInt8) (t : List UInt8) (hs : t.length < 100000) : Evl (fun k => request_Condition.j3 k (mkB (x :: t)) true n 0 (mkB []) (mkB []) (mkB []) (mkB [])) (n, 120, mkB ((x :: t).takeWhile nb), mkB [], mkB [], mkB (((x :: t).dropWhile nb).dropWhile bl), 0) := by
  refine Evl.succ ?_
  simp only [request_Condition.j3]
  refine Evl.pos trivial (Evl.bind (Evl.of_eq (Evl.some _) fun _ => cut_f (x :: t) (by simp only [List.length_cons]; omega)) (Evl.bind (Evl.of_eq (Evl.some _) fun _ => trim_eq _) (Evl.some _)))
theorem name_prog (n : Bool) (x : UInt8) (t : List UInt8) (hs : t.length < 100000) : Evl (fun k => request_Condition.j2 k (mkB (x :: t)) (x.toNat : Int) true n 0 (mkB []) (mkB []) (mkB []) (mkB [])) (if t.takeWhile nb = [] then bad 4 else (n, (x.toNat : Int), mkB (t.takeWhile nb), mkB [], mkB [], mkB ((t.dropWhile nb).dropWhile bl), 0)) := by
  refine Evl.succ ?_
  simp only [request_Condition.j2]
  refine Evl.pos trivial (Evl.pos (by rw [size_mkB]; simp only [List.length_cons]; omega) (Evl.bind (Evl.of_eq (Evl.some _) fun _ => by rw [tail_mkB]; exact cut_f t (by omega)) ?_))
  by_cases h : t.takeWhile nb = []
  · rw [if_pos h]
    exact Evl.pos (by rw [toList_mkB]; exact h) (Evl.some _)
  · rw [if_neg h]
    exact Evl.neg (by rw [toList_mkB]; exact h) (Evl.bind (Evl.of_eq (Evl.some _) fun _ => trim_eq _) (Evl.some _))
theorem else_prog (n : Bool) (x : UInt8) (t : List UInt8) (hs : t.length < 100000) (hb : oth.contains x = false → x ≠ 33) : Evl (fun k => request_Condition.j2 k (mkB (x :: t)) (x.toNat : Int) false n 0 (mkB []) (mkB []) (mkB []) (mkB [])) (if ordi x then (n, 120, mkB ((x :: t).takeWhile nb), mkB [], mkB [], mkB (((x :: t).dropWhile nb).dropWhile bl), 0) else seg n x t) := by
  refine Evl.succ ?_
  simp only [request_Condition.j2]
  refine Evl.neg (by simp) (Evl.bind (Evl.of_eq (Evl.some _) fun _ => letter_eq x) ?_)
  cases hl : lt x with
  | true =>
    rw [if_pos (show ordi x = true by unfold ordi; rw [hl]; rfl)]
    exact Evl.pos rfl (ord_prog n x t hs)
  | false =>
    obtain ⟨j, hj, hd⟩ := ibL [40, 43, 45, 46, 124, 33, 92] x
    refine Evl.neg (by simp) (Evl.bind (Evl.of_eq (Evl.some _) fun _ => hj) ?_)
    rw [hd]
    have e : ([40, 43, 45, 46, 124, 33, 92] : List UInt8).contains x = ordi x := by
      unfold ordi oth
      rw [hl, Bool.false_or]
      simp only [List.contains_cons, List.contains_nil, Bool.or_false]
      cases (x == 92) <;> simp
    rw [e]
    cases ordi x with
    | true => exact ord_prog n x t hs
    | false => exact seg_prog n x t hs
theorem kinds_prog (n : Bool) (x : UInt8) (t : List UInt8) (hs : t.length < 100000) : Evl (fun k => request_Condition.j1 k (mkB (x :: t)) false n 0 (mkB []) (mkB []) (mkB []) (mkB [])) (kinds n x t) := by
  refine Evl.succ ?_
  simp only [request_Condition.j1, bt_head]
  obtain ⟨j, hj, hd⟩ := ibL oetn x
  refine Evl.neg (by simp) (Evl.pos (by rw [size_mkB]; simp only [List.length_cons]; omega) (Evl.bind (Evl.of_eq (Evl.some _) fun _ => hj) ?_))
  unfold kinds
  cases hc : oetn.contains x with
  | true =>
    rw [hc, decide_eq_true_eq] at hd
    refine Evl.pos hd (Evl.pos (by rw [size_mkB]; simp only [List.length_cons]; omega) (Evl.bind (Evl.of_eq (Evl.some _) fun _ => by rw [tail_mkB]; exact trim_eq t) (Evl.some _)))
  | false =>
    rw [hc, decide_eq_false_iff_not] at hd
    refine Evl.neg hd ?_
    rw [if_neg (by simp)]
    by_cases h1 : x = 100
    · rw [if_pos (Or.inl h1)]
      exact Evl.pos ((b_eq (n := 100) (by decide)).2 h1) (name_prog n x t hs)
    · refine Evl.neg (fun e => h1 ((b_eq (n := 100) (by decide)).1 e)) ?_
      by_cases h2 : x = 114
      · rw [if_pos (Or.inr h2)]
        have e : ((x.toNat : Int) == 114) = true := beq_iff_eq.2 ((b_eq (n := 114) (by decide)).2 h2)
        rw [e]
        exact name_prog n x t hs
      · rw [if_neg (fun e => e.elim h1 h2)]
        have e : ((x.toNat : Int) == 114) = false := beq_eq_false_iff_ne.2 fun e => h2 ((b_eq (n := 114) (by decide)).1 e)
        rw [e]
        exact else_prog n x t hs (fun h h33 => by rw [h33] at h; cases h)
theorem cond_prog : ∀ (s : List UInt8) (n : Bool), s.length < 100000 → Evl (fun k => request_Condition.l0 k (mkB s) n 0 (mkB []) (mkB []) (mkB []) (mkB [])) (cond n s)
  | [], n, hs => by
    refine Evl.succ ?_
    simp only [request_Condition.l0]
    refine Evl.bind (Evl.of_eq (Evl.some _) fun _ => pre1 []) (Evl.neg (by decide) (Evl.pos (by rw [toList_mkB]) (Evl.succ ?_)))
    simp only [request_Condition.j1]
    exact Evl.pos trivial (Evl.some _)
  | x :: t, n, hs => by
    refine Evl.succ ?_
    simp only [request_Condition.l0, bt_head]
    refine Evl.bind (Evl.of_eq (Evl.some _) fun _ => pre1 (x :: t)) ?_
    simp only [List.length_cons] at hs
    rw [cond]
    by_cases h : x = 33
    · rw [if_pos h]
      refine Evl.pos (by rw [h]; rfl) (Evl.pos (by rw [size_mkB]; simp only [List.length_cons]; omega) ?_)
      rw [tail_mkB]
      exact cond_prog t (!n) (by omega)
    · rw [if_neg h]
      refine Evl.neg (fun e => h (by simpa using e)) (Evl.neg (by rw [toList_mkB]; simp) (Evl.pos (by rw [size_mkB]; simp only [List.length_cons]; omega) (Evl.bind (Evl.of_eq (Evl.some _) fun _ => ib_blank x) ?_)))
      cases hb : bl x with
      | true =>
        rw [if_pos rfl, if_pos rfl]
        have e : decide ((if x = 32 then (0 : Int) else 1) ≥ 0) = true := by split <;> rfl
        rw [e]
        refine Evl.succ ?_
        simp only [request_Condition.j1]
        exact Evl.pos trivial (Evl.some _)
      | false =>
        rw [if_neg (by simp), if_neg (by simp)]
        exact kinds_prog n x t (by omega)
theorem Condition_prog (s : List UInt8) (hs : s.length < 100000) : Evl (fun k => request_Condition.f k (mkB s)) (condition s) := by
  unfold request_Condition.f condition
  refine Evl.bind (Evl.of_eq (Evl.some _) fun _ => fits_f s) ?_
  cases okLine s with
  | true =>
    rw [if_pos rfl]
    have := dropW_len bl s
    exact Evl.pos rfl (Evl.bind (Evl.of_eq (Evl.some _) fun _ => trim_eq s) (cond_prog _ false (by omega)))
  | false => exact Evl.neg (by simp) (Evl.some _)
/-! The document's. -/
theorem to_ref (s : List UInt8) (hs : s.length < 100000) (c : UInt8) : ∀ (r : List UInt8) (i : Nat), s.drop i = r → i ≤ s.length →
    Evl (fun k => frisketref06_to.l0 k (mkB s) (i : Int) (c.toNat : Int)) (match cutAt c r with | none => -1 | some (a, _) => ((i + a.length : Nat) : Int))
  | [], i, h, hi => by
    have hl := drop_len h hi
    refine Evl.succ ?_
    simp only [frisketref06_to.l0]
    exact Evl.neg (by rw [size_mkB]; simp at hl; omega) (Evl.some _)
  | x :: t, i, h, hi => by
    obtain ⟨h1, h2, h3⟩ := drop_cons h
    refine Evl.succ ?_
    simp only [frisketref06_to.l0]
    refine Evl.pos (by rw [size_mkB]; omega) (Evl.pos (by omega) ?_)
    rw [bt_drop h, cutAt]
    by_cases hx : x = c
    · rw [if_pos hx]
      exact Evl.pos (by rw [hx]) (Evl.some _)
    · rw [if_neg hx]
      refine Evl.neg (fun e => hx (UInt8.toNat_inj.1 (by omega))) ?_
      rw [wn (by omega)]
      have := to_ref s hs c t (i + 1) h2 (by omega)
      cases hc : cutAt c t with
      | none => rw [hc] at this; exact this
      | some p =>
        rw [hc] at this
        obtain ⟨a, u⟩ := p
        have e : i + 1 + a.length = i + (a.length + 1) := by omega
        simp only [e] at this
        exact this
theorem letter_ref_all : ∀ n : Nat, n < 256 → frisketref06_letter.f (n : Int) = some (decide (97 ≤ n ∧ n ≤ 122) || decide (65 ≤ n ∧ n ≤ 90)) := by decide +kernel
theorem digit_ref_all : ∀ n : Nat, n < 256 → frisketref06_digit.f (n : Int) = some (decide (48 ≤ n ∧ n ≤ 57)) := by decide +kernel
theorem quotes_l0 (x : UInt8) : ∀ (r : List UInt8) (i : Nat), oth.drop i = r → i ≤ oth.length → Evl (fun k => frisketref06_quotes.l0 k (x.toNat : Int) (mkB oth) (i : Int)) (!r.contains x)
  | [], i, h, hi => by
    have hl := drop_len h hi
    refine Evl.succ ?_
    simp only [frisketref06_quotes.l0]
    exact Evl.neg (by rw [size_mkB]; simp at hl; omega) (Evl.some _)
  | y :: t, i, h, hi => by
    obtain ⟨h1, h2, h3⟩ := drop_cons h
    have h6 : oth.length = 6 := rfl
    refine Evl.succ ?_
    simp only [frisketref06_quotes.l0]
    refine Evl.pos (by rw [size_mkB]; omega) (Evl.pos (by omega) ?_)
    rw [bt_drop h]
    by_cases hx : y = x
    · rw [List.contains_cons, show (x == y) = true from beq_iff_eq.2 hx.symm]
      exact Evl.pos (by rw [hx]) (Evl.some _)
    · rw [List.contains_cons, show (x == y) = false from beq_eq_false_iff_ne.2 fun e => hx e.symm, Bool.false_or]
      refine Evl.neg (fun e => hx (UInt8.toNat_inj.1 (by omega))) ?_
      rw [wn (by omega)]
      exact quotes_l0 x t (i + 1) h2 (by omega)
theorem quotes_ref (x : UInt8) (hb : bl x = false) : Evl (fun k => frisketref06_quotes.f k (x.toNat : Int)) (!ordi x) := by
  have hlt := x.toNat_lt
  have no : Evl (fun k => frisketref06_quotes.j0 k (x.toNat : Int) true) false := by
    refine Evl.succ ?_
    simp only [frisketref06_quotes.j0]
    exact Evl.pos trivial (Evl.some _)
  unfold frisketref06_quotes.f
  refine Evl.bind (Evl.of_eq (Evl.some _) fun _ => letter_ref_all x.toNat (by omega)) ?_
  cases h1 : (decide (97 ≤ x.toNat ∧ x.toNat ≤ 122) || decide (65 ≤ x.toNat ∧ x.toNat ≤ 90)) with
  | true =>
    rw [show ordi x = true by unfold ordi lt; rw [h1]; rfl]
    exact Evl.pos rfl no
  | false =>
    refine Evl.neg (by simp) (Evl.bind (Evl.of_eq (Evl.some _) fun _ => digit_ref_all x.toNat (by omega)) ?_)
    cases h2 : decide (48 ≤ x.toNat ∧ x.toNat ≤ 57) with
    | true =>
      rw [show ordi x = true by unfold ordi lt; rw [h1, h2]; rfl]
      exact Evl.pos rfl no
    | false =>
      have hl : lt x = false := by unfold lt; rw [h1, h2]; rfl
      refine Evl.neg (by simp) (Evl.bind (Evl.of_eq (Evl.some _) fun _ => blank_eq x) (Evl.neg (by rw [hb]; simp) ?_))
      unfold ordi
      rw [hl, Bool.false_or]
      by_cases h92 : x = 92
      · have e : ((x.toNat : Int) == 92) = true := beq_iff_eq.2 ((b_eq (n := 92) (by decide)).2 h92)
        rw [e, show (x == 92) = true from beq_iff_eq.2 h92]
        exact no
      · have e : ((x.toNat : Int) == 92) = false := beq_eq_false_iff_ne.2 fun e => h92 ((b_eq (n := 92) (by decide)).1 e)
        rw [e, show (x == 92) = false from beq_eq_false_iff_ne.2 h92, Bool.false_or]
        refine Evl.succ ?_
        simp only [frisketref06_quotes.j0]
        exact Evl.neg (by simp) (quotes_l0 x oth 0 rfl (by decide))
theorem nbe : nb = fun b => !bl b := rfl
theorem word_here (s : List UInt8) (hs : s.length < 100000) (i : Nat) (x : UInt8) (t : List UInt8) (h : s.drop i = x :: t) (hb : bl x = false) :
    ∃ j : Nat, Evl (fun k => frisketref06_word.f k (mkB s) (i : Int)) (j : Int) ∧ s.drop j = t.dropWhile nb ∧ i + 1 ≤ j ∧ j ≤ s.length ∧ (mkB s).extract (i + 1) j = mkB (t.takeWhile nb) ∧ (mkB s).extract i j = mkB (x :: t.takeWhile nb) ∧ (j = i + 1 ↔ t.takeWhile nb = []) := by
  obtain ⟨h1, h2, h3⟩ := drop_cons h
  obtain ⟨j, hj, hd, h4, h5, h6⟩ := word_ref s (by omega) t (i + 1) h2 (by omega)
  refine ⟨j, ?_, hd, h4, h5, h6, ?_, ?_⟩
  · unfold frisketref06_word.f
    refine Evl.succ ?_
    simp only [frisketref06_word.l0]
    refine Evl.pos (by rw [size_mkB]; omega) (Evl.pos (by omega) (Evl.bind (Evl.of_eq (Evl.some _) fun _ => by rw [bt_drop h]; exact blank_eq x) (Evl.neg (by rw [hb]; simp) ?_)))
    rw [wn (by omega)]
    exact hj
  · have e := h6
    rw [extract_mkB] at e ⊢
    have e1 := mkB_inj e
    rw [List.drop_take] at e1 ⊢
    rw [h2] at e1
    rw [h, show j - i = (j - (i + 1)) + 1 by omega, List.take_succ_cons, e1]
    rfl
  · have e := congrArg ByteArray.size h6
    rw [ByteArray.size_extract, size_mkB, size_mkB] at e
    rw [nbe, ← List.length_eq_zero_iff]
    omega
theorem fin_skip (s : List UInt8) (hs : s.length < 100000) (j : Nat) (r : List UInt8) (h : s.drop j = r) (hj : j ≤ s.length) :
    ∃ m : Nat, Evl (fun k => frisketref06_skip.f k (mkB s) (j : Int)) (m : Int) ∧ m ≤ s.length ∧ (mkB s).extract m (mkB s).size = mkB (r.dropWhile bl) := by
  obtain ⟨m, hm, hd, h1, h2⟩ := skip_l0 s (by omega) r j h hj
  exact ⟨m, hm, h2, rest_drop hd⟩
theorem name_ref (s : List UInt8) (hs : s.length < 100000) (n : Bool) (i : Nat) (x : UInt8) (t : List UInt8) (h : s.drop i = x :: t) (hb : bl x = false) :
    Evl (fun k => frisketref06_Condition.j4 k (mkB s) (i : Int) (x.toNat : Int) true n 0 (mkB []) (mkB []) (mkB []) (mkB [])) (if t.takeWhile nb = [] then bad 4 else (n, (x.toNat : Int), mkB (t.takeWhile nb), mkB [], mkB [], mkB ((t.dropWhile nb).dropWhile bl), 0)) := by
  obtain ⟨h1, h2, h3⟩ := drop_cons h
  obtain ⟨j, hj, hd, h4, h5, h6, h7, h8⟩ := word_here s hs i x t h hb
  obtain ⟨m, hm, hm1, hm2⟩ := fin_skip s hs j _ hd h5
  refine Evl.succ ?_
  simp only [frisketref06_Condition.j4]
  rw [wn (by omega)]
  simp only [Int.toNat_natCast]
  refine Evl.pos trivial (Evl.bind hj ?_)
  by_cases he : t.takeWhile nb = []
  · rw [if_pos he]
    exact Evl.pos (by rw [h8.2 he]) (Evl.some _)
  · rw [if_neg he]
    refine Evl.neg (fun e => he (h8.1 (by omega))) (Evl.pos (by omega) (Evl.pos (by omega) (Evl.pos (by rw [size_mkB]; omega) (Evl.bind hm (Evl.pos (by omega) (Evl.pos (by rw [size_mkB]; omega) ?_))))))
    simp only [Int.toNat_natCast]
    rw [h6, hm2]
    exact Evl.some _
theorem seg_ref (s : List UInt8) (hs : s.length < 100000) (n : Bool) (i : Nat) (x : UInt8) (t : List UInt8) (h : s.drop i = x :: t) :
    Evl (fun k => (frisketref06_to.f k (mkB s) (wrap64 ((i : Int) + 1)) (x.toNat : Int)).bind fun t137 => (if t137 < 0 then (some (false, 0, (⟨#[]⟩ : ByteArray), (⟨#[]⟩ : ByteArray), (⟨#[]⟩ : ByteArray), (⟨#[]⟩ : ByteArray), 4)) else ((frisketref06_to.f k (mkB s) (wrap64 (t137 + 1)) (x.toNat : Int)).bind fun t138 => (if t138 < 0 then (some (false, 0, (⟨#[]⟩ : ByteArray), (⟨#[]⟩ : ByteArray), (⟨#[]⟩ : ByteArray), (⟨#[]⟩ : ByteArray), 4)) else (if 0 ≤ (wrap64 ((i : Int) + 1)) then (if (wrap64 ((i : Int) + 1)) ≤ t137 then (if t137 ≤ ((mkB s).size : Int) then (if 0 ≤ (wrap64 (t137 + 1)) then (if (wrap64 (t137 + 1)) ≤ t138 then (if t138 ≤ ((mkB s).size : Int) then ((frisketref06_skip.f k (mkB s) (wrap64 (t138 + 1))).bind fun t139 => (if 0 ≤ t139 then (if t139 ≤ ((mkB s).size : Int) then (some (n, 39, mkB [], (mkB s).extract ((wrap64 ((i : Int) + 1)) : Int).toNat (t137 : Int).toNat, (mkB s).extract ((wrap64 (t137 + 1)) : Int).toNat (t138 : Int).toNat, (mkB s).extract (t139 : Int).toNat (mkB s).size, 0)) else (none)) else (none))) else (none)) else (none)) else (none)) else (none)) else (none)) else (none)))))) (seg n x t) := by
  obtain ⟨h1, h2, h3⟩ := drop_cons h
  have q := to_ref s hs x t (i + 1) h2 (by omega)
  rw [wn (by omega)]
  unfold seg frisketref06_to.f
  cases hc : cutAt x t with
  | none =>
    rw [hc] at q
    exact Evl.bind q (Evl.pos (show (-1 : Int) < 0 by decide) (Evl.some _))
  | some p =>
    obtain ⟨a, u⟩ := p
    rw [hc] at q
    have e := cutAt_eq x t a u hc
    have hl := drop_len h2 (by omega)
    have ht : t.length = a.length + (u.length + 1) := by rw [e]; simp
    have hu : s.drop (i + 1 + a.length + 1) = u := by
      rw [show i + 1 + a.length + 1 = (i + 1) + (a.length + 1) by omega, ← List.drop_drop, h2, e, List.append_cons, List.drop_left' (by simp)]
    have q2 := to_ref s hs x u (i + 1 + a.length + 1) hu (by omega)
    have hw : wrap64 (((i + 1 + a.length : Nat) : Int) + 1) = ((i + 1 + a.length + 1 : Nat) : Int) := wn (by omega)
    simp only at q
    refine Evl.bind q (Evl.neg (by omega) ?_)
    rw [hw]
    cases hd : cutAt x u with
    | none =>
      rw [hd] at q2
      simp only [hd]
      exact Evl.bind q2 (Evl.pos (show (-1 : Int) < 0 by decide) (Evl.some _))
    | some p =>
      obtain ⟨b, v⟩ := p
      rw [hd] at q2
      simp only at q2
      have e2 := cutAt_eq x u b v hd
      have hul : u.length = b.length + (v.length + 1) := by rw [e2]; simp
      have hv : s.drop (i + 1 + a.length + 1 + b.length + 1) = v := by
        rw [show i + 1 + a.length + 1 + b.length + 1 = (i + 1 + a.length + 1) + (b.length + 1) by omega, ← List.drop_drop, hu, e2, List.append_cons, List.drop_left' (by simp)]
      have hw2 : wrap64 (((i + 1 + a.length + 1 + b.length : Nat) : Int) + 1) = ((i + 1 + a.length + 1 + b.length + 1 : Nat) : Int) := wn (by omega)
      obtain ⟨m, hm, hm1, hm2⟩ := fin_skip s hs _ _ hv (by omega)
      have x1 := ext_drop (l := s) (i := i + 1) (u := a) (t := x :: u) (by rw [h2]; exact e)
      have x2 := ext_drop (l := s) (i := i + 1 + a.length + 1) (u := b) (t := x :: v) (by rw [hu]; exact e2)
      simp only [hd]
      refine Evl.bind q2 (Evl.neg (by omega) (Evl.pos (by omega) (Evl.pos (by omega) (Evl.pos (by rw [size_mkB]; omega) (Evl.pos (by omega) (Evl.pos (by omega) (Evl.pos (by rw [size_mkB]; omega) ?_)))))))
      rw [hw2]
      refine Evl.bind hm (Evl.pos (by omega) (Evl.pos (by rw [size_mkB]; omega) ?_))
      simp only [Int.toNat_natCast]
      rw [x1, x2, hm2]
      exact Evl.some _
theorem else_ref (s : List UInt8) (hs : s.length < 100000) (n : Bool) (i : Nat) (x : UInt8) (t : List UInt8) (h : s.drop i = x :: t) (hb : bl x = false) :
    Evl (fun k => frisketref06_Condition.j4 k (mkB s) (i : Int) (x.toNat : Int) false n 0 (mkB []) (mkB []) (mkB []) (mkB [])) (if ordi x then (n, 120, mkB ((x :: t).takeWhile nb), mkB [], mkB [], mkB (((x :: t).dropWhile nb).dropWhile bl), 0) else seg n x t) := by
  obtain ⟨h1, h2, h3⟩ := drop_cons h
  have en : nb x = true := by unfold nb; rw [hb]; rfl
  refine Evl.succ ?_
  simp only [frisketref06_Condition.j4]
  refine Evl.neg (by simp) (Evl.bind (quotes_ref x hb) ?_)
  cases ho : ordi x with
  | true =>
    obtain ⟨j, hj, hd, h4, h5, h6, h7, h8⟩ := word_here s hs i x t h hb
    obtain ⟨m, hm, hm1, hm2⟩ := fin_skip s hs j _ hd h5
    rw [if_pos rfl, List.takeWhile_cons, List.dropWhile_cons, en, if_pos rfl, if_pos rfl]
    refine Evl.neg (by simp) (Evl.bind hj (Evl.pos (by omega) (Evl.pos (by omega) (Evl.pos (by rw [size_mkB]; omega) (Evl.bind hm (Evl.pos (by omega) (Evl.pos (by rw [size_mkB]; omega) ?_)))))))
    simp only [Int.toNat_natCast]
    rw [h7, hm2]
    exact Evl.some _
  | false =>
    rw [if_neg (by simp)]
    exact Evl.pos rfl (seg_ref s hs n i x t h)
theorem kinds_ref (s : List UInt8) (hs : s.length < 100000) (n : Bool) (i : Nat) (x : UInt8) (t : List UInt8) (h : s.drop i = x :: t) (hb : bl x = false) :
    Evl (fun k => frisketref06_Condition.j2 k (mkB s) (i : Int) false n 0 (mkB []) (mkB []) (mkB []) (mkB [])) (kinds n x t) := by
  obtain ⟨h1, h2, h3⟩ := drop_cons h
  have one : oetn.contains x = true → Evl (fun k => frisketref06_Condition.j3 k (mkB s) (i : Int) (x.toNat : Int) true n 0 (mkB []) (mkB []) (mkB []) (mkB [])) (kinds n x t) := by
    intro hc
    unfold kinds
    rw [if_pos hc]
    obtain ⟨m, hm, hm1, hm2⟩ := fin_skip s hs (i + 1) t h2 (by omega)
    refine Evl.succ ?_
    simp only [frisketref06_Condition.j3]
    rw [wn (by omega)]
    refine Evl.pos trivial (Evl.bind hm (Evl.pos (by omega) (Evl.pos (by rw [size_mkB]; omega) ?_)))
    simp only [Int.toNat_natCast]
    rw [hm2]
    exact Evl.some _
  have two : oetn.contains x = false → Evl (fun k => frisketref06_Condition.j3 k (mkB s) (i : Int) (x.toNat : Int) false n 0 (mkB []) (mkB []) (mkB []) (mkB [])) (kinds n x t) := by
    intro hc
    unfold kinds
    rw [if_neg (by rw [hc]; simp)]
    refine Evl.succ ?_
    simp only [frisketref06_Condition.j3]
    refine Evl.neg (by simp) ?_
    by_cases e1 : x = 100
    · rw [if_pos (Or.inl e1)]
      exact Evl.pos ((b_eq (n := 100) (by decide)).2 e1) (name_ref s hs n i x t h hb)
    · refine Evl.neg (fun e => e1 ((b_eq (n := 100) (by decide)).1 e)) ?_
      by_cases e2 : x = 114
      · rw [if_pos (Or.inr e2)]
        have e : ((x.toNat : Int) == 114) = true := beq_iff_eq.2 ((b_eq (n := 114) (by decide)).2 e2)
        rw [e]
        exact name_ref s hs n i x t h hb
      · rw [if_neg (fun e => e.elim e1 e2)]
        have e : ((x.toNat : Int) == 114) = false := beq_eq_false_iff_ne.2 fun e => e2 ((b_eq (n := 114) (by decide)).1 e)
        rw [e]
        exact else_ref s hs n i x t h hb
  refine Evl.succ ?_
  simp only [frisketref06_Condition.j2]
  rw [bt_drop h]
  refine Evl.neg (by simp) (Evl.pos (by omega) (Evl.pos (by rw [size_mkB]; omega) ?_))
  by_cases c1 : x = 111
  · exact Evl.pos ((b_eq (n := 111) (by decide)).2 c1) (one (by rw [c1]; rfl))
  refine Evl.neg (fun e => c1 ((b_eq (n := 111) (by decide)).1 e)) ?_
  by_cases c2 : x = 101
  · exact Evl.pos ((b_eq (n := 101) (by decide)).2 c2) (one (by rw [c2]; rfl))
  refine Evl.neg (fun e => c2 ((b_eq (n := 101) (by decide)).1 e)) ?_
  by_cases c3 : x = 116
  · exact Evl.pos ((b_eq (n := 116) (by decide)).2 c3) (one (by rw [c3]; rfl))
  refine Evl.neg (fun e => c3 ((b_eq (n := 116) (by decide)).1 e)) ?_
  by_cases c4 : x = 110
  · have e : ((x.toNat : Int) == 110) = true := beq_iff_eq.2 ((b_eq (n := 110) (by decide)).2 c4)
    rw [e]
    exact one (by rw [c4]; rfl)
  · have e : ((x.toNat : Int) == 110) = false := beq_eq_false_iff_ne.2 fun e => c4 ((b_eq (n := 110) (by decide)).1 e)
    rw [e]
    refine two ?_
    unfold oetn
    simp only [List.contains_cons, List.contains_nil, Bool.or_false, beq_eq_false_iff_ne.2 c1, beq_eq_false_iff_ne.2 c2, beq_eq_false_iff_ne.2 c3, beq_eq_false_iff_ne.2 c4]
theorem cond_ref (s : List UInt8) (hs : s.length < 100000) : ∀ (r : List UInt8) (n : Bool) (i : Nat), s.drop i = r → i ≤ s.length →
    Evl (fun k => frisketref06_Condition.l0 k (mkB s) (i : Int) n 0 (mkB []) (mkB []) (mkB []) (mkB [])) (cond n r)
  | [], n, i, h, hi => by
    have hl := drop_len h hi
    simp only [List.length_nil] at hl
    refine Evl.succ ?_
    simp only [frisketref06_Condition.l0]
    refine Evl.neg (by rw [size_mkB]; omega) (Evl.succ ?_)
    simp only [frisketref06_Condition.j1]
    refine Evl.pos (by rw [size_mkB]; omega) (Evl.succ ?_)
    simp only [frisketref06_Condition.j2]
    exact Evl.pos trivial (Evl.some _)
  | x :: t, n, i, h, hi => by
    obtain ⟨h1, h2, h3⟩ := drop_cons h
    refine Evl.succ ?_
    simp only [frisketref06_Condition.l0]
    rw [bt_drop h, cond]
    refine Evl.pos (by rw [size_mkB]; omega) (Evl.pos (by omega) ?_)
    by_cases e : x = 33
    · rw [if_pos e, wn (by omega)]
      exact Evl.pos ((b_eq (n := 33) (by decide)).2 e) (cond_ref s hs t (!n) (i + 1) h2 (by omega))
    · rw [if_neg e]
      refine Evl.neg (fun q => e ((b_eq (n := 33) (by decide)).1 q)) (Evl.succ ?_)
      simp only [frisketref06_Condition.j1]
      rw [bt_drop h]
      refine Evl.neg (by rw [size_mkB]; omega) (Evl.pos (by omega) (Evl.pos (by rw [size_mkB]; omega) (Evl.bind (Evl.of_eq (Evl.some _) fun _ => blank_eq x) ?_)))
      cases hb : bl x with
      | true =>
        rw [if_pos rfl]
        refine Evl.succ ?_
        simp only [frisketref06_Condition.j2]
        exact Evl.pos trivial (Evl.some _)
      | false =>
        rw [if_neg (by simp)]
        exact kinds_ref s hs n i x t h hb
theorem Condition_ref (s : List UInt8) (hs : s.length < 100000) : Evl (fun k => frisketref06_Condition.f k (mkB s)) (condition s) := by
  unfold frisketref06_Condition.f condition
  refine Evl.bind (line_f s (by omega)) ?_
  cases okLine s with
  | true =>
    rw [if_pos rfl]
    obtain ⟨j, hj, hd, h4, h5⟩ := skip_l0 s (by omega) s 0 List.drop_zero (by omega)
    exact Evl.pos rfl (Evl.bind hj (cond_ref s hs _ false j hd h5))
  | false => exact Evl.neg (by simp) (Evl.some _)
theorem conditions_f (s : List UInt8) (hs : s.length < 100000) : Evl (fun k => frisketlaw06_conditions.f k (mkB s)) true := by
  unfold frisketlaw06_conditions.f
  refine Evl.bind (Condition_prog s hs) (Evl.bind (Condition_ref s hs) ?_)
  refine Evl.pos rfl (Evl.pos (by simp) (Evl.pos rfl (Evl.pos rfl (Evl.pos rfl (Evl.pos rfl ?_)))))
  rw [beq_self_eq_true]
  exact Evl.some _
theorem RequestConditions_ev (a : ByteArray) (l : List Int) (hw : ∀ x ∈ l, (Lit.int .u8 x).wf = true) : Evl (fun k => frisketlaw06_RequestConditions.f k a l) true := by
  rw [mkB_data a]
  generalize a.data.toList = s
  unfold frisketlaw06_RequestConditions.f
  rw [size_mkB]
  have good : Evl (fun k => frisketlaw06_RequestConditions.j0 k (mkB s) l true) true := by
    refine Evl.succ ?_
    simp only [frisketlaw06_RequestConditions.j0]
    exact Evl.pos trivial (Evl.bind sane_f (Evl.some _))
  by_cases h : (s.length : Int) > 2200
  · exact Evl.pos h good
  refine Evl.neg h ?_
  by_cases h40 : (l.length : Int) > 40
  · rw [decide_eq_true h40]; exact good
  · rw [decide_eq_false h40]
    obtain ⟨t, ht, htl⟩ := bits_f l (by omega) hw
    refine Evl.succ ?_
    simp only [frisketlaw06_RequestConditions.j0]
    exact Evl.neg (by simp) (Evl.bind (conditions_f s (by omega)) (Evl.pos rfl (Evl.bind ht (Evl.bind (conditions_f t (by omega)) (Evl.pos rfl (Evl.bind sane_f (Evl.some _)))))))
/-! ### one more ! in front -/
theorem cond_flip : ∀ (s : List UInt8) (n : Bool), (cond n s = bad 4 ∧ cond (!n) s = bad 4) ∨ ∃ m K N L R E, cond n s = (m, K, N, L, R, E, 0) ∧ cond (!n) s = (!m, K, N, L, R, E, 0)
  | [], n => Or.inl ⟨rfl, rfl⟩
  | x :: t, n => by
    simp only [cond]
    by_cases e : x = 33
    · rw [if_pos e, if_pos e]
      exact cond_flip t (!n)
    · rw [if_neg e, if_neg e]
      cases bl x with
      | true => exact Or.inl ⟨rfl, rfl⟩
      | false =>
        rw [if_neg (by simp), if_neg (by simp)]
        unfold kinds
        by_cases h1 : oetn.contains x = true
        · rw [if_pos h1, if_pos h1]; exact Or.inr ⟨_, _, _, _, _, _, rfl, rfl⟩
        · rw [if_neg h1, if_neg h1]
          by_cases h2 : x = 100 ∨ x = 114
          · rw [if_pos h2, if_pos h2]
            by_cases h3 : t.takeWhile nb = []
            · rw [if_pos h3, if_pos h3]; exact Or.inl ⟨rfl, rfl⟩
            · rw [if_neg h3, if_neg h3]; exact Or.inr ⟨_, _, _, _, _, _, rfl, rfl⟩
          · rw [if_neg h2, if_neg h2]
            cases ordi x with
            | true => exact Or.inr ⟨_, _, _, _, _, _, rfl, rfl⟩
            | false =>
              rw [if_neg (by simp), if_neg (by simp)]
              unfold seg
              cases cutAt x t with
              | none => exact Or.inl ⟨rfl, rfl⟩
              | some p =>
                obtain ⟨a, u⟩ := p
                simp only
                cases cutAt x u with
                | none => exact Or.inl ⟨rfl, rfl⟩
                | some q => exact Or.inr ⟨_, _, _, _, _, _, rfl, rfl⟩
theorem condition_bang (s : List UInt8) (hs : s.length ≤ 1000) : condition (33 :: s) = if okLine s then cond true s else bad 1 := by
  unfold condition
  have e : okLine (33 :: s) = okLine s := by
    unfold okLine
    rw [decide_eq_true (show (33 :: s).length ≤ 2000 by simp only [List.length_cons]; omega), decide_eq_true (show s.length ≤ 2000 by omega), List.contains_cons]
    rfl
  rw [e]
  rfl
theorem RequestNots_ev (a : ByteArray) : Evl (fun k => frisketlaw06_RequestNots.f k a) true := by
  rw [mkB_data a]
  generalize a.data.toList = s
  unfold frisketlaw06_RequestNots.f
  have good : Evl (fun k => frisketlaw06_RequestNots.j0 k (mkB s) true) true := by
    refine Evl.succ ?_
    simp only [frisketlaw06_RequestNots.j0]
    exact Evl.pos trivial (Evl.bind sane_f (Evl.some _))
  rw [size_mkB]
  by_cases h : (s.length : Int) > 500
  · exact Evl.pos h good
  refine Evl.neg h ?_
  cases s with
  | nil => exact Evl.pos rfl good
  | cons x t =>
    simp only [bt_head]
    simp only [List.length_cons] at h
    refine Evl.neg (by simp only [List.length_cons]; omega) (Evl.pos (by simp only [List.length_cons]; omega) ?_)
    by_cases e1 : x = 32
    · exact Evl.pos ((b_eq (n := 32) (by decide)).2 e1) good
    refine Evl.neg (fun q => e1 ((b_eq (n := 32) (by decide)).1 q)) ?_
    by_cases e2 : x = 9
    · have e : ((x.toNat : Int) == 9) = true := beq_iff_eq.2 ((b_eq (n := 9) (by decide)).2 e2)
      rw [e]
      exact good
    have e : ((x.toNat : Int) == 9) = false := beq_eq_false_iff_ne.2 fun e => e2 ((b_eq (n := 9) (by decide)).1 e)
    rw [e]
    have hb : bl x = false := by unfold bl; rw [beq_eq_false_iff_ne.2 e1, beq_eq_false_iff_ne.2 e2]; rfl
    have hl : (x :: t).length ≤ 500 := by simp only [List.length_cons]; omega
    have p1 := Condition_prog (x :: t) (by omega)
    have p2 := Condition_prog (33 :: x :: t) (by rw [List.length_cons]; omega)
    have p3 := Condition_prog (33 :: 33 :: x :: t) (by rw [List.length_cons, List.length_cons]; omega)
    have q1 : condition (x :: t) = if okLine (x :: t) then cond false (x :: t) else bad 1 := by
      unfold condition
      rw [List.dropWhile_cons, hb]
      rfl
    have q2 := condition_bang (x :: t) (by omega)
    have q3 := condition_bang (33 :: x :: t) (by rw [List.length_cons]; omega)
    have q4 : okLine (33 :: x :: t) = okLine (x :: t) := by
      unfold okLine
      rw [decide_eq_true (show (33 :: x :: t).length ≤ 2000 by rw [List.length_cons]; omega), decide_eq_true (show (x :: t).length ≤ 2000 by omega), List.contains_cons]
      rfl
    have q5 : cond true (33 :: x :: t) = cond false (x :: t) := rfl
    rw [q1] at p1
    rw [q2] at p2
    rw [q3, q4, q5] at p3
    clear q1 q2 q3 q4 q5
    refine Evl.succ ?_
    simp only [frisketlaw06_RequestNots.j0]
    rw [show (⟨#[33]⟩ : ByteArray) ++ mkB (x :: t) = mkB (33 :: x :: t) from append_mkB [33] _, show (⟨#[33, 33]⟩ : ByteArray) ++ mkB (x :: t) = mkB (33 :: 33 :: x :: t) from append_mkB [33, 33] _, size_mkB]
    refine Evl.neg (by simp) (Evl.bind p1 (Evl.pos (by omega) (Evl.bind p2 (Evl.pos (by omega) (Evl.bind p3 ?_)))))
    clear p1 p2 p3 good
    have same : ∀ (m : Bool) (K : Int) (N L R E : ByteArray), Evl (fun k => frisketlaw06_RequestNots.j1 k 0 false m K N L R E (!m) K N L R E m K N L R E) true := by
      intro m K N L R E
      refine Evl.succ ?_
      simp only [frisketlaw06_RequestNots.j1]
      exact Evl.neg (by simp) (Evl.pos trivial (Evl.pos (by cases m <;> rfl) (Evl.pos (by cases m <;> rfl) (Evl.pos trivial (Evl.pos trivial (Evl.pos trivial (Evl.bind sane_f (Evl.some _))))))))
    have fail : ∀ e : Int, e ≠ 0 → ∀ (m : Bool) (K : Int) (N L R E : ByteArray) (m2 : Bool) (K2 : Int) (N2 L2 R2 E2 : ByteArray) (m3 : Bool) (K3 : Int) (N3 L3 R3 E3 : ByteArray), Evl (fun k => frisketlaw06_RequestNots.j1 k e false m K N L R E m2 K2 N2 L2 R2 E2 m3 K3 N3 L3 R3 E3) true := by
      intro e he m K N L R E m2 K2 N2 L2 R2 E2 m3 K3 N3 L3 R3 E3
      refine Evl.succ ?_
      simp only [frisketlaw06_RequestNots.j1]
      exact Evl.neg (by simp) (Evl.neg he (Evl.bind sane_f (Evl.some _)))
    cases okLine (x :: t) with
    | false =>
      rw [if_neg (by simp), if_neg (by simp)]
      exact Evl.pos rfl (fail 1 (by decide) _ _ _ _ _ _ _ _ _ _ _ _ _ _ _ _ _ _)
    | true =>
      rw [if_pos rfl, if_pos rfl]
      rcases cond_flip (x :: t) false with ⟨f1, f2⟩ | ⟨m, K, N, L, R, E, f1, f2⟩
      · rw [f1, show cond true (x :: t) = bad 4 from f2]
        exact Evl.pos rfl (fail 4 (by decide) _ _ _ _ _ _ _ _ _ _ _ _ _ _ _ _ _ _)
      · rw [f1, show cond true (x :: t) = (!m, K, N, L, R, E, 0) from f2]
        exact Evl.pos rfl (same m K N L R E)
end Go.Proofs.YtpeimnipoohaaaaDoor.P06
