/- The words of a control line: what both functions tell. -/
import Derived.Test.YtpeimnipoohaaaaDoorStr
import Derived.Test.YtpeimnipoohaaaaDoorQRqx7
namespace Go.Proofs.YtpeimnipoohaaaaDoor.P06
open Go.RowKit Go.Proofs.YtpeimnipoohaaaaDoorW.PrintWords Go.Proofs.YtpeimnipoohaaaaDoorW.PrintLast Go.Proofs.YtpeimnipoohaaaaDoorW.PrintMore Go.Proofs.YtpeimnipoohaaaaDoorN Go.Proofs.YtpeimnipoohaaaaDoor.Evl Go.Proofs.YtpeimnipoohaaaaDoor.Str Go.Proofs.YtpeimnipoohaaaaDoor.QRq
set_option linter.unusedVariables false
set_option linter.unusedSimpArgs false
def bl (x : UInt8) : Bool := x == 32 || x == 9
/-- An argument at the front, inside quotes or outside: its bytes, and what is behind it. -/
def wrd : Bool → List UInt8 → List UInt8 × List UInt8
  | _, [] => ([], [])
  | q, [x] => if q && x == 34 then ([], []) else if !q && bl x then ([], [x]) else ([x], [])
  | q, x :: y :: t =>
    if x == 92 then (x :: y :: (wrd q t).1, (wrd q t).2)
    else if q && x == 34 then (if y == 34 then (34 :: (wrd q t).1, (wrd q t).2) else wrd false (y :: t))
    else if !q && bl x then ([], x :: y :: t)
    else (x :: (wrd q (y :: t)).1, (wrd q (y :: t)).2)
def word : List UInt8 → List UInt8 × List UInt8
  | [] => ([], [])
  | x :: t => if x == 34 then wrd true t else wrd false (x :: t)
def wds : Nat → List UInt8 → List (List UInt8)
  | 0, _ => []
  | _, [] => []
  | n + 1, x :: t => (word (x :: t)).1 :: wds n ((word (x :: t)).2.dropWhile bl)
def nums (l : List UInt8) : List Int := l.map fun b => (b.toNat : Int)
theorem nums_append (a b : List UInt8) : nums a ++ nums b = nums (a ++ b) := by simp [nums]
theorem nums_one (x : UInt8) : [(x.toNat : Int)] = nums [x] := rfl
theorem nums_len (a : List UInt8) : (nums a).length = a.length := by simp [nums]
theorem dropW_len {α : Type} (p : α → Bool) : ∀ l : List α, (l.dropWhile p).length ≤ l.length
  | [] => Nat.le_refl _
  | x :: t => by
    rw [List.dropWhile_cons]
    split
    · exact Nat.le_succ_of_le (dropW_len p t)
    · exact Nat.le_refl _
theorem wrd_len : ∀ (n : Nat) (s : List UInt8), s.length ≤ n → ∀ q, (wrd q s).2.length ≤ s.length
  | _, [], _, q => by simp [wrd]
  | _, [x], _, q => by rw [wrd]; repeat' split <;> simp
  | 0, x :: y :: t, h, q => by simp at h
  | n + 1, x :: y :: t, h, q => by
    have h1 := wrd_len n t (by simp at h; omega) q
    have h2 := wrd_len n (y :: t) (by simp at h ⊢; omega) q
    have h3 := wrd_len n (y :: t) (by simp at h ⊢; omega) false
    rw [wrd]
    simp only [List.length_cons] at h2 h3 ⊢
    repeat' split
    all_goals ((try simp only [List.length_cons]); omega)
theorem word_len (x : UInt8) (t : List UInt8) (hb : bl x = false) : (word (x :: t)).2.length ≤ t.length := by
  rw [word]
  split
  · exact wrd_len _ t (Nat.le_refl _) true
  · rename_i h34
    cases t with
    | nil => rw [wrd]; simp [hb]
    | cons y t =>
      have h1 := wrd_len _ t (Nat.le_refl _) false
      have h2 := wrd_len _ (y :: t) (Nat.le_refl _) false
      rw [wrd]
      simp only [List.length_cons] at h2 ⊢
      repeat' split
      all_goals first | ((try simp only [List.length_cons]); omega) | simp_all
theorem ib_blank (x : UInt8) : strings_IndexByte.f (⟨#[32, 9]⟩ : ByteArray) (x.toNat : Int) = some (if bl x then (if x = 32 then 0 else 1) else -1) := by
  unfold strings_IndexByte.f bl
  have e : ((x.toNat : Int)).toNat.toUInt8 = x := by simp
  rw [e]
  show some (Lib.indexByte [32, 9] x) = _
  congr 1
  by_cases h1 : x = 32
  · subst h1; rfl
  · by_cases h2 : x = 9
    · subst h2; rfl
    · have a1 : ¬ (32 : UInt8) = x := fun h => h1 h.symm
      have a2 : ¬ (9 : UInt8) = x := fun h => h2 h.symm
      simp [Lib.indexByte, h1, h2, a1, a2]
theorem trim_eq (s : List UInt8) : strings_TrimLeft.f (mkB s) (⟨#[32, 9]⟩ : ByteArray) = some (mkB (s.dropWhile bl)) := by
  unfold strings_TrimLeft.f
  rw [if_pos ⟨by decide, by decide⟩, data_mkB]
  congr 2
  show (Lib.trimLeftS s [32, 9]).toArray = _
  unfold Lib.trimLeftS
  congr 2
  funext b
  simp only [List.contains_cons, List.contains_nil, Bool.or_false]
  rfl
theorem pre2 (s : List UInt8) : strings_HasPrefix.f (mkB s) (⟨#[34, 34]⟩ : ByteArray) = some (decide (s.take 2 = [34, 34])) := by
  unfold strings_HasPrefix.f stringslite_HasPrefix.f
  have e2 : (⟨#[34, 34]⟩ : ByteArray) = mkB [34, 34] := rfl
  rw [e2, size_mkB, size_mkB]
  match s with
  | [] => rfl
  | [x] => simp
  | x :: y :: t =>
    rw [if_pos (by simp only [List.length_cons, List.length_nil]; omega), if_pos (by decide), if_pos (by simp only [List.length_cons, List.length_nil]; omega)]
    simp only [extract_mkB, toList_mkB, Option.bind_some]
    congr 1
    have e : ∀ a b : List UInt8, (a == b) = decide (a = b) := fun a b => by
      by_cases h : a = b
      · rw [decide_eq_true h, h]; exact beq_self_eq_true b
      · rw [decide_eq_false h]; exact beq_eq_false_iff_ne.2 h
    exact e _ _
set_option maxHeartbeats 1000000 in
theorem word_l0 : ∀ (n : Nat) (s : List UInt8), s.length ≤ n → ∀ (q : Bool) (out : List UInt8), s.length + out.length < 1000000000 →
    Evl (fun k => request_word.l0 k (mkB s) (nums out) q) (mkB (out ++ (wrd q s).1), mkB (wrd q s).2)
  | _, [], _, q, out, hl => by
    refine Evl.succ ?_
    simp only [request_word.l0]
    refine Evl.pos (by rw [toList_mkB]) ?_
    rw [show strOfNums (nums out) = mkB out from nums_str out]
    simp only [wrd, List.append_nil]
    exact Evl.some _
  | 0, x :: t, h, q, out, hl => by simp at h
  | n + 1, x :: t, h, q, out, hl => by
    refine Evl.succ ?_
    simp only [request_word.l0]
    refine Evl.neg (by rw [toList_mkB]; simp) (Evl.pos (by rw [size_mkB]; simp only [List.length_cons]; omega) ?_)
    simp only [bt_head]
    -- what is done without a backslash in front of another byte
    have plain : ∀ (hx : ¬ (x = 92 ∧ t ≠ [])), Evl (fun k => request_word.j2 k (mkB (x :: t)) (nums out) q false) (mkB (out ++ (wrd q (x :: t)).1), mkB (wrd q (x :: t)).2) := by
      intro hx
      refine Evl.succ ?_
      simp only [request_word.j2]
      refine Evl.neg (by simp) ?_
      have take : ∀ q, (wrd q (x :: t) = (x :: (wrd q t).1, (wrd q t).2)) → Evl (fun k => if (nums out).length < 140737488355328 then (if 1 ≤ ((mkB (x :: t)).size : Int) then (request_word.l0 k ((mkB (x :: t)).extract 1 (mkB (x :: t)).size) (nums out ++ [(x.toNat : Int)]) q) else none) else none) (mkB (out ++ (wrd q (x :: t)).1), mkB (wrd q (x :: t)).2) := by
        intro q hw
        refine Evl.pos (by rw [nums_len]; omega) (Evl.pos (by rw [size_mkB]; simp only [List.length_cons]; omega) ?_)
        rw [tail_mkB, nums_one, nums_append, hw]
        have := word_l0 n t (by simp at h; omega) q (out ++ [x]) (by simp at hl ⊢; omega)
        rwa [List.append_assoc] at this
      cases q with
      | false =>
        refine Evl.neg (by simp) (Evl.succ ?_)
        simp only [request_word.j3]
        refine Evl.neg (by simp) (Evl.neg (by simp) (Evl.pos (by rw [size_mkB]; simp only [List.length_cons]; omega) ?_))
        simp only [bt_head]
        refine Evl.bind (Evl.of_eq (Evl.some _) fun _ => ib_blank x) ?_
        by_cases hb : bl x = true
        · refine Evl.pos (by rw [if_pos hb]; split <;> decide) ?_
          have hw : wrd false (x :: t) = ([], x :: t) := by
            have h92 : x ≠ 92 := fun e => by rw [e] at hb; revert hb; decide
            cases t with
            | nil => simp [wrd, hb]
            | cons y t => simp [wrd, hb, h92]
          rw [hw, show strOfNums (nums out) = mkB out from nums_str out]
          simp only [List.append_nil]
          exact Evl.some _
        · refine Evl.neg (by rw [if_neg hb]; decide) (take false ?_)
          cases t with
          | nil => simp [wrd, hb]
          | cons y t => simp [wrd, hb, show x ≠ 92 from fun e => hx ⟨e, by simp⟩]
      | true =>
        refine Evl.pos rfl (Evl.pos (by rw [size_mkB]; simp only [List.length_cons]; omega) ?_)
        simp only [bt_head]
        by_cases h34 : x = 34
        · subst h34
          refine Evl.succ ?_
          simp only [request_word.j3]
          refine Evl.pos (by decide) ?_
          refine Evl.bind (Evl.of_eq (Evl.some _) fun _ => pre2 _) ?_
          cases t with
          | nil =>
            refine Evl.neg (by simp) (Evl.pos (by rw [size_mkB]; simp only [List.length_cons]; omega) ?_)
            rw [tail_mkB]
            have := word_l0 n [] (by simp) false out (by simp at hl ⊢; omega)
            simpa [wrd] using this
          | cons y t =>
            by_cases hy : y = 34
            · subst hy
              refine Evl.pos (by simp) (Evl.pos (by rw [size_mkB]; simp only [List.length_cons]; omega) ?_)
              rw [tail_mkB]
              refine Evl.pos (by rw [size_mkB]; simp only [List.length_cons]; omega) (Evl.pos (by rw [nums_len]; omega) (Evl.pos (by rw [size_mkB]; simp only [List.length_cons]; omega) ?_))
              rw [tail_mkB, bt_head, nums_one, nums_append]
              have := word_l0 n t (by simp at h; omega) true (out ++ [34]) (by simp at hl ⊢; omega)
              simpa [wrd] using this
            · refine Evl.neg (by simp [hy]) (Evl.pos (by rw [size_mkB]; simp only [List.length_cons]; omega) ?_)
              rw [tail_mkB]
              have := word_l0 n (y :: t) (by simp at h ⊢; omega) false out (by simp at hl ⊢; omega)
              simpa [wrd, hy] using this
        · have e34 : ((x.toNat : Int) == 34) = false := beq_eq_false_iff_ne.2 fun e => h34 ((b_eq (n := 34) (by decide)).1 e)
          refine Evl.succ ?_
          simp only [request_word.j3, e34]
          refine Evl.neg (by simp) (Evl.pos trivial (Evl.pos (by rw [size_mkB]; simp only [List.length_cons]; omega) ?_))
          simp only [bt_head]
          refine take true ?_
          cases t with
          | nil => simp [wrd, h34]
          | cons y t => simp [wrd, h34, show x ≠ 92 from fun e => hx ⟨e, by simp⟩]
    by_cases h92 : x = 92
    · subst h92
      refine Evl.pos (by decide) ?_
      cases t with
      | nil =>
        rw [show decide (((mkB [(92 : UInt8)]).size : Int) > 1) = false from by rw [size_mkB]; rfl]
        exact plain (by simp)
      | cons y t =>
        rw [show decide (((mkB ((92 : UInt8) :: y :: t)).size : Int) > 1) = true from decide_eq_true (by rw [size_mkB]; simp only [List.length_cons]; omega)]
        refine Evl.succ ?_
        simp only [request_word.j2]
        refine Evl.pos trivial (Evl.pos (by decide) (Evl.pos (by rw [size_mkB]; simp only [List.length_cons]; omega) ?_))
        have e2 : (mkB ((92 : UInt8) :: y :: t)).extract 0 2 = mkB [92, y] := by rw [extract_mkB]; rfl
        rw [e2, tail2_mkB, bytesOf_mkB]
        refine Evl.pos (by rw [nums_len, size_mkB]; simp at hl ⊢; omega) ?_
        have := word_l0 n t (by simp at h; omega) q (out ++ [92, y]) (by simp at hl ⊢; omega)
        rw [← nums_append] at this
        simpa [wrd, nums] using this
    · refine Evl.neg (fun e => h92 ((b_eq (n := 92) (by decide)).1 e)) (plain fun e => h92 e.1)
theorem word_f (x : UInt8) (t : List UInt8) (hl : t.length < 100000000) : Evl (fun k => request_word.f k (mkB (x :: t))) (mkB (word (x :: t)).1, mkB (word (x :: t)).2) := by
  unfold request_word.f
  refine Evl.pos (by rw [size_mkB]; simp only [List.length_cons]; omega) ?_
  simp only [bt_head]
  by_cases h34 : x = 34
  · subst h34
    refine Evl.pos (by decide) (Evl.pos (by rw [size_mkB]; simp only [List.length_cons]; omega) (Evl.succ ?_))
    simp only [request_word.j0]
    rw [tail_mkB]
    have := word_l0 _ t (Nat.le_refl _) true [] (by simp; omega)
    simpa [word, nums] using this
  · have e34 : ((x.toNat : Int) == 34) = false := beq_eq_false_iff_ne.2 fun e => h34 ((b_eq (n := 34) (by decide)).1 e)
    refine Evl.neg (fun e => h34 ((b_eq (n := 34) (by decide)).1 e)) (Evl.succ ?_)
    simp only [request_word.j0, e34]
    have := word_l0 _ (x :: t) (Nat.le_refl _) false [] (by simp; omega)
    simpa [word, nums, h34] using this
theorem head_dropW (s : List UInt8) : ∀ x t, s.dropWhile bl = x :: t → bl x = false := by
  induction s with
  | nil => intro x t h; cases h
  | cons a s ih =>
    intro x t h
    rw [List.dropWhile_cons] at h
    split at h
    · exact ih x t h
    · rename_i hb
      injection h with h1 h2
      subst h1
      simpa using hb
theorem Words_l0 : ∀ (n : Nat) (s : List UInt8), s.length ≤ n → (∀ x t, s = x :: t → bl x = false) → ∀ (out : List ByteArray), s.length < 100000000 → s.length + out.length < 100000000 →
    Evl (fun k => request_Words.l0 k (mkB s) out) (out ++ (wds n s).map mkB)
  | n, [], _, _, out, _, _ => by
    refine Evl.succ ?_
    simp only [request_Words.l0]
    refine Evl.pos (by rw [toList_mkB]) ?_
    have e : wds n [] = [] := by cases n <;> rfl
    rw [e]
    simp only [List.map_nil, List.append_nil]
    exact Evl.some _
  | 0, x :: t, h, _, _, _, _ => by simp at h
  | n + 1, x :: t, h, hb, out, hl, ho => by
    have hw := word_len x t (hb x t rfl)
    have hd := dropW_len bl (word (x :: t)).2
    refine Evl.succ ?_
    simp only [request_Words.l0]
    refine Evl.neg (by rw [toList_mkB]; simp) (Evl.bind (word_f x t (by simp at hl; omega)) ?_)
    refine Evl.pos (by omega) ?_
    refine Evl.bind (Evl.of_eq (Evl.some _) fun _ => trim_eq _) ?_
    have := Words_l0 n ((word (x :: t)).2.dropWhile bl) (by simp at h; omega) (head_dropW _) (out ++ [mkB (word (x :: t)).1]) (by simp at hl; omega) (by simp at ho ⊢; omega)
    simpa [wds] using this
theorem Words_f (s : List UInt8) (hl : s.length < 10000000) : Evl (fun k => request_Words.f k (mkB s)) ((wds s.length (s.dropWhile bl)).map mkB) := by
  unfold request_Words.f
  refine Evl.bind (Evl.of_eq (Evl.some _) fun _ => trim_eq s) ?_
  have h := dropW_len bl s
  have := Words_l0 s.length (s.dropWhile bl) h (head_dropW s) [] (by omega) (by simp; omega)
  simpa using this
/-! The document's. -/
theorem blank_eq (x : UInt8) : frisketref06_blank.f (x.toNat : Int) = some (bl x) := by
  unfold frisketref06_blank.f bl
  by_cases h1 : x = 32
  · subst h1; rfl
  · rw [if_neg (show ¬ (x.toNat : Int) = 32 from fun e => h1 ((b_eq (n := 32) (by decide)).1 e))]
    by_cases h2 : x = 9
    · subst h2; rfl
    · have e9 : ((x.toNat : Int) == 9) = false := beq_eq_false_iff_ne.2 fun e => h2 ((b_eq (n := 9) (by decide)).1 e)
      rw [e9]; simp [h1, h2]
theorem skip_l0 (s : List UInt8) (hs : s.length < 100000000) : ∀ (r : List UInt8) (i : Nat), s.drop i = r → i ≤ s.length →
    ∃ j : Nat, Evl (fun k => frisketref06_skip.l0 k (mkB s) (i : Int)) (j : Int) ∧ s.drop j = r.dropWhile bl ∧ i ≤ j ∧ j ≤ s.length
  | [], i, h, hi => by
    have hl := drop_len h hi
    refine ⟨i, Evl.succ ?_, h, Nat.le_refl _, hi⟩
    simp only [frisketref06_skip.l0]
    exact Evl.neg (by rw [size_mkB]; simp at hl; omega) (Evl.some _)
  | x :: t, i, h, hi => by
    obtain ⟨h1, h2, h3⟩ := drop_cons h
    by_cases hb : bl x = true
    · obtain ⟨j, hj, hd, h4, h5⟩ := skip_l0 s hs t (i + 1) h2 (by omega)
      refine ⟨j, Evl.succ ?_, by rw [List.dropWhile_cons, if_pos hb]; exact hd, by omega, h5⟩
      simp only [frisketref06_skip.l0]
      refine Evl.pos (by rw [size_mkB]; omega) (Evl.pos (by omega) (Evl.bind (Evl.of_eq (Evl.some _) fun _ => by rw [bt_drop h]; exact blank_eq x) (Evl.pos hb ?_)))
      rw [wn (by omega)]
      exact hj
    · refine ⟨i, Evl.succ ?_, by rw [List.dropWhile_cons, if_neg hb]; exact h, Nat.le_refl _, hi⟩
      simp only [frisketref06_skip.l0]
      exact Evl.pos (by rw [size_mkB]; omega) (Evl.pos (by omega) (Evl.bind (Evl.of_eq (Evl.some _) fun _ => by rw [bt_drop h]; exact blank_eq x) (Evl.neg hb (Evl.some _))))
theorem word_ref (s : List UInt8) (hs : s.length < 100000000) : ∀ (r : List UInt8) (i : Nat), s.drop i = r → i ≤ s.length →
    ∃ j : Nat, Evl (fun k => frisketref06_word.l0 k (mkB s) (i : Int)) (j : Int) ∧ s.drop j = r.dropWhile (fun b => !bl b) ∧ i ≤ j ∧ j ≤ s.length ∧ (mkB s).extract i j = mkB (r.takeWhile fun b => !bl b)
  | [], i, h, hi => by
    have hl := drop_len h hi
    refine ⟨i, Evl.succ ?_, h, Nat.le_refl _, hi, ?_⟩
    · simp only [frisketref06_word.l0]
      exact Evl.neg (by rw [size_mkB]; simp at hl; omega) (Evl.some _)
    · exact ext_drop (u := []) (t := []) h
  | x :: t, i, h, hi => by
    obtain ⟨h1, h2, h3⟩ := drop_cons h
    by_cases hb : bl x = true
    · refine ⟨i, Evl.succ ?_, by rw [List.dropWhile_cons, if_neg (by simp [hb])]; exact h, Nat.le_refl _, hi, ?_⟩
      · simp only [frisketref06_word.l0]
        exact Evl.pos (by rw [size_mkB]; omega) (Evl.pos (by omega) (Evl.bind (Evl.of_eq (Evl.some _) fun _ => by rw [bt_drop h]; exact blank_eq x) (Evl.pos hb (Evl.some _))))
      · rw [List.takeWhile_cons, if_neg (by simp [hb])]
        exact ext_drop (u := []) (t := x :: t) h
    · obtain ⟨j, hj, hd, h4, h5, h6⟩ := word_ref s hs t (i + 1) h2 (by omega)
      refine ⟨j, Evl.succ ?_, by rw [List.dropWhile_cons, if_pos (by simp [hb])]; exact hd, by omega, h5, ?_⟩
      · simp only [frisketref06_word.l0]
        refine Evl.pos (by rw [size_mkB]; omega) (Evl.pos (by omega) (Evl.bind (Evl.of_eq (Evl.some _) fun _ => by rw [bt_drop h]; exact blank_eq x) (Evl.neg hb ?_)))
        rw [wn (by omega)]
        exact hj
      · rw [List.takeWhile_cons, if_pos (by simp [hb])]
        have e := h6
        rw [extract_mkB] at e ⊢
        have e1 := mkB_inj e
        rw [List.drop_take] at e1 ⊢
        rw [h2] at e1
        rw [h, show j - i = (j - (i + 1)) + 1 by omega, List.take_succ_cons, e1]
theorem wn2 {i : Nat} (h : i < 4611686018427387904) : wrap64 ((i : Int) + 2) = ((i + 2 : Nat) : Int) := by
  rw [w64 (by omega) (by omega)]; omega
theorem tail_l0 (s : List UInt8) (hs : s.length < 100000000) : ∀ (n : Nat) (r : List UInt8), r.length ≤ n → ∀ (i : Nat), s.drop i = r → i ≤ s.length → ∀ out : List UInt8, out.length + r.length < 1000000000 →
    ∃ j : Nat, Evl (fun k => frisketref06_tail.l0 k (mkB s) (i : Int) (mkB out)) (mkB (out ++ (wrd false r).1), (j : Int)) ∧ s.drop j = (wrd false r).2 ∧ i ≤ j ∧ j ≤ s.length
  | n, [], _, i, h, hi, out, ho => by
    have hl := drop_len h hi
    refine ⟨i, Evl.succ ?_, h, Nat.le_refl _, hi⟩
    simp only [frisketref06_tail.l0]
    refine Evl.neg (by rw [size_mkB]; simp at hl; omega) (Evl.succ ?_)
    simp only [frisketref06_tail.j1]
    refine Evl.neg (by decide) ?_
    simp only [wrd, List.append_nil]
    exact Evl.some _
  | 0, x :: t, h0, i, h, hi, out, ho => by simp at h0
  | n + 1, x :: t, h0, i, h, hi, out, ho => by
    obtain ⟨h1, h2, h3⟩ := drop_cons h
    have hlen := drop_len h hi
    simp only [List.length_cons] at hlen h0 ho
    by_cases hb : bl x = true
    · refine ⟨i, Evl.succ ?_, ?_, Nat.le_refl _, hi⟩
      · simp only [frisketref06_tail.l0]
        refine Evl.pos (by rw [size_mkB]; omega) (Evl.pos (by omega) (Evl.bind (Evl.of_eq (Evl.some _) fun _ => by rw [bt_drop h]; exact blank_eq x) (Evl.succ ?_)))
        rw [hb]
        simp only [frisketref06_tail.j1]
        refine Evl.neg (by decide) ?_
        have h92 : x ≠ 92 := fun e => by rw [e] at hb; revert hb; decide
        have hw : wrd false (x :: t) = ([], x :: t) := by
          cases t with
          | nil => simp [wrd, hb]
          | cons y t => simp [wrd, hb, h92]
        rw [hw]
        simp only [List.append_nil]
        exact Evl.some _
      · have h92 : x ≠ 92 := fun e => by rw [e] at hb; revert hb; decide
        cases t with
        | nil => simp [wrd, hb, h]
        | cons y t => simp [wrd, hb, h92, h]
    · have hb' : bl x = false := by simpa using hb
      -- one byte is taken
      have one : (wrd false (x :: t) = (x :: (wrd false t).1, (wrd false t).2)) → ∃ j : Nat, Evl (fun k => if (i : Int) ≤ wrap64 ((i : Int) + 1) then (if wrap64 ((i : Int) + 1) ≤ ((mkB s).size : Int) then (if (mkB out).size + ((mkB s).extract (i : Int).toNat (wrap64 ((i : Int) + 1)).toNat).size ≤ 9223372036854775807 then (frisketref06_tail.l0 k (mkB s) (wrap64 ((i : Int) + 1)) (mkB out ++ (mkB s).extract (i : Int).toNat (wrap64 ((i : Int) + 1)).toNat)) else none) else none) else none) (mkB (out ++ (wrd false (x :: t)).1), (j : Int)) ∧ s.drop j = (wrd false (x :: t)).2 ∧ i ≤ j ∧ j ≤ s.length := by
        intro hw
        obtain ⟨j, hj, hd, h4, h5⟩ := tail_l0 s hs n t (by omega) (i + 1) h2 (by omega) (out ++ [x]) (by simp; omega)
        refine ⟨j, ?_, by rw [hw]; exact hd, by omega, h5⟩
        rw [wn (by omega)]
        simp only [Int.toNat_natCast]
        have e : (mkB s).extract i (i + 1) = mkB [x] := ext_drop (u := [x]) (t := t) h
        rw [e, append_mkB, hw]
        refine Evl.pos (by omega) (Evl.pos (by rw [size_mkB]; omega) (Evl.pos (by rw [size_mkB, size_mkB]; simp; omega) ?_))
        simpa using hj
      have start : ∀ (j : Nat), Evl (fun k => frisketref06_tail.j1 k (mkB s) (i : Int) (mkB out) true) (mkB (out ++ (wrd false (x :: t)).1), (j : Int)) → Evl (fun k => frisketref06_tail.l0 k (mkB s) (i : Int) (mkB out)) (mkB (out ++ (wrd false (x :: t)).1), (j : Int)) := by
        intro j hj
        refine Evl.succ ?_
        simp only [frisketref06_tail.l0]
        refine Evl.pos (by rw [size_mkB]; omega) (Evl.pos (by omega) (Evl.bind (Evl.of_eq (Evl.some _) fun _ => by rw [bt_drop h]; exact blank_eq x) ?_))
        rw [hb']
        exact hj
      by_cases h92 : x = 92
      · subst h92
        cases t with
        | nil =>
          obtain ⟨j, hj, hd⟩ := one (by simp [wrd, hb'])
          refine ⟨j, start j (Evl.succ ?_), hd⟩
          simp only [frisketref06_tail.j1]
          refine Evl.pos trivial (Evl.pos (by omega) (Evl.pos (by rw [size_mkB]; omega) (Evl.pos (by rw [bt_drop h]; rfl) (Evl.neg ?_ hj))))
          rw [wn (by omega), size_mkB]
          simp only [List.length_nil] at hlen
          omega
        | cons y t =>
          simp only [List.length_cons] at hlen h0 ho
          obtain ⟨g1, g2, g3⟩ := drop_cons h2
          obtain ⟨j, hj, hd, h4, h5⟩ := tail_l0 s hs n t (by omega) (i + 2) g2 (by omega) (out ++ [92, y]) (by simp; omega)
          have hw : wrd false (92 :: y :: t) = (92 :: y :: (wrd false t).1, (wrd false t).2) := by simp [wrd]
          refine ⟨j, start j (Evl.succ ?_), by rw [hw]; exact hd, by omega, h5⟩
          simp only [frisketref06_tail.j1]
          refine Evl.pos trivial (Evl.pos (by omega) (Evl.pos (by rw [size_mkB]; omega) (Evl.pos (by rw [bt_drop h]; rfl) (Evl.pos (by rw [wn (by omega), size_mkB]; omega) ?_))))
          rw [wn2 (by omega)]
          simp only [Int.toNat_natCast]
          have e : (mkB s).extract i (i + 2) = mkB [92, y] := ext_drop (u := [92, y]) (t := t) h
          rw [e, append_mkB, hw]
          refine Evl.pos (by omega) (Evl.pos (by rw [size_mkB]; omega) (Evl.pos (by rw [size_mkB, size_mkB]; simp; omega) ?_))
          simpa using hj
      · have hw : wrd false (x :: t) = (x :: (wrd false t).1, (wrd false t).2) := by
          cases t with
          | nil => simp [wrd, hb']
          | cons y t => simp [wrd, hb', h92]
        obtain ⟨j, hj, hd⟩ := one hw
        refine ⟨j, start j (Evl.succ ?_), hd⟩
        simp only [frisketref06_tail.j1]
        exact Evl.pos trivial (Evl.pos (by omega) (Evl.pos (by rw [size_mkB]; omega) (Evl.neg (by rw [bt_drop h]; exact fun e => h92 ((b_eq (n := 92) (by decide)).1 e)) hj)))
theorem wrd_len1 : ∀ (n : Nat) (s : List UInt8), s.length ≤ n → ∀ q, (wrd q s).1.length ≤ s.length
  | _, [], _, q => by simp [wrd]
  | _, [x], _, q => by rw [wrd]; repeat' split <;> simp
  | 0, x :: y :: t, h, q => by simp at h
  | n + 1, x :: y :: t, h, q => by
    have h1 := wrd_len1 n t (by simp at h; omega) q
    have h2 := wrd_len1 n (y :: t) (by simp at h ⊢; omega) q
    have h3 := wrd_len1 n (y :: t) (by simp at h ⊢; omega) false
    rw [wrd]
    simp only [List.length_cons] at h2 h3 ⊢
    repeat' split
    all_goals ((try simp only [List.length_cons, List.length_nil]); omega)
/-- An argument's last part is taken, and the blanks behind it. -/
theorem fin_ref (s : List UInt8) (hs : s.length < 100000000) (r : List UInt8) (i : Nat) (h : s.drop i = r) (hi : i ≤ s.length) (L : List ByteArray) (hL : L.length ≤ s.length) (out : List UInt8) (ho : out.length ≤ s.length) (R : List ByteArray)
    (hR : ∀ j : Nat, s.drop j = (wrd false r).2.dropWhile bl → j ≤ s.length → Evl (fun k => frisketref06_Words.l0 k (mkB s) (L ++ [mkB (out ++ (wrd false r).1)]) (j : Int)) R) :
    Evl (fun k => (frisketref06_tail.f k (mkB s) (i : Int)).bind fun b => (if (mkB out).size + b.1.size ≤ 9223372036854775807 then (if L.length < 8796093022208 then ((frisketref06_skip.f k (mkB s) b.2).bind fun t => frisketref06_Words.l0 k (mkB s) (L ++ [mkB out ++ b.1]) t) else none) else none)) R := by
  have hl := drop_len h hi
  obtain ⟨j, hj, hd, h4, h5⟩ := tail_l0 s hs _ r (Nat.le_refl _) i h hi [] (by simp; omega)
  obtain ⟨j2, hj2, hd2, h6, h7⟩ := skip_l0 s hs _ j hd h5
  have hw := wrd_len1 _ r (Nat.le_refl _) false
  refine Evl.bind hj ?_
  simp only [List.nil_append]
  refine Evl.pos (by rw [size_mkB, size_mkB]; omega) (Evl.pos (by omega) (Evl.bind hj2 ?_))
  rw [append_mkB]
  exact hR j2 hd2 h7
set_option maxHeartbeats 1000000 in
theorem l1_ref (s : List UInt8) (hs : s.length < 100000000) (L : List ByteArray) (hL : L.length ≤ s.length) (R : List ByteArray) : ∀ (n : Nat) (r : List UInt8), r.length ≤ n → ∀ (i : Nat), s.drop i = r → i ≤ s.length → ∀ (out : List UInt8), out.length + r.length ≤ s.length →
    (∀ j : Nat, s.drop j = (wrd true r).2.dropWhile bl → j ≤ s.length → Evl (fun k => frisketref06_Words.l0 k (mkB s) (L ++ [mkB (out ++ (wrd true r).1)]) (j : Int)) R) →
    Evl (fun k => frisketref06_Words.l1 k (mkB s) L (i : Int) (mkB out)) R
  | n, [], _, i, h, hi, out, ho, hR => by
    have hl := drop_len h hi
    refine Evl.succ ?_
    simp only [frisketref06_Words.l1]
    refine Evl.neg (by rw [size_mkB]; simp at hl; omega) (fin_ref s hs [] i h hi L hL out (by omega) R hR)
  | 0, x :: t, h0, _, _, _, _, _, _ => by simp at h0
  | n + 1, x :: t, h0, i, h, hi, out, ho, hR => by
    obtain ⟨h1, h2, h3⟩ := drop_cons h
    have hl := drop_len h hi
    simp only [List.length_cons] at hl ho h0
    have bx := bt_drop h
    have w1 : wrap64 ((i : Int) + 1) = ((i + 1 : Nat) : Int) := wn (by omega)
    -- the byte, as it stands, is taken
    have one : (wrd true (x :: t) = (x :: (wrd true t).1, (wrd true t).2)) → Evl (fun k => if (i : Int) ≤ wrap64 ((i : Int) + 1) then (if wrap64 ((i : Int) + 1) ≤ ((mkB s).size : Int) then (if (mkB out).size + ((mkB s).extract (i : Int).toNat (wrap64 ((i : Int) + 1)).toNat).size ≤ 9223372036854775807 then (frisketref06_Words.l1 k (mkB s) L (wrap64 ((i : Int) + 1)) (mkB out ++ (mkB s).extract (i : Int).toNat (wrap64 ((i : Int) + 1)).toNat)) else none) else none) else none) R := by
      intro hw
      rw [w1]
      simp only [Int.toNat_natCast]
      have e : (mkB s).extract i (i + 1) = mkB [x] := ext_drop (u := [x]) (t := t) h
      rw [e, append_mkB]
      refine Evl.pos (by omega) (Evl.pos (by rw [size_mkB]; omega) (Evl.pos (by rw [size_mkB, size_mkB]; simp; omega) ?_))
      refine l1_ref s hs L hL R n t (by omega) (i + 1) h2 (by omega) (out ++ [x]) (by simp; omega) fun j g1 g2 => ?_
      have := hR j (by rw [hw]; exact g1) g2
      rw [hw] at this
      simpa using this
    refine Evl.succ ?_
    simp only [frisketref06_Words.l1]
    refine Evl.pos (by rw [size_mkB]; omega) (Evl.pos (by omega) ?_)
    rw [bx]
    by_cases h34 : x = 34
    · subst h34
      refine Evl.pos rfl ?_
      cases t with
      | nil =>
        refine Evl.pos (by rw [w1, size_mkB]; simp at hl; omega) (Evl.succ ?_)
        simp only [frisketref06_Words.j2]
        refine Evl.pos trivial ?_
        rw [w1]
        refine fin_ref s hs [] (i + 1) h2 (by omega) L hL out (by omega) R ?_
        have hw : wrd true [34] = ([], []) := by simp [wrd]
        rw [hw] at hR
        simpa [wrd] using hR
      | cons y t =>
        simp only [List.length_cons] at hl ho h0
        obtain ⟨g1, g2, g3⟩ := drop_cons h2
        have by_ := bt_drop h2
        refine Evl.neg (by rw [w1, size_mkB]; omega) (Evl.pos (by rw [w1]; omega) (Evl.pos (by rw [w1, size_mkB]; omega) (Evl.succ ?_)))
        rw [w1, by_]
        by_cases hy : y = 34
        · subst hy
          simp only [frisketref06_Words.j2]
          refine Evl.neg (by decide) (Evl.pos (by omega) (Evl.pos (by rw [size_mkB]; omega) (Evl.pos (by rw [bx]; rfl) ?_)))
          clear bx by_ h3 g3
          have w2 : wrap64 (((i + 1 : Nat) : Int) + 1) = ((i + 2 : Nat) : Int) := wn (by omega)
          rw [w1, w2]
          simp only [Int.toNat_natCast]
          have e : (mkB s).extract (i + 1) (i + 2) = mkB [34] := ext_drop (u := [34]) (t := t) h2
          rw [e, append_mkB]
          refine Evl.pos (by omega) (Evl.pos (by omega) (Evl.pos (by rw [size_mkB]; omega) (Evl.pos (by rw [size_mkB, size_mkB]; simp; omega) ?_)))
          have hw : wrd true (34 :: 34 :: t) = (34 :: (wrd true t).1, (wrd true t).2) := by simp [wrd]
          refine l1_ref s hs L hL R n t (by omega) (i + 2) g2 (by omega) (out ++ [34]) (by simp; omega) fun j g1 g2 => ?_
          have := hR j (by rw [hw]; exact g1) g2
          rw [hw] at this
          simpa using this
        · have ey : ((y.toNat : Int) != 34) = true := bne_iff_ne.2 fun e => hy ((b_eq (n := 34) (by decide)).1 e)
          rw [ey]
          simp only [frisketref06_Words.j2]
          refine Evl.pos trivial ?_
          rw [w1]
          refine fin_ref s hs (y :: t) (i + 1) h2 (by omega) L hL out (by omega) R ?_
          have hw : wrd true (34 :: y :: t) = wrd false (y :: t) := by simp [wrd, hy]
          rw [hw] at hR
          exact hR
    · refine Evl.neg (fun e => h34 ((b_eq (n := 34) (by decide)).1 e)) (Evl.succ ?_)
      simp only [frisketref06_Words.j2]
      refine Evl.neg (by decide) (Evl.pos (by omega) (Evl.pos (by rw [size_mkB]; omega) ?_))
      rw [bx]
      refine Evl.neg (fun e => h34 ((b_eq (n := 34) (by decide)).1 e)) ?_
      by_cases h92 : x = 92
      · subst h92
        refine Evl.pos rfl ?_
        cases t with
        | nil => exact Evl.neg (by rw [w1, size_mkB]; simp at hl; omega) (one (by simp [wrd]))
        | cons y t =>
          simp only [List.length_cons] at hl ho h0
          obtain ⟨g1, g2, g3⟩ := drop_cons h2
          refine Evl.pos (by rw [w1, size_mkB]; omega) ?_
          rw [wn2 (by omega)]
          simp only [Int.toNat_natCast]
          have e : (mkB s).extract i (i + 2) = mkB [92, y] := ext_drop (u := [92, y]) (t := t) h
          rw [e, append_mkB]
          refine Evl.pos (by omega) (Evl.pos (by rw [size_mkB]; omega) (Evl.pos (by rw [size_mkB, size_mkB]; simp; omega) ?_))
          have hw : wrd true (92 :: y :: t) = (92 :: y :: (wrd true t).1, (wrd true t).2) := by simp [wrd]
          refine l1_ref s hs L hL R n t (by omega) (i + 2) g2 (by omega) (out ++ [92, y]) (by simp; omega) fun j g1 g2 => ?_
          have := hR j (by rw [hw]; exact g1) g2
          rw [hw] at this
          simpa using this
      · refine Evl.neg (fun e => h92 ((b_eq (n := 92) (by decide)).1 e)) (one ?_)
        cases t with
        | nil => simp [wrd, h34]
        | cons y t => simp [wrd, h34, h92]
theorem l0_ref (s : List UInt8) (hs : s.length < 100000000) : ∀ (n : Nat) (r : List UInt8), r.length ≤ n → (∀ x t, r = x :: t → bl x = false) → ∀ (i : Nat), s.drop i = r → i ≤ s.length → ∀ (L : List ByteArray), L.length + r.length ≤ s.length →
    Evl (fun k => frisketref06_Words.l0 k (mkB s) L (i : Int)) (L ++ (wds n r).map mkB)
  | n, [], _, _, i, h, hi, L, hL => by
    have hl := drop_len h hi
    refine Evl.succ ?_
    simp only [frisketref06_Words.l0]
    refine Evl.neg (by rw [size_mkB]; simp at hl; omega) ?_
    have e : wds n [] = [] := by cases n <;> rfl
    rw [e]
    simp only [List.map_nil, List.append_nil]
    exact Evl.some _
  | 0, x :: t, h0, _, _, _, _, _, _ => by simp at h0
  | n + 1, x :: t, h0, hb, i, h, hi, L, hL => by
    obtain ⟨h1, h2, h3⟩ := drop_cons h
    have hl := drop_len h hi
    have hw := word_len x t (hb x t rfl)
    have hd := dropW_len bl (word (x :: t)).2
    simp only [List.length_cons] at hl hL h0
    have next : ∀ j : Nat, s.drop j = (word (x :: t)).2.dropWhile bl → j ≤ s.length → Evl (fun k => frisketref06_Words.l0 k (mkB s) (L ++ [mkB (word (x :: t)).1]) (j : Int)) (L ++ (wds (n + 1) (x :: t)).map mkB) := by
      intro j g1 g2
      have := l0_ref s hs n _ (by omega) (head_dropW _) j g1 g2 (L ++ [mkB (word (x :: t)).1]) (by simp; omega)
      simpa [wds] using this
    refine Evl.succ ?_
    simp only [frisketref06_Words.l0]
    refine Evl.pos (by rw [size_mkB]; omega) (Evl.pos (by omega) ?_)
    rw [bt_drop h]
    by_cases h34 : x = 34
    · subst h34
      refine Evl.pos rfl ?_
      rw [wn (by omega)]
      refine l1_ref s hs L (by omega) _ _ t (Nat.le_refl _) (i + 1) h2 (by omega) [] (by simp; omega) fun j g1 g2 => ?_
      exact next j (by simpa [word] using g1) g2
    · refine Evl.neg (fun e => h34 ((b_eq (n := 34) (by decide)).1 e)) ?_
      have e := fin_ref s hs (x :: t) i h hi L (by omega) [] (by simp) (L ++ (wds (n + 1) (x :: t)).map mkB) fun j g1 g2 => by
        have := next j (by simpa [word, h34] using g1) g2
        simpa [word, h34] using this
      exact e
theorem Words_ref (s : List UInt8) (hs : s.length < 10000000) : Evl (fun k => frisketref06_Words.f k (mkB s)) ((wds s.length (s.dropWhile bl)).map mkB) := by
  unfold frisketref06_Words.f
  obtain ⟨j, hj, hd, h4, h5⟩ := skip_l0 s (by omega) s 0 rfl (by omega)
  refine Evl.bind hj ?_
  have h := dropW_len bl s
  have := l0_ref s (by omega) s.length (s.dropWhile bl) h (head_dropW s) j hd h5 [] (by simp; omega)
  simpa using this
end Go.Proofs.YtpeimnipoohaaaaDoor.P06
