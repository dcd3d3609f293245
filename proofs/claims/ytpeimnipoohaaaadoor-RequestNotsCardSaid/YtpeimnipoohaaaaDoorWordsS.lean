/- The words of a control line: what both functions tell. -/
import Derived.Test.YtpeimnipoohaaaaDoorStr
import Derived.Test.YtpeimnipoohaaaaDoorQRs
namespace Go.Proofs.YtpeimnipoohaaaaDoor.P06
open Go.RowKit Go.Proofs.YtpeimnipoohaaaaDoorW.PrintWords Go.Proofs.YtpeimnipoohaaaaDoorW.PrintLast Go.Proofs.YtpeimnipoohaaaaDoorW.PrintMore Go.Proofs.YtpeimnipoohaaaaDoorN Go.Proofs.YtpeimnipoohaaaaDoor.Evl Go.Proofs.YtpeimnipoohaaaaDoor.Str Go.Proofs.YtpeimnipoohaaaaDoor.QRq
set_option linter.unusedVariables false
set_option linter.unusedSimpArgs false
def bl (x : UInt8) : Bool := x == 32 || x == 9
/-- An argument at the front, inside quotes or outside: its bytes, and what is behind it. -/
def wrd : Bool → List UInt8 → List UInt8 × List UInt8
  | _, [] => ([], [])
  | q, [x] => if q && x == 34 then ([], []) else if !q && bl x then ([], [x]) else ([x], [])
  | q, x :: y :: t =>
    if x == 92 then (x :: y :: (wrd q t).1, (wrd q t).2)
    else if q && x == 34 then (if y == 34 then (34 :: (wrd q t).1, (wrd q t).2) else wrd false (y :: t))
    else if !q && bl x then ([], x :: y :: t)
    else (x :: (wrd q (y :: t)).1, (wrd q (y :: t)).2)
def word : List UInt8 → List UInt8 × List UInt8
  | [] => ([], [])
  | x :: t => if x == 34 then wrd true t else wrd false (x :: t)
def wds : Nat → List UInt8 → List (List UInt8)
  | 0, _ => []
  | _, [] => []
  | n + 1, x :: t => (word (x :: t)).1 :: wds n ((word (x :: t)).2.dropWhile bl)
def nums (l : List UInt8) : List Int := l.map fun b => (b.toNat : Int)
theorem nums_append (a b : List UInt8) : nums a ++ nums b = nums (a ++ b) := by simp [nums]
theorem nums_one (x : UInt8) : [(x.toNat : Int)] = nums [x] := rfl
theorem nums_len (a : List UInt8) : (nums a).length = a.length := by simp [nums]
theorem dropW_len {α : Type} (p : α → Bool) : ∀ l : List α, (l.dropWhile p).length ≤ l.length
  | [] => Nat.le_refl _
  | x :: t => by
    rw [List.dropWhile_cons]
    split
    · exact Nat.le_succ_of_le (dropW_len p t)
    · exact Nat.le_refl _
theorem wrd_len : ∀ (n : Nat) (s : List UInt8), s.length ≤ n → ∀ q, (wrd q s).2.length ≤ s.length
  | _, [], _, q => by simp [wrd]
  | _, [x], _, q => by rw [wrd]; repeat' split <;> simp
  | 0, x :: y :: t, h, q => by simp at h
  | n + 1, x :: y :: t, h, q => by
    have h1 := wrd_len n t (by simp at h; omega) q
    have h2 := wrd_len n (y :: t) (by simp at h ⊢; omega) q
    have h3 := wrd_len n (y :: t) (by simp at h ⊢; omega) false
    rw [wrd]
    simp only [List.length_cons] at h2 h3 ⊢
    repeat' split
    all_goals ((try simp only [List.length_cons]); omega)
theorem word_len (x : UInt8) (t : List UInt8) (hb : bl x = false) : (word (x :: t)).2.length ≤ t.length := by
  rw [word]
  split
  · exact wrd_len _ t (Nat.le_refl _) true
  · rename_i h34
    cases t with
    | nil => rw [wrd]; simp [hb]
    | cons y t =>
      have h1 := wrd_len _ t (Nat.le_refl _) false
      have h2 := wrd_len _ (y :: t) (Nat.le_refl _) false
      rw [wrd]
      simp only [List.length_cons] at h2 ⊢
      repeat' split
      all_goals first | ((try simp only [List.length_cons]); omega) | simp_all
theorem ib_blank (x : UInt8) : strings_IndexByte.f (⟨#[32, 9]⟩ : ByteArray) (x.toNat : Int) = some (if bl x then (if x = 32 then 0 else 1) else -1) := by
  unfold strings_IndexByte.f bl
  have e : ((x.toNat : Int)).toNat.toUInt8 = x := by simp
  rw [e]
  show some (Lib.indexByte [32, 9] x) = _
  congr 1
  by_cases h1 : x = 32
  · subst h1; rfl
  · by_cases h2 : x = 9
    · subst h2; rfl
    · have a1 : ¬ (32 : UInt8) = x := fun h => h1 h.symm
      have a2 : ¬ (9 : UInt8) = x := fun h => h2 h.symm
      simp [Lib.indexByte, h1, h2, a1, a2]
theorem trim_eq (s : List UInt8) : strings_TrimLeft.f (mkB s) (⟨#[32, 9]⟩ : ByteArray) = some (mkB (s.dropWhile bl)) := by
  unfold strings_TrimLeft.f
  rw [if_pos ⟨by decide, by decide⟩, data_mkB]
  congr 2
  show (Lib.trimLeftS s [32, 9]).toArray = _
  unfold Lib.trimLeftS
  congr 2
  funext b
  simp only [List.contains_cons, List.contains_nil, Bool.or_false]
  rfl
theorem pre2 (s : List UInt8) : strings_HasPrefix.f (mkB s) (⟨#[34, 34]⟩ : ByteArray) = some (decide (s.take 2 = [34, 34])) := by
  unfold strings_HasPrefix.f stringslite_HasPrefix.f
  have e2 : (⟨#[34, 34]⟩ : ByteArray) = mkB [34, 34] := rfl
  rw [e2, size_mkB, size_mkB]
  match s with
  | [] => rfl
  | [x] => simp
  | x :: y :: t =>
    rw [if_pos (by simp only [List.length_cons, List.length_nil]; omega), if_pos (by decide), if_pos (by simp only [List.length_cons, List.length_nil]; omega)]
    simp only [extract_mkB, toList_mkB, Option.bind_some]
    congr 1
    have e : ∀ a b : List UInt8, (a == b) = decide (a = b) := fun a b => by
      by_cases h : a = b
      · rw [decide_eq_true h, h]; exact beq_self_eq_true b
      · rw [decide_eq_false h]; exact beq_eq_false_iff_ne.2 h
    exact e _ _
set_option maxHeartbeats 1000000 in
theorem word_l0 : ∀ (n : Nat) (s : List UInt8), s.length ≤ n → ∀ (q : Bool) (out : List UInt8), s.length + out.length < 1000000000 →
    Evl (fun k => request_word.l0 k (mkB s) (nums out) q) (mkB (out ++ (wrd q s).1), mkB (wrd q s).2)
  | _, [], _, q, out, hl => by
    refine Evl.succ ?_
    simp only [request_word.l0]
    refine Evl.pos (by rw [toList_mkB]) ?_
    rw [show strOfNums (nums out) = mkB out from nums_str out]
    simp only [wrd, List.append_nil]
    exact Evl.some _
  | 0, x :: t, h, q, out, hl => by simp at h
  | n + 1, x :: t, h, q, out, hl => by
    refine Evl.succ ?_
    simp only [request_word.l0]
    refine Evl.neg (by rw [toList_mkB]; simp) (Evl.pos (by rw [size_mkB]; simp only [List.length_cons]; omega) ?_)
    simp only [bt_head]
    -- what is done without a backslash in front of another byte
    have plain : ∀ (hx : ¬ (x = 92 ∧ t ≠ [])), Evl (fun k => request_word.j2 k (mkB (x :: t)) (nums out) q false) (mkB (out ++ (wrd q (x :: t)).1), mkB (wrd q (x :: t)).2) := by
      intro hx
      refine Evl.succ ?_
      simp only [request_word.j2]
      refine Evl.neg (by simp) ?_
      have take : ∀ q, (wrd q (x :: t) = (x :: (wrd q t).1, (wrd q t).2)) → Evl (fun k => if (nums out).length < 140737488355328 then (if 1 ≤ ((mkB (x :: t)).size : Int) then (request_word.l0 k ((mkB (x :: t)).extract 1 (mkB (x :: t)).size) (nums out ++ [(x.toNat : Int)]) q) else none) else none) (mkB (out ++ (wrd q (x :: t)).1), mkB (wrd q (x :: t)).2) := by
        intro q hw
        refine Evl.pos (by rw [nums_len]; omega) (Evl.pos (by rw [size_mkB]; simp only [List.length_cons]; omega) ?_)
        rw [tail_mkB, nums_one, nums_append, hw]
        have := word_l0 n t (by simp at h; omega) q (out ++ [x]) (by simp at hl ⊢; omega)
        rwa [List.append_assoc] at this
      cases q with
      | false =>
        refine Evl.neg (by simp) (Evl.succ ?_)
        simp only [request_word.j3]
        refine Evl.neg (by simp) (Evl.neg (by simp) (Evl.pos (by rw [size_mkB]; simp only [List.length_cons]; omega) ?_))
        simp only [bt_head]
        refine Evl.bind (Evl.of_eq (Evl.some _) fun _ => ib_blank x) ?_
        by_cases hb : bl x = true
        · refine Evl.pos (by rw [if_pos hb]; split <;> decide) ?_
          have hw : wrd false (x :: t) = ([], x :: t) := by
            have h92 : x ≠ 92 := fun e => by rw [e] at hb; revert hb; decide
            cases t with
            | nil => simp [wrd, hb]
            | cons y t => simp [wrd, hb, h92]
          rw [hw, show strOfNums (nums out) = mkB out from nums_str out]
          simp only [List.append_nil]
          exact Evl.some _
        · refine Evl.neg (by rw [if_neg hb]; decide) (take false ?_)
          cases t with
          | nil => simp [wrd, hb]
          | cons y t => simp [wrd, hb, show x ≠ 92 from fun e => hx ⟨e, by simp⟩]
      | true =>
        refine Evl.pos rfl (Evl.pos (by rw [size_mkB]; simp only [List.length_cons]; omega) ?_)
        simp only [bt_head]
        by_cases h34 : x = 34
        · subst h34
          refine Evl.succ ?_
          simp only [request_word.j3]
          refine Evl.pos (by decide) ?_
          refine Evl.bind (Evl.of_eq (Evl.some _) fun _ => pre2 _) ?_
          cases t with
          | nil =>
            refine Evl.neg (by simp) (Evl.pos (by rw [size_mkB]; simp only [List.length_cons]; omega) ?_)
            rw [tail_mkB]
            have := word_l0 n [] (by simp) false out (by simp at hl ⊢; omega)
            simpa [wrd] using this
          | cons y t =>
            by_cases hy : y = 34
            · subst hy
              refine Evl.pos (by simp) (Evl.pos (by rw [size_mkB]; simp only [List.length_cons]; omega) ?_)
              rw [tail_mkB]
              refine Evl.pos (by rw [size_mkB]; simp only [List.length_cons]; omega) (Evl.pos (by rw [nums_len]; omega) (Evl.pos (by rw [size_mkB]; simp only [List.length_cons]; omega) ?_))
              rw [tail_mkB, bt_head, nums_one, nums_append]
              have := word_l0 n t (by simp at h; omega) true (out ++ [34]) (by simp at hl ⊢; omega)
              simpa [wrd] using this
            · refine Evl.neg (by simp [hy]) (Evl.pos (by rw [size_mkB]; simp only [List.length_cons]; omega) ?_)
              rw [tail_mkB]
              have := word_l0 n (y :: t) (by simp at h ⊢; omega) false out (by simp at hl ⊢; omega)
              simpa [wrd, hy] using this
        · have e34 : ((x.toNat : Int) == 34) = false := beq_eq_false_iff_ne.2 fun e => h34 ((b_eq (n := 34) (by decide)).1 e)
          refine Evl.succ ?_
          simp only [request_word.j3, e34]
          refine Evl.neg (by simp) (Evl.pos trivial (Evl.pos (by rw [size_mkB]; simp only [List.length_cons]; omega) ?_))
          simp only [bt_head]
          refine take true ?_
          cases t with
          | nil => simp [wrd, h34]
          | cons y t => simp [wrd, h34, show x ≠ 92 from fun e => hx ⟨e, by simp⟩]
    by_cases h92 : x = 92
    · subst h92
      refine Evl.pos (by decide) ?_
      cases t with
      | nil =>
        rw [show decide (((mkB [(92 : UInt8)]).size : Int) > 1) = false from by rw [size_mkB]; rfl]
        exact plain (by simp)
      | cons y t =>
        rw [show decide (((mkB ((92 : UInt8) :: y :: t)).size : Int) > 1) = true from decide_eq_true (by rw [size_mkB]; simp only [List.length_cons]; omega)]
        refine Evl.succ ?_
        simp only [request_word.j2]
        refine Evl.pos trivial (Evl.pos (by decide) (Evl.pos (by rw [size_mkB]; simp only [List.length_cons]; omega) ?_))
        have e2 : (mkB ((92 : UInt8) :: y :: t)).extract 0 2 = mkB [92, y] := by rw [extract_mkB]; rfl
        rw [e2, tail2_mkB, bytesOf_mkB]
        refine Evl.pos (by rw [nums_len, size_mkB]; simp at hl ⊢; omega) ?_
        have := word_l0 n t (by simp at h; omega) q (out ++ [92, y]) (by simp at hl ⊢; omega)
        rw [← nums_append] at this
        simpa [wrd, nums] using this
    · refine Evl.neg (fun e => h92 ((b_eq (n := 92) (by decide)).1 e)) (plain fun e => h92 e.1)
theorem word_f (x : UInt8) (t : List UInt8) (hl : t.length < 100000000) : Evl (fun k => request_word.f k (mkB (x :: t))) (mkB (word (x :: t)).1, mkB (word (x :: t)).2) := by
  unfold request_word.f
  refine Evl.pos (by rw [size_mkB]; simp only [List.length_cons]; omega) ?_
  simp only [bt_head]
  by_cases h34 : x = 34
  · subst h34
    refine Evl.pos (by decide) (Evl.pos (by rw [size_mkB]; simp only [List.length_cons]; omega) (Evl.succ ?_))
    simp only [request_word.j0]
    rw [tail_mkB]
    have := word_l0 _ t (Nat.le_refl _) true [] (by simp; omega)
    simpa [word, nums] using this
  · have e34 : ((x.toNat : Int) == 34) = false := beq_eq_false_iff_ne.2 fun e => h34 ((b_eq (n := 34) (by decide)).1 e)
    refine Evl.neg (fun e => h34 ((b_eq (n := 34) (by decide)).1 e)) (Evl.succ ?_)
    simp only [request_word.j0, e34]
    have := word_l0 _ (x :: t) (Nat.le_refl _) false [] (by simp; omega)
    simpa [word, nums, h34] using this
theorem head_dropW (s : List UInt8) : ∀ x t, s.dropWhile bl = x :: t → bl x = false := by
  induction s with
  | nil => intro x t h; cases h
  | cons a s ih =>
    intro x t h
    rw [List.dropWhile_cons] at h
    split at h
    · exact ih x t h
    · rename_i hb
      injection h with h1 h2
      subst h1
      simpa using hb
theorem Words_l0 : ∀ (n : Nat) (s : List UInt8), s.length ≤ n → (∀ x t, s = x :: t → bl x = false) → ∀ (out : List ByteArray), s.length < 100000000 → s.length + out.length < 100000000 →
    Evl (fun k => request_Words.l0 k (mkB s) out) (out ++ (wds n s).map mkB)
  | n, [], _, _, out, _, _ => by
    refine Evl.succ ?_
    simp only [request_Words.l0]
    refine Evl.pos (by rw [toList_mkB]) ?_
    have e : wds n [] = [] := by cases n <;> rfl
    rw [e]
    simp only [List.map_nil, List.append_nil]
    exact Evl.some _
  | 0, x :: t, h, _, _, _, _ => by simp at h
  | n + 1, x :: t, h, hb, out, hl, ho => by
    have hw := word_len x t (hb x t rfl)
    have hd := dropW_len bl (word (x :: t)).2
    refine Evl.succ ?_
    simp only [request_Words.l0]
    refine Evl.neg (by rw [toList_mkB]; simp) (Evl.bind (word_f x t (by simp at hl; omega)) ?_)
    refine Evl.pos (by omega) ?_
    refine Evl.bind (Evl.of_eq (Evl.some _) fun _ => trim_eq _) ?_
    have := Words_l0 n ((word (x :: t)).2.dropWhile bl) (by simp at h; omega) (head_dropW _) (out ++ [mkB (word (x :: t)).1]) (by simp at hl; omega) (by simp at ho ⊢; omega)
    simpa [wds] using this
theorem Words_f (s : List UInt8) (hl : s.length < 10000000) : Evl (fun k => request_Words.f k (mkB s)) ((wds s.length (s.dropWhile bl)).map mkB) := by
  unfold request_Words.f
  refine Evl.bind (Evl.of_eq (Evl.some _) fun _ => trim_eq s) ?_
  have h := dropW_len bl s
  have := Words_l0 s.length (s.dropWhile bl) h (head_dropW s) [] (by omega) (by simp; omega)
  simpa using this
/-! The document's. -/
theorem blank_eq (x : UInt8) : frisketref06_blank.f (x.toNat : Int) = some (bl x) := by
  unfold frisketref06_blank.f bl
  by_cases h1 : x = 32
  · subst h1; rfl
  · rw [if_neg (show ¬ (x.toNat : Int) = 32 from fun e => h1 ((b_eq (n := 32) (by decide)).1 e))]
    by_cases h2 : x = 9
    · subst h2; rfl
    · have e9 : ((x.toNat : Int) == 9) = false := beq_eq_false_iff_ne.2 fun e => h2 ((b_eq (n := 9) (by decide)).1 e)
      rw [e9]; simp [h1, h2]
theorem skip_l0 (s : List UInt8) (hs : s.length < 100000000) : ∀ (r : List UInt8) (i : Nat), s.drop i = r → i ≤ s.length →
    ∃ j : Nat, Evl (fun k => frisketref06_skip.l0 k (mkB s) (i : Int)) (j : Int) ∧ s.drop j = r.dropWhile bl ∧ i ≤ j ∧ j ≤ s.length
  | [], i, h, hi => by
    have hl := drop_len h hi
    refine ⟨i, Evl.succ ?_, h, Nat.le_refl _, hi⟩
    simp only [frisketref06_skip.l0]
    exact Evl.neg (by rw [size_mkB]; simp at hl; omega) (Evl.some _)
  | x :: t, i, h, hi => by
    obtain ⟨h1, h2, h3⟩ := drop_cons h
    by_cases hb : bl x = true
    · obtain ⟨j, hj, hd, h4, h5⟩ := skip_l0 s hs t (i + 1) h2 (by omega)
      refine ⟨j, Evl.succ ?_, by rw [List.dropWhile_cons, if_pos hb]; exact hd, by omega, h5⟩
      simp only [frisketref06_skip.l0]
      refine Evl.pos (by rw [size_mkB]; omega) (Evl.pos (by omega) (Evl.bind (Evl.of_eq (Evl.some _) fun _ => by rw [bt_drop h]; exact blank_eq x) (Evl.pos hb ?_)))
      rw [wn (by omega)]
      exact hj
    · refine ⟨i, Evl.succ ?_, by rw [List.dropWhile_cons, if_neg hb]; exact h, Nat.le_refl _, hi⟩
      simp only [frisketref06_skip.l0]
      exact Evl.pos (by rw [size_mkB]; omega) (Evl.pos (by omega) (Evl.bind (Evl.of_eq (Evl.some _) fun _ => by rw [bt_drop h]; exact blank_eq x) (Evl.neg hb (Evl.some _))))
theorem word_ref (s : List UInt8) (hs : s.length < 100000000) : ∀ (r : List UInt8) (i : Nat), s.drop i = r → i ≤ s.length →
    ∃ j : Nat, Evl (fun k => frisketref06_word.l0 k (mkB s) (i : Int)) (j : Int) ∧ s.drop j = r.dropWhile (fun b => !bl b) ∧ i ≤ j ∧ j ≤ s.length ∧ (mkB s).extract i j = mkB (r.takeWhile fun b => !bl b)
  | [], i, h, hi => by
    have hl := drop_len h hi
    refine ⟨i, Evl.succ ?_, h, Nat.le_refl _, hi, ?_⟩
    · simp only [frisketref06_word.l0]
      exact Evl.neg (by rw [size_mkB]; simp at hl; omega) (Evl.some _)
    · exact ext_drop (u := []) (t := []) h
  | x :: t, i, h, hi => by
    obtain ⟨h1, h2, h3⟩ := drop_cons h
    by_cases hb : bl x = true
    · refine ⟨i, Evl.succ ?_, by rw [List.dropWhile_cons, if_neg (by simp [hb])]; exact h, Nat.le_refl _, hi, ?_⟩
      · simp only [frisketref06_word.l0]
        exact Evl.pos (by rw [size_mkB]; omega) (Evl.pos (by omega) (Evl.bind (Evl.of_eq (Evl.some _) fun _ => by rw [bt_drop h]; exact blank_eq x) (Evl.pos hb (Evl.some _))))
      · rw [List.takeWhile_cons, if_neg (by simp [hb])]
        exact ext_drop (u := []) (t := x :: t) h
    · obtain ⟨j, hj, hd, h4, h5, h6⟩ := word_ref s hs t (i + 1) h2 (by omega)
      refine ⟨j, Evl.succ ?_, by rw [List.dropWhile_cons, if_pos (by simp [hb])]; exact hd, by omega, h5, ?_⟩
      · simp only [frisketref06_word.l0]
        refine Evl.pos (by rw [size_mkB]; omega) (Evl.pos (by omega) (Evl.bind (Evl.of_eq (Evl.some _) fun _ => by rw [bt_drop h]; exact blank_eq x) (Evl.neg hb ?_)))
        rw [wn (by omega)]
        exact hj
      · rw [List.takeWhile_cons, if_pos (by simp [hb])]
        have e := h6
        rw [extract_mkB] at e ⊢
        have e1 := mkB_inj e
        rw [List.drop_take] at e1 ⊢
        rw [h2] at e1
        rw [h, show j - i = (j - (i + 1)) + 1 by omega, List.take_succ_cons, e1]
end Go.Proofs.YtpeimnipoohaaaaDoor.P06
