/- What a control line is written as: both functions tell the same. -/
import Derived.Test.YtpeimnipoohaaaaDoorBitsRq
import Derived.Test.YtpeimnipoohaaaaDoorQRwx4
namespace Go.Proofs.YtpeimnipoohaaaaDoor.P06
open Go.RowKit Go.Proofs.YtpeimnipoohaaaaDoorW.PrintWords Go.Proofs.YtpeimnipoohaaaaDoorW.PrintLast Go.Proofs.YtpeimnipoohaaaaDoorW.PrintMore Go.Proofs.YtpeimnipoohaaaaDoorN Go.Proofs.YtpeimnipoohaaaaDoor.Evl Go.Proofs.YtpeimnipoohaaaaDoor.Str Go.Proofs.YtpeimnipoohaaaaDoor.QRq Go.Proofs.YtpeimnipoohaaaaDoor.QRw
open Go.Proofs.YtpeimnipoohaaaaDoor.ReplOne (rep rep_len)
set_option linter.unusedVariables false
set_option linter.unusedSimpArgs false
/-- How many backslashes stand at the end. -/
def tb : Nat → List UInt8 → Nat
  | n, [] => n
  | n, b :: l => tb (if b = 92 then n + 1 else 0) l
theorem tb_snoc (b : UInt8) : ∀ (l : List UInt8) (n : Nat), tb n (l ++ [b]) = if b = 92 then tb n l + 1 else 0
  | [], n => by simp [tb]
  | x :: l, n => by rw [List.cons_append, tb, tb, tb_snoc b l]
theorem tb_trim (l : List UInt8) : (Lib.trimRightS l [92]).length + tb 0 l = l.length := by
  have h : ∀ r : List UInt8, (Lib.trimRightS r.reverse [92]).length + tb 0 r.reverse = r.length := by
    intro r
    induction r with
    | nil => rfl
    | cons b r ih =>
      have e : Lib.trimRightS (b :: r).reverse [92] = if b = 92 then Lib.trimRightS r.reverse [92] else (b :: r).reverse := by
        unfold Lib.trimRightS
        rw [List.reverse_reverse, List.reverse_reverse, List.dropWhile_cons]
        have hc : [(92 : UInt8)].contains b = decide (b = 92) := by
          simp only [List.contains_cons, List.contains_nil, Bool.or_false]
          rfl
        rw [hc]
        by_cases hb : b = 92
        · rw [if_pos hb, decide_eq_true hb, if_pos rfl]
        · rw [if_neg hb, decide_eq_false hb, if_neg (by simp)]
      rw [e, List.reverse_cons, tb_snoc, List.length_cons]
      by_cases hb : b = 92
      · rw [if_pos hb, if_pos hb]; omega
      · rw [if_neg hb, if_neg hb]; simp
  have := h l.reverse
  rwa [List.reverse_reverse, List.length_reverse] at this
theorem trim_len (l : List UInt8) : (Lib.trimRightS l [92]).length ≤ l.length := by have := tb_trim l; omega
def wants (s : List UInt8) : Bool := s.isEmpty || s.any bl || s.head? == some 34 || tb 0 s % 2 == 1
def dq (s : List UInt8) : List UInt8 := rep 34 [34, 34] s
def shown (s : List UInt8) : List UInt8 := if wants s then 34 :: (dq s ++ [34]) else s
theorem dq_len (s : List UInt8) : (dq s).length ≤ 2 * s.length := by
  have h := rep_len 34 [34, 34] s
  have h2 := List.count_le_length (a := (34 : UInt8)) (l := s)
  simp only [List.length_cons, List.length_nil] at h
  unfold dq
  omega
theorem shown_len (s : List UInt8) : (shown s).length ≤ 2 * s.length + 2 := by
  unfold shown
  split
  · have := dq_len s; simp only [List.length_cons, List.length_append, List.length_nil]; omega
  · omega
theorem any_eq (s : List UInt8) : Lib.containsAny s [32, 9] = s.any bl := by
  unfold Lib.containsAny
  rw [ia_eq]
  induction s with
  | nil => rfl
  | cons x t ih =>
    rw [List.dropWhile_cons, List.takeWhile_cons, List.any_cons]
    have en : nb x = !bl x := rfl
    cases hb : bl x
    · rw [en, hb]
      simp only [Bool.not_false, if_true, Bool.false_or]
      rw [← ih]
      by_cases h : List.dropWhile nb t = []
      · rw [if_pos h, if_pos h]
      · rw [if_neg h, if_neg h]
        rw [decide_eq_true (by omega), decide_eq_true (by omega)]
    · rw [en, hb]; simp
theorem repl_f (s : List UInt8) (hs : s.length < 1000000) : strings_ReplaceAll.f (mkB s) (⟨#[34]⟩ : ByteArray) (⟨#[34, 34]⟩ : ByteArray) = some (mkB (dq s)) := by
  unfold strings_ReplaceAll.f
  show (if (mkB s).size < 10000000 ∧ (⟨#[34, 34]⟩ : ByteArray).size < 10000 ∧ (⟨#[34, 34]⟩ : ByteArray).data.toList ≠ [34] then _ else _) = _
  rw [if_pos ⟨by rw [size_mkB]; omega, by decide, by decide⟩, data_mkB]
  rfl
theorem shown_f (s : List UInt8) (hs : s.length < 100000) : request_shown.f (mkB s) = some (mkB (shown s)) := by
  have hd := dq_len s
  have e34 : (⟨#[34]⟩ : ByteArray) = mkB [34] := rfl
  have q : ((strings_ReplaceAll.f (mkB s) (⟨#[34]⟩ : ByteArray) (⟨#[34, 34]⟩ : ByteArray)).bind fun t => (if 1 + t.size ≤ 9223372036854775807 then (if ((⟨#[34]⟩ : ByteArray) ++ t).size + 1 ≤ 9223372036854775807 then (some (((⟨#[34]⟩ : ByteArray) ++ t) ++ (⟨#[34]⟩ : ByteArray))) else (none)) else (none))) = some (mkB (34 :: (dq s ++ [34]))) := by
    rw [repl_f s (by omega), Option.bind_some, e34, append_mkB, append_mkB, size_mkB, size_mkB, if_pos (by omega), if_pos (by simp only [List.length_append, List.length_cons, List.length_nil]; omega)]
    rfl
  have t : strings_TrimRight.f (mkB s) (⟨#[92]⟩ : ByteArray) = some (mkB (Lib.trimRightS s [92])) := by
    unfold strings_TrimRight.f
    rw [if_pos ⟨by rw [size_mkB]; omega, by decide, by decide⟩, data_mkB]
    rfl
  have c : strings_ContainsAny.f (mkB s) (⟨#[32, 9]⟩ : ByteArray) = some (s.any bl) := by
    unfold strings_ContainsAny.f
    rw [if_pos ⟨by rw [size_mkB]; omega, by decide, by decide, by decide⟩, data_mkB]
    exact congrArg some (any_eq s)
  unfold request_shown.f
  rw [t, Option.bind_some]
  cases s with
  | nil =>
    rw [if_pos (by rw [toList_mkB])]
    exact q
  | cons x r =>
    rw [if_neg (by rw [toList_mkB]; simp), c, Option.bind_some]
    cases ha : (x :: r).any bl
    · rw [if_neg (by simp), if_pos (by rw [size_mkB]; simp only [List.length_cons]; omega), bt_head]
      by_cases hx : x = 34
      · have hw : wants (x :: r) = true := by simp [wants, hx]
        rw [if_pos (by rw [hx]; rfl)]
        unfold shown
        rw [hw]
        exact q
      · rw [if_neg (show ¬ (x.toNat : Int) = 34 from fun e => hx ((b_eq (n := 34) (by decide)).1 e)), size_mkB, size_mkB]
        have hm := tb_trim (x :: r)
        have e1 : wrap64 (((x :: r).length : Int) - ((Lib.trimRightS (x :: r) [92]).length : Int)) = ((tb 0 (x :: r) : Nat) : Int) := by rw [w64 (by omega) (by omega)]; omega
        rw [e1, Int.tmod_eq_emod_of_nonneg (by omega)]
        by_cases hp : tb 0 (x :: r) % 2 = 1
        · have hw : wants (x :: r) = true := by simp [wants, hp]
          rw [if_pos (by omega)]
          unfold shown
          rw [hw]
          exact q
        · have hw : wants (x :: r) = false := by
            unfold wants
            rw [ha]
            have h1 : ((x :: r).head? == some 34) = false := by simp [hx]
            have h2 : (tb 0 (x :: r) % 2 == 1) = false := beq_eq_false_iff_ne.2 hp
            rw [h1, h2]
            rfl
          rw [if_neg (by omega)]
          unfold shown
          rw [hw]
          rfl
    · have hw : wants (x :: r) = true := by simp only [wants, ha, Bool.or_true, Bool.true_or]
      rw [if_pos rfl]
      unfold shown
      rw [hw]
      exact q
theorem quoted_l1 (s : List UInt8) (hs : s.length < 100000) : ∀ (r : List UInt8) (i : Nat), s.drop i = r → i ≤ s.length → ∀ out : List UInt8, out.length ≤ 10 + 2 * i →
    Evl (fun k => frisketref06_quoted.l1 k (mkB s) (mkB out) (i : Int)) (mkB (out ++ dq r ++ [34]))
  | [], i, h, hi, out, ho => by
    have hl := drop_len h hi
    refine Evl.succ ?_
    simp only [frisketref06_quoted.l1]
    refine Evl.neg (by rw [size_mkB]; simp at hl; omega) (Evl.pos (by rw [size_mkB]; omega) ?_)
    have e : mkB out ++ (⟨#[34]⟩ : ByteArray) = mkB (out ++ dq [] ++ [34]) := by
      rw [show (⟨#[34]⟩ : ByteArray) = mkB [34] from rfl, append_mkB]; simp [dq, rep]
    rw [e]
    exact Evl.some _
  | x :: t, i, h, hi, out, ho => by
    obtain ⟨h1, h2, h3⟩ := drop_cons h
    have w1 : wrap64 ((i : Int) + 1) = ((i + 1 : Nat) : Int) := wn (by omega)
    have e : (mkB s).extract i (i + 1) = mkB [x] := ext_drop (u := [x]) (t := t) h
    refine Evl.succ ?_
    simp only [frisketref06_quoted.l1]
    refine Evl.pos (by rw [size_mkB]; omega) (Evl.pos (by omega) ?_)
    rw [bt_drop h, w1]
    simp only [Int.toNat_natCast]
    rw [e]
    have e34 : (⟨#[34]⟩ : ByteArray) = mkB [34] := rfl
    by_cases hx : x = 34
    · subst hx
      refine Evl.pos rfl (Evl.pos (by rw [size_mkB]; omega) (Evl.pos (by omega) (Evl.pos (by rw [size_mkB]; omega) ?_)))
      rw [e34, append_mkB, append_mkB]
      refine Evl.pos (by rw [size_mkB, size_mkB]; simp only [List.length_append, List.length_cons, List.length_nil]; omega) ?_
      have := quoted_l1 s hs t (i + 1) h2 (by omega) (out ++ [34] ++ [34]) (by simp only [List.length_append, List.length_cons, List.length_nil]; omega)
      have e2 : out ++ dq (34 :: t) ++ [34] = out ++ [34] ++ [34] ++ dq t ++ [34] := by simp [dq, rep]
      rw [e2]
      exact this
    · refine Evl.neg (fun e => hx ((b_eq (n := 34) (by decide)).1 e)) (Evl.pos (by omega) (Evl.pos (by rw [size_mkB]; omega) ?_))
      rw [append_mkB]
      refine Evl.pos (by rw [size_mkB, size_mkB]; simp only [List.length_cons, List.length_nil]; omega) ?_
      have := quoted_l1 s hs t (i + 1) h2 (by omega) (out ++ [x]) (by simp only [List.length_append, List.length_cons, List.length_nil]; omega)
      have e2 : out ++ dq (x :: t) ++ [34] = out ++ [x] ++ dq t ++ [34] := by simp [dq, rep, hx]
      rw [e2]
      exact this
theorem quoted_l0 (s : List UInt8) (hs : s.length < 100000) : ∀ (r : List UInt8) (i : Nat), s.drop i = r → i ≤ s.length → ∀ (q : Bool) (n : Nat), n ≤ i →
    Evl (fun k => frisketref06_quoted.l0 k (mkB s) q (n : Int) (i : Int)) (mkB (if q || r.any bl || tb n r % 2 == 1 then 34 :: (dq s ++ [34]) else s))
  | [], i, h, hi, q, n, hn => by
    have hl := drop_len h hi
    refine Evl.succ ?_
    simp only [frisketref06_quoted.l0]
    refine Evl.neg (by rw [size_mkB]; simp at hl; omega) ?_
    have go : Evl (fun k => frisketref06_quoted.j2 k (mkB s) false) (mkB (34 :: (dq s ++ [34]))) := by
      refine Evl.succ ?_
      simp only [frisketref06_quoted.j2]
      refine Evl.neg (by decide) ?_
      have := quoted_l1 s hs s 0 rfl (by omega) [34] (by simp)
      exact this
    cases q
    · refine Evl.neg (by decide) ?_
      rw [Int.tmod_eq_emod_of_nonneg (by omega)]
      by_cases hp : n % 2 = 1
      · have e1 : ((n : Int) % 2 == 0) = false := beq_eq_false_iff_ne.2 (by omega)
        have e2 : (tb n [] % 2 == 1) = true := beq_iff_eq.2 hp
        rw [e1, e2]
        exact go
      · have e1 : ((n : Int) % 2 == 0) = true := beq_iff_eq.2 (by omega)
        have e2 : (tb n [] % 2 == 1) = false := beq_eq_false_iff_ne.2 hp
        rw [e1, e2]
        refine Evl.succ ?_
        simp only [frisketref06_quoted.j2]
        exact Evl.pos trivial (Evl.some _)
    · exact Evl.pos rfl go
  | x :: t, i, h, hi, q, n, hn => by
    obtain ⟨h1, h2, h3⟩ := drop_cons h
    have w1 : wrap64 ((i : Int) + 1) = ((i + 1 : Nat) : Int) := wn (by omega)
    have w2 : wrap64 ((n : Int) + 1) = ((n + 1 : Nat) : Int) := wn (by omega)
    have next : ∀ q' : Bool, Evl (fun k => if (x.toNat : Int) = 92 then frisketref06_quoted.l0 k (mkB s) q' (wrap64 ((n : Int) + 1)) (wrap64 ((i : Int) + 1)) else frisketref06_quoted.l0 k (mkB s) q' 0 (wrap64 ((i : Int) + 1))) (mkB (if q' || t.any bl || tb n (x :: t) % 2 == 1 then 34 :: (dq s ++ [34]) else s)) := by
      intro q'
      rw [w1, w2]
      by_cases hx : x = 92
      · subst hx
        refine Evl.pos rfl ?_
        have := quoted_l0 s hs t (i + 1) h2 (by omega) q' (n + 1) (by omega)
        simpa [tb] using this
      · refine Evl.neg (fun e => hx ((b_eq (n := 92) (by decide)).1 e)) ?_
        have := quoted_l0 s hs t (i + 1) h2 (by omega) q' 0 (by omega)
        simpa [tb, hx] using this
    refine Evl.succ ?_
    simp only [frisketref06_quoted.l0]
    refine Evl.pos (by rw [size_mkB]; omega) ?_
    rw [bt_drop h]
    cases q
    · refine Evl.neg (by decide) (Evl.pos (by omega) (Evl.bind (Evl.of_eq (Evl.some _) fun _ => blank_eq x) ?_))
      have := next (bl x)
      simpa [List.any_cons] using this
    · refine Evl.pos rfl (Evl.pos (by omega) ?_)
      have := next true
      simpa using this
theorem quoted_f (s : List UInt8) (hs : s.length < 100000) : Evl (fun k => frisketref06_quoted.f k (mkB s)) (mkB (shown s)) := by
  unfold frisketref06_quoted.f
  cases s with
  | nil =>
    refine Evl.pos (by rw [toList_mkB]) (Evl.succ ?_)
    simp only [frisketref06_quoted.j0]
    have := quoted_l0 [] (by simp) [] 0 rfl (by simp) true 0 (by omega)
    simpa [shown, wants] using this
  | cons x r =>
    refine Evl.neg (by rw [toList_mkB]; simp) (Evl.pos (by rw [size_mkB]; simp only [List.length_cons]; omega) (Evl.succ ?_))
    simp only [frisketref06_quoted.j0]
    rw [bt_head]
    have e : ((x.toNat : Int) == 34) = (x == 34) := by
      by_cases hx : x = 34
      · subst hx; rfl
      · rw [show ((x.toNat : Int) == 34) = false from beq_eq_false_iff_ne.2 (fun e => hx ((b_eq (n := 34) (by decide)).1 e)), beq_eq_false_iff_ne.2 hx]
    rw [e]
    have := quoted_l0 (x :: r) hs (x :: r) 0 rfl (by simp) (x == 34) 0 (by omega)
    have ew : wants (x :: r) = ((x == 34) || (x :: r).any bl || tb 0 (x :: r) % 2 == 1) := by
      unfold wants
      simp only [List.isEmpty_cons, Bool.false_or, List.head?_cons]
      have : (some x == some (34 : UInt8)) = (x == 34) := rfl
      rw [this]
      cases (x == 34) <;> cases (x :: r).any bl <;> rfl
    unfold shown
    rw [ew]
    exact this
/-! ### a line -/
def args (L : List (List UInt8)) : List UInt8 := L.flatMap fun a => 32 :: shown a
theorem args_len (m : Nat) (L : List (List UInt8)) (h : ∀ a ∈ L, a.length ≤ m) : (args L).length ≤ L.length * (2 * m + 3) := by
  induction L with
  | nil => simp [args]
  | cons a L ih =>
    have h1 := shown_len a
    have h2 := h a (List.mem_cons_self ..)
    have h3 := ih fun b hb => h b (List.mem_cons_of_mem _ hb)
    have e : args (a :: L) = 32 :: shown a ++ args L := by simp [args]
    rw [e, List.length_append, List.length_cons, List.length_cons, Nat.succ_mul]
    omega
def strs (L : List (List UInt8)) : List ByteArray := L.map mkB
theorem strs_at (L : List (List UInt8)) (i : Nat) (h : i < L.length) : rdOf ByteArray.empty (strs L) (i : Int) = mkB (L[i]'h) := by
  unfold rdOf strs
  rw [List.getD_eq_getElem?_getD, Int.toNat_natCast, List.getElem?_map, List.getElem?_eq_getElem h]
  rfl
theorem strs_inj {L M : List (List UInt8)} (h : strs L = strs M) : L = M := by
  induction L generalizing M with
  | nil => cases M with
    | nil => rfl
    | cons b M => cases h
  | cons a L ih => cases M with
    | nil => cases h
    | cons b M =>
      simp only [strs, List.map_cons, List.cons.injEq] at h
      rw [mkB_inj h.1, ih h.2]
theorem strs_len (L : List (List UInt8)) : (strs L).length = L.length := by simp [strs]
/-- slices.Equal of texts. -/
theorem equal_l0 (L M : List (List UInt8)) (hl : L.length = M.length) (hb : L.length < 1000000000) : ∀ (d i : Nat), i + d = L.length → Evl (fun k => slices_Equal_string_string.l0 k (strs L) (strs M) (L.length : Int) (i : Int)) (L.drop i == M.drop i)
  | 0, i, h => by
    refine Evl.succ ?_
    simp only [slices_Equal_string_string.l0]
    refine Evl.neg (by omega) ?_
    rw [List.drop_eq_nil_of_le (by omega), List.drop_eq_nil_of_le (by omega)]
    exact Evl.some _
  | d + 1, i, h => by
    have hi : i < L.length := by omega
    have hj : i < M.length := by omega
    refine Evl.succ ?_
    simp only [slices_Equal_string_string.l0]
    refine Evl.pos (by omega) (Evl.pos (by omega) (Evl.pos (by rw [strs_len]; omega) (Evl.pos (by rw [strs_len]; omega) ?_)))
    rw [strs_at L i hi, strs_at M i hj, toList_mkB, toList_mkB, List.drop_eq_getElem_cons hi, List.drop_eq_getElem_cons hj]
    by_cases e : L[i]'hi = M[i]'hj
    · refine Evl.pos e ?_
      rw [wn (by omega)]
      have := equal_l0 L M hl hb d (i + 1) (by omega)
      have e2 : ((L[i]'hi :: L.drop (i + 1)) == (M[i]'hj :: M.drop (i + 1))) = (L.drop (i + 1) == M.drop (i + 1)) := by
        rw [List.cons_beq_cons, e, beq_self_eq_true, Bool.true_and]
      rw [e2]
      exact this
    · refine Evl.neg e ?_
      have e2 : ((L[i]'hi :: L.drop (i + 1)) == (M[i]'hj :: M.drop (i + 1))) = false := by
        rw [List.cons_beq_cons, beq_eq_false_iff_ne.2 e, Bool.false_and]
      rw [e2]
      exact Evl.some _
theorem equal_f (L M : List (List UInt8)) (hb : L.length < 1000000000) : Evl (fun k => slices_Equal_string_string.f k (strs L) (strs M)) (L == M) := by
  unfold slices_Equal_string_string.f
  rw [strs_len, strs_len]
  by_cases hl : L.length = M.length
  · refine Evl.pos (by omega) ?_
    have := equal_l0 L M hl hb L.length 0 (by omega)
    simpa using this
  · refine Evl.neg (by omega) ?_
    have e : (L == M) = false := beq_eq_false_iff_ne.2 fun h => hl (by rw [h])
    rw [e]
    exact Evl.some _
/-- The control line of a name and arguments, and the error. -/
def line (n : List UInt8) (L : List (List UInt8)) : ByteArray × Int :=
  if n.isEmpty || n.any bl || n.contains 10 || (args L).contains 10 || !(wds (args L).length ((args L).dropWhile bl) == L) then (mkB [], 4)
  else if 1 + n.length + (args L).length > 2000 then (mkB [], 1)
  else (mkB (46 :: n ++ args L), 0)
theorem cand (n : List UInt8) : Lib.containsAny n [32, 9, 10] = (n.any bl || n.contains 10) := by
  have h : ∀ l : List UInt8, (0 ≤ Lib.indexAny l [32, 9, 10] ↔ (l.any bl || l.contains 10) = true) := by
    intro l
    induction l with
    | nil => simp [Lib.indexAny]
    | cons x t ih =>
      have hc : [(32 : UInt8), 9, 10].contains x = (bl x || x == 10) := by
        simp only [List.contains_cons, List.contains_nil, Bool.or_false]
        unfold bl
        cases h1 : x == 32 <;> cases h2 : x == 9 <;> cases h3 : x == 10 <;> rfl
      rw [Lib.indexAny, hc, List.any_cons, List.contains_cons]
      have e10 : ((10 : UInt8) == x) = (x == 10) := by
        by_cases hx : x = 10
        · subst hx; rfl
        · rw [beq_eq_false_iff_ne.2 hx, beq_eq_false_iff_ne.2 fun e => hx e.symm]
      rw [e10]
      have hge := Lib.indexAny_ge [32, 9, 10] t
      cases hb : bl x
      · cases h10 : x == 10
        · simp only [Bool.or_false, Bool.false_eq_true, if_false, Bool.false_or]
          rw [← ih]
          by_cases hm : Lib.indexAny t [32, 9, 10] = -1
          · rw [hm]; simp
          · rw [if_neg (fun e => hm (beq_iff_eq.1 e))]; omega
        · simp
      · simp
  unfold Lib.containsAny
  cases hq : (n.any bl || n.contains 10)
  · exact decide_eq_false fun e => by have := (h n).1 e; rw [hq] at this; cases this
  · exact decide_eq_true ((h n).2 hq)
theorem write_l0 (n : List UInt8) (L : List (List UInt8)) (m : Nat) (hm : ∀ a ∈ L, a.length ≤ m) (hL : L.length ≤ 40) (hmb : m ≤ 20000) (R : ByteArray × Int)
    (hR : Evl (fun k => (strings_Contains.f (mkB (args L)) (⟨#[10]⟩ : ByteArray)).bind fun t => (if t = true then (request_Write.j2 k (mkB n) (mkB (args L)) true) else ((request_Words.f k (mkB (args L))).bind fun u => ((slices_Equal_string_string.f k u (strs L)).bind fun v => (request_Write.j2 k (mkB n) (mkB (args L)) (!v)))))) R) :
    ∀ (d i : Nat), i + d = L.length → Evl (fun k => request_Write.l0 k (mkB n) (strs L) (mkB (args (L.take i))) (strs L) ((strs L).length : Int) (i : Int)) R
  | 0, i, h => by
    refine Evl.succ ?_
    simp only [request_Write.l0]
    rw [strs_len, List.take_of_length_le (by omega)]
    exact Evl.neg (by omega) hR
  | d + 1, i, h => by
    have hi : i < L.length := by omega
    have hlen := args_len m (L.take i) fun a ha => hm a (List.mem_of_mem_take ha)
    have hti : (L.take i).length ≤ 40 := by rw [List.length_take]; omega
    have hmul : (L.take i).length * (2 * m + 3) ≤ 40 * (2 * 20000 + 3) := Nat.mul_le_mul hti (by omega)
    have ha := hm _ (List.getElem_mem hi)
    have hsl := shown_len (L[i]'hi)
    refine Evl.succ ?_
    simp only [request_Write.l0]
    refine Evl.pos (by rw [strs_len]; omega) (Evl.pos (by omega) (Evl.pos (by rw [strs_len]; omega) ?_))
    rw [strs_at L i hi]
    refine Evl.bind (Evl.of_eq (Evl.some _) fun _ => shown_f _ (by omega)) (Evl.pos (by rw [size_mkB]; omega) ?_)
    rw [show (⟨#[32]⟩ : ByteArray) = mkB [32] from rfl, append_mkB, append_mkB, size_mkB, size_mkB, wn (by omega)]
    refine Evl.pos (by simp only [List.length_append, List.length_cons, List.length_nil]; omega) ?_
    have := write_l0 n L m hm hL hmb R hR d (i + 1) (by omega)
    have e : args (L.take (i + 1)) = args (L.take i) ++ ([32] ++ shown (L[i]'hi)) := by
      unfold args
      rw [List.take_succ_eq_append_getElem hi, List.flatMap_append]
      simp
    rw [e] at this
    exact this
theorem args_bound (L : List (List UInt8)) (m : Nat) (hm : ∀ a ∈ L, a.length ≤ m) (hL : L.length ≤ 40) (hmb : m ≤ 20000) : (args L).length ≤ 1600200 := by
  have h := args_len m L hm
  have hmul : L.length * (2 * m + 3) ≤ 40 * (2 * 20000 + 3) := Nat.mul_le_mul hL (by omega)
  omega
theorem Write_prog (n : List UInt8) (L : List (List UInt8)) (m : Nat) (hn : n.length ≤ 140737488351232) (hm : ∀ a ∈ L, a.length ≤ m) (hL : L.length ≤ 40) (hmb : m ≤ 20000) : Evl (fun k => request_Write.f k (mkB n) (strs L)) (line n L) := by
  have hb := args_bound L m hm hL hmb
  have bad : Evl (fun k => request_Write.j0 k (mkB n) (strs L) true) (mkB [], 4) := by
    refine Evl.succ ?_
    simp only [request_Write.j0]
    exact Evl.pos trivial (Evl.some _)
  have bad2 : Evl (fun k => request_Write.j2 k (mkB n) (mkB (args L)) true) (mkB [], 4) := by
    refine Evl.succ ?_
    simp only [request_Write.j2]
    exact Evl.pos trivial (Evl.some _)
  unfold request_Write.f
  cases hne : n.isEmpty
  · have hn0 : n ≠ [] := fun e => by rw [e] at hne; cases hne
    refine Evl.neg (by rw [toList_mkB]; exact hn0) ?_
    have c : strings_ContainsAny.f (mkB n) (⟨#[32, 9, 10]⟩ : ByteArray) = some (n.any bl || n.contains 10) := by
      unfold strings_ContainsAny.f
      rw [if_pos ⟨by rw [size_mkB]; omega, by decide, by decide, by decide⟩, data_mkB]
      exact congrArg some (cand n)
    refine Evl.bind (Evl.of_eq (Evl.some _) fun _ => c) ?_
    cases h1 : (n.any bl || n.contains 10)
    · refine Evl.succ ?_
      simp only [request_Write.j0]
      refine Evl.neg (by decide) ?_
      have e0 : (⟨#[]⟩ : ByteArray) = mkB (args (L.take 0)) := rfl
      rw [e0]
      refine write_l0 n L m hm hL hmb _ ?_ L.length 0 (by omega)
      have e1 : line n L = if ((args L).contains 10 || !(wds (args L).length ((args L).dropWhile bl) == L)) then (mkB [], 4) else if 1 + n.length + (args L).length > 2000 then (mkB [], 1) else (mkB (46 :: n ++ args L), 0) := by
        unfold line
        rw [hne, Bool.or_assoc, Bool.false_or, Bool.or_assoc] at *
        simp only [hne, Bool.false_or, ← Bool.or_assoc, h1]
      refine Evl.bind (Evl.of_eq (Evl.some _) fun _ => contains10 _) ?_
      rw [e1]
      cases h2 : (args L).contains 10
      · refine Evl.neg (by decide) (Evl.bind (Words_f (args L) (by omega)) (Evl.bind (equal_f _ _ (by have := wds_len (args L).length ((args L).dropWhile bl); omega)) ?_))
        cases h3 : (wds (args L).length ((args L).dropWhile bl) == L)
        · exact bad2
        · refine Evl.succ ?_
          simp only [request_Write.j2]
          refine Evl.neg (by decide) ?_
          rw [show (⟨#[46]⟩ : ByteArray) = mkB [46] from rfl, append_mkB, append_mkB]
          refine Evl.pos (by rw [size_mkB]; omega) (Evl.pos (by rw [size_mkB, size_mkB]; simp only [List.length_append, List.length_cons, List.length_nil]; omega) ?_)
          rw [size_mkB]
          simp only [Bool.not_true, Bool.or_false, Bool.false_eq_true, if_false]
          by_cases h4 : 1 + n.length + (args L).length > 2000
          · rw [if_pos h4]
            exact Evl.pos (by simp only [List.length_append, List.length_cons, List.length_nil]; omega) (Evl.some _)
          · rw [if_neg h4]
            exact Evl.neg (by simp only [List.length_append, List.length_cons, List.length_nil]; omega) (Evl.some _)
      · exact Evl.pos rfl bad2
    · have e1 : line n L = (mkB [], 4) := by
        unfold line
        simp only [hne, Bool.false_or, h1, Bool.true_or, if_true]
      rw [e1]
      exact bad
  · have hn0 : n = [] := List.isEmpty_iff.1 hne
    have e1 : line n L = (mkB [], 4) := by
      unfold line
      simp only [hne, Bool.true_or, if_true]
    rw [e1]
    exact Evl.pos (by rw [toList_mkB]; exact hn0) bad
theorem to_l0 (s : List UInt8) (hs : s.length < 1000000000000) : ∀ (r : List UInt8) (i : Nat), s.drop i = r → i ≤ s.length →
    ∃ j : Int, Evl (fun k => frisketref06_to.l0 k (mkB s) (i : Int) 10) j ∧ decide (j ≥ 0) = r.contains 10
  | [], i, h, hi => by
    have hl := drop_len h hi
    refine ⟨-1, Evl.succ ?_, rfl⟩
    simp only [frisketref06_to.l0]
    exact Evl.neg (by rw [size_mkB]; simp at hl; omega) (Evl.some _)
  | x :: t, i, h, hi => by
    obtain ⟨h1, h2, h3⟩ := drop_cons h
    by_cases hx : x = 10
    · subst hx
      refine ⟨(i : Int), Evl.succ ?_, ?_⟩
      · simp only [frisketref06_to.l0]
        exact Evl.pos (by rw [size_mkB]; omega) (Evl.pos (by omega) (Evl.pos (by rw [bt_drop h]; rfl) (Evl.some _)))
      · rw [List.contains_cons]; simp
    · obtain ⟨j, hj, hd⟩ := to_l0 s hs t (i + 1) h2 (by omega)
      refine ⟨j, Evl.succ ?_, ?_⟩
      · simp only [frisketref06_to.l0]
        refine Evl.pos (by rw [size_mkB]; omega) (Evl.pos (by omega) (Evl.neg (by rw [bt_drop h]; exact fun e => hx ((b_eq (n := 10) (by decide)).1 e)) ?_))
        rw [wn (by omega)]
        exact hj
      · rw [hd, List.contains_cons]
        have : ((10 : UInt8) == x) = false := beq_eq_false_iff_ne.2 fun e => hx e.symm
        rw [this, Bool.false_or]
theorem cmp_l1 (L M : List (List UInt8)) (x : List UInt8) (hl : M.length = L.length) (hb : L.length < 1000000000) (hx : x.length < 1000000000000) : ∀ (d i : Nat), i + d = M.length →
    Evl (fun k => frisketref06_Write.l1 k (strs L) (mkB x) (strs M) (i : Int)) (if M.drop i == L.drop i then (if x.length > 2000 then (mkB [], 1) else (mkB x, 0)) else (mkB [], 4))
  | 0, i, h => by
    refine Evl.succ ?_
    simp only [frisketref06_Write.l1]
    refine Evl.neg (by rw [strs_len]; omega) ?_
    rw [List.drop_eq_nil_of_le (by omega), List.drop_eq_nil_of_le (by omega), size_mkB]
    have e : (([] : List (List UInt8)) == []) = true := rfl
    rw [e, if_pos rfl]
    by_cases h4 : x.length > 2000
    · rw [if_pos h4]; exact Evl.pos (by omega) (Evl.some _)
    · rw [if_neg h4]; exact Evl.neg (by omega) (Evl.some _)
  | d + 1, i, h => by
    have hi : i < M.length := by omega
    have hj : i < L.length := by omega
    refine Evl.succ ?_
    simp only [frisketref06_Write.l1]
    refine Evl.pos (by rw [strs_len]; omega) (Evl.pos (by omega) (Evl.pos (by rw [strs_len]; omega) ?_))
    rw [strs_at M i hi, strs_at L i hj, toList_mkB, toList_mkB, List.drop_eq_getElem_cons hi, List.drop_eq_getElem_cons hj]
    by_cases e : M[i]'hi = L[i]'hj
    · refine Evl.pos e ?_
      rw [wn (by omega)]
      have := cmp_l1 L M x hl hb hx d (i + 1) (by omega)
      have e2 : ((M[i]'hi :: M.drop (i + 1)) == (L[i]'hj :: L.drop (i + 1))) = (M.drop (i + 1) == L.drop (i + 1)) := by
        rw [List.cons_beq_cons, e, beq_self_eq_true, Bool.true_and]
      rw [e2]
      exact this
    · refine Evl.neg e ?_
      have e2 : ((M[i]'hi :: M.drop (i + 1)) == (L[i]'hj :: L.drop (i + 1))) = false := by
        rw [List.cons_beq_cons, beq_eq_false_iff_ne.2 e, Bool.false_and]
      rw [e2]
      exact Evl.some _
theorem drop_nb (n : List UInt8) : (n.dropWhile nb = []) ↔ n.any bl = false := by
  induction n with
  | nil => simp
  | cons x t ih =>
    rw [List.dropWhile_cons, List.any_cons]
    have en : nb x = !bl x := rfl
    cases hb : bl x
    · rw [en, hb]; simpa using ih
    · rw [en, hb]; simp
theorem Write_ref_l0 (n : List UInt8) (L : List (List UInt8)) (m : Nat) (hn : n.length < 100000000) (hm : ∀ a ∈ L, a.length ≤ m) (hL : L.length ≤ 40) (hmb : m ≤ 20000) :
    ∀ (d i : Nat), i + d = L.length → Evl (fun k => frisketref06_Write.l0 k (mkB n) (strs L) (mkB (args (L.take i))) (i : Int)) (line n L)
  | 0, i, h => by
    have hb := args_bound L m hm hL hmb
    refine Evl.succ ?_
    simp only [frisketref06_Write.l0]
    rw [strs_len, List.take_of_length_le (by omega), show (⟨#[46]⟩ : ByteArray) = mkB [46] from rfl, append_mkB, append_mkB]
    refine Evl.neg (by omega) (Evl.pos (by rw [size_mkB]; omega) (Evl.pos (by rw [size_mkB, size_mkB]; simp only [List.length_append, List.length_cons, List.length_nil]; omega) ?_))
    have bad : Evl (fun k => frisketref06_Write.j1 k (strs L) (mkB (args L)) (mkB ([46] ++ n ++ args L)) true) (mkB [], 4) := by
      refine Evl.succ ?_
      simp only [frisketref06_Write.j1]
      exact Evl.pos trivial (Evl.some _)
    cases hne : n.isEmpty
    · have hn0 : n ≠ [] := fun e => by rw [e] at hne; cases hne
      refine Evl.neg (by rw [toList_mkB]; exact hn0) ?_
      obtain ⟨j, hj, hd, _, hjl, _⟩ := word_ref n hn n 0 rfl (by omega)
      refine Evl.bind hj ?_
      have hdl : (n.dropWhile nb).length + j = n.length := by
        have := congrArg List.length hd
        rw [List.length_drop] at this
        show (n.dropWhile fun b => !bl b).length + j = n.length
        omega
      cases h1 : n.any bl
      · have h0 := (drop_nb n).2 h1
        rw [h0] at hdl
        refine Evl.pos (by rw [size_mkB]; simp at hdl; omega) ?_
        obtain ⟨q, hq, hqc⟩ := to_l0 ([46] ++ n ++ args L) (by simp only [List.length_append, List.length_cons, List.length_nil]; omega) _ 0 rfl (by omega)
        refine Evl.bind hq ?_
        rw [hqc]
        have ec : ([46] ++ n ++ args L).contains 10 = (n.contains 10 || (args L).contains 10) := by
          rw [List.append_assoc, List.singleton_append, List.contains_cons]
          have e46 : ((10 : UInt8) == 46) = false := rfl
          rw [e46, Bool.false_or]
          rw [Bool.eq_iff_iff]
          simp only [List.contains_iff_mem, List.mem_append, Bool.or_eq_true]
        have ec' : (List.drop 0 ([46] ++ n ++ args L)).contains 10 = (n.contains 10 || (args L).contains 10) := ec
        rw [ec']
        cases h2 : (n.contains 10 || (args L).contains 10)
        · obtain ⟨h3, h4⟩ := Bool.or_eq_false_iff.1 h2
          refine Evl.succ ?_
          simp only [frisketref06_Write.j1]
          refine Evl.neg (by decide) (Evl.bind (Words_ref (args L) (by omega)) ?_)
          have e1 : line n L = if (wds (args L).length ((args L).dropWhile bl) == L) then (if ([46] ++ n ++ args L).length > 2000 then (mkB [], 1) else (mkB ([46] ++ n ++ args L), 0)) else (mkB [], 4) := by
            unfold line
            rw [hne, h1, h3, h4]
            simp only [Bool.false_or]
            cases (wds (args L).length ((args L).dropWhile bl) == L)
            · rfl
            · simp only [Bool.not_true, Bool.false_eq_true, if_false, if_true, List.length_append, List.length_cons, List.length_nil]
              by_cases hbig : 1 + n.length + (args L).length > 2000
              · rw [if_pos hbig, if_pos (by omega)]
              · rw [if_neg hbig, if_neg (by omega)]; rfl
          rw [e1]
          have hwl := wds_len (args L).length ((args L).dropWhile bl)
          generalize wds (args L).length ((args L).dropWhile bl) = M at hwl ⊢
          by_cases hl : M.length = L.length
          · refine Evl.pos (by rw [List.length_map, strs_len]; omega) ?_
            have := cmp_l1 L M ([46] ++ n ++ args L) hl (by omega) (by simp only [List.length_append, List.length_cons, List.length_nil]; omega) M.length 0 (by omega)
            exact this
          · refine Evl.neg (by rw [List.length_map, strs_len]; omega) ?_
            have e : (M == L) = false := beq_eq_false_iff_ne.2 fun h => hl (by rw [h])
            rw [e]
            exact Evl.some _
        · have e1 : line n L = (mkB [], 4) := by
            unfold line
            rw [hne, h1]
            rcases Bool.or_eq_true_iff.1 h2 with h3 | h3
            · simp only [h3, Bool.or_true, Bool.true_or, Bool.false_or, if_true]
            · simp only [h3, Bool.or_true, Bool.true_or, Bool.false_or, if_true]
          rw [e1]
          exact bad
      · have h0 : n.dropWhile nb ≠ [] := fun e => by rw [(drop_nb n).1 e] at h1; cases h1
        have : 0 < (n.dropWhile nb).length := List.length_pos_iff.2 h0
        have e1 : line n L = (mkB [], 4) := by
          unfold line
          rw [hne, h1]
          simp only [Bool.or_true, Bool.true_or, Bool.false_or, if_true]
        rw [e1]
        exact Evl.neg (by rw [size_mkB]; omega) bad
    · have hn0 : n = [] := List.isEmpty_iff.1 hne
      have e1 : line n L = (mkB [], 4) := by
        unfold line
        simp only [hne, Bool.true_or, if_true]
      rw [e1]
      exact Evl.pos (by rw [toList_mkB]; exact hn0) bad
  | d + 1, i, h => by
    have hi : i < L.length := by omega
    have hlen := args_len m (L.take i) fun a ha => hm a (List.mem_of_mem_take ha)
    have hti : (L.take i).length ≤ 40 := by rw [List.length_take]; omega
    have hmul : (L.take i).length * (2 * m + 3) ≤ 40 * (2 * 20000 + 3) := Nat.mul_le_mul hti (by omega)
    have ha := hm _ (List.getElem_mem hi)
    have hsl := shown_len (L[i]'hi)
    refine Evl.succ ?_
    simp only [frisketref06_Write.l0]
    refine Evl.pos (by rw [strs_len]; omega) (Evl.pos (by rw [size_mkB]; omega) (Evl.pos (by omega) ?_))
    rw [strs_at L i hi]
    refine Evl.bind (quoted_f _ (by omega)) ?_
    rw [show (⟨#[32]⟩ : ByteArray) = mkB [32] from rfl, append_mkB, append_mkB, size_mkB, size_mkB, wn (by omega)]
    refine Evl.pos (by simp only [List.length_append, List.length_cons, List.length_nil]; omega) ?_
    have := Write_ref_l0 n L m hn hm hL hmb d (i + 1) (by omega)
    have e : args (L.take (i + 1)) = args (L.take i) ++ [32] ++ shown (L[i]'hi) := by
      unfold args
      rw [List.take_succ_eq_append_getElem hi, List.flatMap_append]
      simp
    rw [e] at this
    exact this
theorem Write_ref (n : List UInt8) (L : List (List UInt8)) (m : Nat) (hn : n.length < 100000000) (hm : ∀ a ∈ L, a.length ≤ m) (hL : L.length ≤ 40) (hmb : m ≤ 20000) : Evl (fun k => frisketref06_Write.f k (mkB n) (strs L)) (line n L) := by
  unfold frisketref06_Write.f
  exact Write_ref_l0 n L m hn hm hL hmb L.length 0 (by omega)
def fin (s : Int) (l : List ByteArray) : Int := l.foldl (fun s x => wrap64 (s + (x.size : Int))) s
theorem fin_exact : ∀ (l : List ByteArray) (s : Int), (∀ x ∈ l, x.size ≤ 140737488351232) → 0 ≤ s → s + (l.length : Int) * 140737488351232 ≤ 9000000000000000000 → s ≤ fin s l ∧ ∀ x ∈ l, (x.size : Int) ≤ fin s l
  | [], s, _, h0, _ => ⟨Int.le_refl _, fun x hx => by cases hx⟩
  | a :: l, s, h, h0, hb => by
    have ha := h a (List.mem_cons_self ..)
    simp only [List.length_cons] at hb
    have e : wrap64 (s + (a.size : Int)) = s + (a.size : Int) := w64 (by omega) (by omega)
    obtain ⟨h1, h2⟩ := fin_exact l (s + (a.size : Int)) (fun x hx => h x (List.mem_cons_of_mem _ hx)) (by omega) (by omega)
    have ef : fin s (a :: l) = fin (s + (a.size : Int)) l := by unfold fin; rw [List.foldl_cons, e]
    rw [ef]
    refine ⟨by omega, fun x hx => ?_⟩
    rcases List.mem_cons.1 hx with rfl | hx
    · omega
    · exact h2 x hx
theorem strs_of (l : List ByteArray) : l = strs (l.map fun s => s.data.toList) := by
  unfold strs
  rw [List.map_map]
  conv => lhs; rw [← List.map_id l]
  exact List.map_congr_left fun s _ => mkB_data s
end Go.Proofs.YtpeimnipoohaaaaDoor.P06
