/- Split: what both functions tell. -/
import Derived.Test.YtpeimnipoohaaaaDoorWordsS
namespace Go.Proofs.YtpeimnipoohaaaaDoor.P06
open Go.RowKit Go.Proofs.YtpeimnipoohaaaaDoorW.PrintWords Go.Proofs.YtpeimnipoohaaaaDoorW.PrintLast Go.Proofs.YtpeimnipoohaaaaDoorW.PrintMore Go.Proofs.YtpeimnipoohaaaaDoorN Go.Proofs.YtpeimnipoohaaaaDoor.Evl Go.Proofs.YtpeimnipoohaaaaDoor.Str Go.Proofs.YtpeimnipoohaaaaDoor.QRq
set_option linter.unusedVariables false
set_option linter.unusedSimpArgs false
def nb (b : UInt8) : Bool := !bl b
theorem cb (b : UInt8) : [(32 : UInt8), 9].contains b = bl b := by
  simp only [List.contains_cons, List.contains_nil, Bool.or_false]
  rfl
theorem ia_eq : ∀ s : List UInt8, Lib.indexAny s [32, 9] = if s.dropWhile nb = [] then -1 else ((s.takeWhile nb).length : Int)
  | [] => rfl
  | x :: t => by
    rw [Lib.indexAny, cb, List.dropWhile_cons, List.takeWhile_cons, ia_eq t]
    have en : nb x = !bl x := rfl
    cases hb : bl x
    · rw [en, hb]
      simp only [Bool.not_false, if_true, Bool.false_eq_true, if_false]
      by_cases h : List.dropWhile nb t = []
      · rw [if_pos h, if_pos h]; rfl
      · rw [if_neg h, if_neg h, if_neg (fun e => by have := beq_iff_eq.1 e; omega)]
        simp only [List.length_cons]
        omega
    · rw [en, hb]
      simp
theorem cut_f (s : List UInt8) (hs : s.length < 4294967281) : request_cut.f (mkB s) = some (mkB (s.takeWhile nb), mkB (s.dropWhile nb)) := by
  unfold request_cut.f strings_IndexAny.f
  rw [if_pos ⟨by rw [size_mkB]; exact hs, by decide, by decide, by decide⟩, Option.bind_some, data_mkB]
  show (if Lib.indexAny s [32, 9] ≥ 0 then _ else _) = _
  rw [ia_eq]
  have e := List.takeWhile_append_dropWhile (p := nb) (l := s)
  by_cases h : s.dropWhile nb = []
  · rw [if_pos h, if_neg (by decide), h]
    rw [h, List.append_nil] at e
    rw [e]
    rfl
  · have hl : (s.takeWhile nb).length ≤ s.length := by have := congrArg List.length e; rw [List.length_append] at this; omega
    rw [if_neg h, if_pos (by omega), if_pos (by omega), if_pos (by rw [size_mkB]; omega)]
    simp only [Int.toNat_natCast]
    rw [extract_mkB, extract_mkB, size_mkB, List.take_length, List.drop_zero]
    have e1 : s.take (s.takeWhile nb).length = s.takeWhile nb := by
      conv => lhs; rhs; rw [← e]
      rw [List.take_left]
    have e2 : s.drop (s.takeWhile nb).length = s.dropWhile nb := by
      conv => lhs; rhs; rw [← e]
      rw [List.drop_left]
    rw [e1, e2]
def okLine (s : List UInt8) : Bool := decide (s.length ≤ 2000) && !s.contains 10
theorem contains10 (s : List UInt8) : strings_Contains.f (mkB s) (⟨#[10]⟩ : ByteArray) = some (s.contains 10) := by
  unfold strings_Contains.f
  show some (decide (0 ≤ Lib.indexByte (mkB s).data.toList 10)) = _
  rw [data_mkB, Lib.contains_iff_indexByte]
theorem fits_f (s : List UInt8) : request_fits.f (mkB s) = some (okLine s) := by
  unfold request_fits.f okLine
  rw [contains10, size_mkB]
  by_cases h : s.length ≤ 2000
  · rw [if_pos (by omega), decide_eq_true h]; simp
  · rw [if_neg (by omega), decide_eq_false h]; simp
theorem line_l0 (s : List UInt8) (hs : s.length < 100000000) : ∀ (r : List UInt8) (i : Nat), s.drop i = r → i ≤ s.length →
    Evl (fun k => frisketref06_IsLine.l0 k (mkB s) (i : Int)) (decide (s.length ≤ 2000) && !r.contains 10)
  | [], i, h, hi => by
    have hl := drop_len h hi
    refine Evl.succ ?_
    simp only [frisketref06_IsLine.l0]
    refine Evl.neg (by rw [size_mkB]; simp at hl; omega) ?_
    rw [size_mkB]
    have e : decide ((s.length : Int) ≤ 2000) = (decide (s.length ≤ 2000) && !([] : List UInt8).contains 10) := by
      simp only [List.contains_nil, Bool.not_false, Bool.and_true]
      exact dec_of (by omega)
    rw [e]
    exact Evl.some _
  | x :: t, i, h, hi => by
    obtain ⟨h1, h2, h3⟩ := drop_cons h
    refine Evl.succ ?_
    simp only [frisketref06_IsLine.l0]
    refine Evl.pos (by rw [size_mkB]; omega) (Evl.pos (by omega) ?_)
    rw [bt_drop h]
    by_cases hx : x = 10
    · subst hx
      refine Evl.pos rfl ?_
      simp only [List.contains_cons, beq_self_eq_true, Bool.true_or, Bool.not_true, Bool.and_false]
      exact Evl.some _
    · refine Evl.neg (fun e => hx ((b_eq (n := 10) (by decide)).1 e)) ?_
      rw [wn (by omega)]
      have := line_l0 s hs t (i + 1) h2 (by omega)
      have e : (x :: t).contains 10 = t.contains 10 := by
        rw [List.contains_cons]
        have : ((10 : UInt8) == x) = false := beq_eq_false_iff_ne.2 fun e => hx e.symm
        rw [this, Bool.false_or]
      rw [e]
      exact this
theorem line_f (s : List UInt8) (hs : s.length < 100000000) : Evl (fun k => frisketref06_IsLine.f k (mkB s)) (okLine s) := by
  unfold frisketref06_IsLine.f
  exact line_l0 s hs s 0 rfl (by omega)
abbrev Out := ByteArray × List ByteArray × ByteArray × Bool × Bool × Int
def rest (t : List UInt8) : List UInt8 := ((t.dropWhile bl).dropWhile nb).drop 1
/-- What stands behind the control byte, read. -/
def body (x : UInt8) (t : List UInt8) (q : Int) : Out := (mkB ((t.dropWhile bl).takeWhile nb), (wds (rest t).length ((rest t).dropWhile bl)).map mkB, mkB (rest t), ((x.toNat : Int) == q), true, 0)
def spl (c q : Int) : List UInt8 → Out
  | [] => (mkB [], [], mkB [], false, false, 0)
  | x :: t => if (x.toNat : Int) ≠ c ∧ (x.toNat : Int) ≠ q then (mkB [], [], mkB [], false, false, 0) else body x t q
def split (s : List UInt8) (okc okq : Bool) (c q : Int) : Out :=
  if okLine s && okc && okq && !(c == q) then spl c q s else (mkB [], [], mkB [], false, false, 1)
theorem j1_prog (x : UInt8) (t : List UInt8) (hs : t.length < 1000000) (q : Int) : Evl (fun k => request_Split.j1 k (mkB (x :: t)) q false) (body x t q) := by
  have h1 := dropW_len bl t
  have h2 := dropW_len nb (t.dropWhile bl)
  refine Evl.succ ?_
  simp only [request_Split.j1]
  refine Evl.neg (by decide) (Evl.pos (by rw [size_mkB]; simp only [List.length_cons]; omega) (Evl.pos (by rw [size_mkB]; simp only [List.length_cons]; omega) ?_))
  rw [tail_mkB, bt_head]
  refine Evl.bind (Evl.of_eq (Evl.some _) fun _ => trim_eq t) (Evl.bind (Evl.of_eq (Evl.some _) fun _ => cut_f _ (by omega)) ?_)
  cases hr : (t.dropWhile bl).dropWhile nb with
  | nil =>
    refine Evl.pos (by rw [toList_mkB]) ?_
    refine Evl.bind (Words_f [] (by simp)) ?_
    have e : rest t = [] := by rw [rest, hr]; rfl
    rw [body, e]
    exact Evl.some _
  | cons y u =>
    refine Evl.neg (by rw [toList_mkB]; simp) (Evl.pos (by rw [size_mkB]; simp only [List.length_cons]; omega) ?_)
    rw [tail_mkB]
    have e : rest t = u := by rw [rest, hr]; rfl
    rw [hr] at h2
    simp only [List.length_cons] at h2
    refine Evl.bind (Words_f u (by omega)) ?_
    rw [body, e]
    exact Evl.some _
theorem Split_prog (s : List UInt8) (c q : Int) (okc okq : Bool) (hc : request_controls.f c = some okc) (hq : request_controls.f q = some okq) (hs : s.length < 1000000) :
    Evl (fun k => request_Split.f k (mkB s) c q) (split s okc okq c q) := by
  have bad : Evl (fun k => request_Split.j0 k (mkB s) c q true) (mkB [], [], mkB [], false, false, 1) := by
    refine Evl.succ ?_
    simp only [request_Split.j0]
    exact Evl.pos trivial (Evl.some _)
  unfold request_Split.f
  refine Evl.bind (Evl.of_eq (Evl.some _) fun _ => fits_f s) ?_
  rw [split]
  cases h1 : okLine s
  · exact Evl.neg (by decide) bad
  refine Evl.pos rfl (Evl.bind (Evl.of_eq (Evl.some _) fun _ => hc) ?_)
  cases okc
  · exact Evl.neg (by decide) bad
  refine Evl.pos rfl (Evl.bind (Evl.of_eq (Evl.some _) fun _ => hq) ?_)
  cases okq
  · exact Evl.neg (by decide) bad
  refine Evl.pos rfl ?_
  cases h2 : c == q
  · refine Evl.succ ?_
    simp only [request_Split.j0]
    refine Evl.neg (by decide) ?_
    simp only [Bool.true_and, Bool.not_false, ↓reduceIte]
    cases s with
    | nil =>
      refine Evl.pos (by rw [toList_mkB]) (Evl.succ ?_)
      simp only [request_Split.j1]
      exact Evl.pos trivial (Evl.some _)
    | cons x t =>
      simp only [List.length_cons] at hs
      refine Evl.neg (by rw [toList_mkB]; simp) (Evl.pos (by rw [size_mkB]; simp only [List.length_cons]; omega) ?_)
      rw [bt_head, spl]
      by_cases e1 : (x.toNat : Int) = c
      · rw [if_neg (fun h => h.1 e1)]
        exact Evl.pos e1 (j1_prog x t (by omega) q)
      · refine Evl.neg e1 ?_
        by_cases e2 : (x.toNat : Int) = q
        · rw [if_neg (fun h => h.2 e2), show ((x.toNat : Int) != q) = false from bne_eq_false_iff_eq.2 e2]
          exact j1_prog x t (by omega) q
        · rw [if_pos ⟨e1, e2⟩, show ((x.toNat : Int) != q) = true from bne_iff_ne.2 e2]
          refine Evl.succ ?_
          simp only [request_Split.j1]
          exact Evl.pos trivial (Evl.some _)
  · exact bad
theorem wds_len : ∀ (n : Nat) (s : List UInt8), (wds n s).length ≤ n
  | 0, s => by simp [wds]
  | n + 1, [] => by simp [wds]
  | n + 1, x :: t => by
    have := wds_len n ((word (x :: t)).2.dropWhile bl)
    simp only [wds, List.length_cons]
    omega
theorem rest_len (t : List UInt8) : (rest t).length ≤ t.length := by
  have h1 := dropW_len bl t
  have h2 := dropW_len nb (t.dropWhile bl)
  rw [rest, List.length_drop]
  omega
theorem split_len (s : List UInt8) (okc okq : Bool) (c q : Int) : (split s okc okq c q).2.1.length ≤ s.length := by
  unfold split
  split
  · cases s with
    | nil => simp [spl]
    | cons x t =>
      simp only [spl]
      split
      · simp
      · have h1 := wds_len (rest t).length ((rest t).dropWhile bl)
        have h2 := rest_len t
        simp only [body, List.length_map, List.length_cons]
        omega
  · simp
theorem sane_f : Evl (fun k => frisketlaw06_sane.f k) true := by
  unfold frisketlaw06_sane.f
  have h := Split_prog [46, 120, 120, 32, 97, 32, 34, 98, 32, 99, 34, 32, 100, 34, 101] 46 39 true true (by rfl) (by rfl) (by decide)
  have e : split [46, 120, 120, 32, 97, 32, 34, 98, 32, 99, 34, 32, 100, 34, 101] true true 46 39 = (mkB [120, 120], [mkB [97], mkB [98, 32, 99], mkB [100, 34, 101]], mkB [97, 32, 34, 98, 32, 99, 34, 32, 100, 34, 101], false, true, 0) := by rfl
  rw [e] at h
  refine Evl.bind h ?_
  refine Evl.pos rfl (Evl.pos rfl (Evl.pos (by rw [toList_mkB]) (Evl.pos (by decide) (Evl.pos (by decide) (Evl.pos (by show (mkB [98, 32, 99]).toList = _; rw [toList_mkB]) (Evl.pos (by decide) ?_))))))
  show Evl (fun k => some ((mkB [100, 34, 101]).toList == ([100, 34, 101] : List UInt8))) true
  rw [toList_mkB]
  exact Evl.some _
/-! ### the laws -/
end Go.Proofs.YtpeimnipoohaaaaDoor.P06
