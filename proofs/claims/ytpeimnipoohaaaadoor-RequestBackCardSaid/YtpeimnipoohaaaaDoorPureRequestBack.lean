/- What is written is split into the name and the arguments again. No condition. -/
import Derived.Test.YtpeimnipoohaaaaDoorWriteRw
import Derived.Test.YtpeimnipoohaaaaDoorRdRequestBack
namespace Go.Proofs.YtpeimnipoohaaaaDoor.P06
open Go.RowKit Go.Proofs.YtpeimnipoohaaaaDoorW.PrintWords Go.Proofs.YtpeimnipoohaaaaDoorW.PrintLast Go.Proofs.YtpeimnipoohaaaaDoorW.PrintMore Go.Proofs.YtpeimnipoohaaaaDoorN Go.Proofs.YtpeimnipoohaaaaDoor.Evl Go.Proofs.YtpeimnipoohaaaaDoor.Str Go.Proofs.YtpeimnipoohaaaaDoor.QRq Go.Proofs.YtpeimnipoohaaaaDoor.QRw
set_option linter.unusedVariables false
theorem wds_fuel : ∀ (n m : Nat) (s : List UInt8), s.length ≤ n → s.length ≤ m → (∀ x t, s = x :: t → bl x = false) → wds n s = wds m s
  | 0, m, s, hn, hm, hb => by
    cases s with
    | nil => cases m <;> rfl
    | cons x t => simp at hn
  | n + 1, m, [], hn, hm, hb => by cases m <;> rfl
  | n + 1, 0, x :: t, hn, hm, hb => by simp at hm
  | n + 1, m + 1, x :: t, hn, hm, hb => by
    have hw := word_len x t (hb x t rfl)
    have hd := dropW_len bl (word (x :: t)).2
    simp only [List.length_cons] at hn hm
    rw [wds, wds, wds_fuel n m _ (by omega) (by omega) (head_dropW _)]
theorem bl32 (r : List UInt8) : (32 :: r).dropWhile bl = r.dropWhile bl := by
  rw [List.dropWhile_cons]; rfl
theorem take_nb : ∀ (n r : List UInt8), n.any bl = false → (r = [] ∨ ∃ u, r = 32 :: u) → (n ++ r).takeWhile nb = n ∧ (n ++ r).dropWhile nb = r
  | [], r, _, hr => by
    rcases hr with rfl | ⟨u, rfl⟩
    · exact ⟨rfl, rfl⟩
    · exact ⟨rfl, rfl⟩
  | x :: n, r, h, hr => by
    rw [List.any_cons] at h
    obtain ⟨h1, h2⟩ := Bool.or_eq_false_iff.1 h
    obtain ⟨i1, i2⟩ := take_nb n r h2 hr
    have en : nb x = true := by unfold nb; rw [h1]; rfl
    rw [List.cons_append, List.takeWhile_cons, List.dropWhile_cons, en, if_pos rfl, if_pos rfl, i1]
    exact ⟨rfl, i2⟩
/-- Split of a written line. -/
theorem split_line (n : List UInt8) (L : List (List UInt8)) (h : (line n L).2 = 0) :
    ∃ s r, (line n L).1 = mkB s ∧ s.length ≤ 2000 ∧ r.length ≤ 2000 ∧ split s true true 46 39 = (mkB n, strs L, mkB r, false, true, 0) ∧ wds r.length (r.dropWhile bl) = L := by
  unfold line at h ⊢
  split at h
  · cases h
  · rename_i hc
    split at h
    · cases h
    · rename_i hlen
      rw [if_neg hc, if_neg hlen]
      simp only [Bool.not_eq_true, Bool.or_eq_false_iff, Bool.not_eq_false'] at hc
      obtain ⟨⟨⟨⟨hne, hb⟩, h10⟩, ha10⟩, hw⟩ := hc
      have hw' : wds (args L).length ((args L).dropWhile bl) = L := by simpa using hw
      have hform : args L = [] ∨ ∃ u, args L = 32 :: u := by
        cases L with
        | nil => exact Or.inl rfl
        | cons a L => exact Or.inr ⟨_, rfl⟩
      obtain ⟨t1, t2⟩ := take_nb n (args L) hb hform
      obtain ⟨x, m, rfl⟩ : ∃ x m, n = x :: m := by
        cases n with
        | nil => cases hne
        | cons x m => exact ⟨x, m, rfl⟩
      have hx : bl x = false := by rw [List.any_cons] at hb; exact (Bool.or_eq_false_iff.1 hb).1
      have hd : ((x :: m) ++ args L).dropWhile bl = (x :: m) ++ args L := by rw [List.cons_append, List.dropWhile_cons, hx]; rfl
      have hrest : rest ((x :: m) ++ args L) = (args L).drop 1 := by rw [rest, hd, t2]
      have hwr : wds ((args L).drop 1).length (((args L).drop 1).dropWhile bl) = L := by
        rcases hform with e | ⟨u, e⟩
        · rw [e] at hw' ⊢; exact hw'
        · rw [e, bl32] at hw'
          rw [e, List.drop_succ_cons, List.drop_zero]
          have hdl := dropW_len bl u
          rw [wds_fuel u.length (32 :: u).length _ hdl (by simp only [List.length_cons]; omega) (head_dropW _)]
          exact hw'
      have hl10 : okLine (46 :: ((x :: m) ++ args L)) = true := by
        unfold okLine
        rw [decide_eq_true (show (46 :: ((x :: m) ++ args L)).length ≤ 2000 by simp only [List.length_cons, List.length_append] at hlen ⊢; omega), Bool.true_and, Bool.not_eq_true']
        have ec : (46 :: ((x :: m) ++ args L)).contains 10 = ((x :: m).contains 10 || (args L).contains 10) := by
          rw [List.contains_cons]
          have e46 : ((10 : UInt8) == 46) = false := rfl
          rw [e46, Bool.false_or, Bool.eq_iff_iff]
          simp only [List.contains_iff_mem, List.mem_append, Bool.or_eq_true]
        rw [ec, h10, ha10]; rfl
      refine ⟨46 :: ((x :: m) ++ args L), (args L).drop 1, rfl, by simp only [List.length_cons, List.length_append] at hlen ⊢; omega, by rw [List.length_drop]; omega, ?_, hwr⟩
      unfold split
      rw [hl10]
      have e46 : ((46 : Int) == 39) = false := rfl
      rw [e46, if_pos (show (true && true && true && !false) = true from rfl), spl, if_neg (fun h => h.1 rfl), body, hrest, hwr, hd, t1]
      rfl
end Go.Proofs.YtpeimnipoohaaaaDoor.P06
namespace Go.Proofs.YtpeimnipoohaaaaDoor.PureRequestBack
open Go.RowKit Go.Proofs.YtpeimnipoohaaaaDoorR Go.Proofs.YtpeimnipoohaaaaDoorW.PrintWords Go.Proofs.YtpeimnipoohaaaaDoorW.PrintLast Go.Proofs.YtpeimnipoohaaaaDoorW.PrintMore Go.Proofs.YtpeimnipoohaaaaDoorN Go.Proofs.YtpeimnipoohaaaaDoor.Evl Go.Proofs.YtpeimnipoohaaaaDoor.Str Go.Proofs.YtpeimnipoohaaaaDoor.QRq Go.Proofs.YtpeimnipoohaaaaDoor.QRw Go.Proofs.YtpeimnipoohaaaaDoor.P06
set_option linter.unusedVariables false
theorem RequestBack (a0 : ByteArray) (l1 : List ByteArray) (g0 : R9.good a0) (g1 : R25.good l1) : ∃ k, frisketlaw06_RequestBack.f k a0 l1 = some true := by
  have h0 : a0.size ≤ 140737488351232 := g0
  have h1 : ∀ x ∈ l1, x.size ≤ 140737488351232 := g1.2.2
  have hll : l1.length * 16 ≤ 140737488351232 := g1.2.1
  clear g0 g1
  refine Evl.out (f := fun k => frisketlaw06_RequestBack.f k a0 l1) ?_
  have good : Evl (fun k => frisketlaw06_RequestBack.j1 k a0 l1 true) true := by
    refine Evl.succ ?_
    simp only [frisketlaw06_RequestBack.j1]
    exact Evl.pos trivial (Evl.bind sane_f (Evl.some _))
  have loop : Evl (fun k => if fin 0 l1 > 1500 then (frisketlaw06_RequestBack.j1 k a0 l1 true) else (frisketlaw06_RequestBack.j1 k a0 l1 (decide ((l1.length : Int) > 30)))) true →
      ∀ (d i : Nat) (s : Int), i + d = l1.length → fin s (l1.drop i) = fin 0 l1 → Evl (fun k => frisketlaw06_RequestBack.l0 k a0 l1 s (i : Int)) true := by
    intro he d
    induction d with
    | zero =>
      intro i s h hs
      rw [List.drop_eq_nil_of_le (by omega)] at hs
      refine Evl.succ ?_
      simp only [frisketlaw06_RequestBack.l0]
      refine Evl.neg (by omega) ?_
      have e : s = fin 0 l1 := hs
      rw [e]
      exact he
    | succ d ih =>
      intro i s h hs
      have hi : i < l1.length := by omega
      refine Evl.succ ?_
      simp only [frisketlaw06_RequestBack.l0]
      refine Evl.pos (by omega) (Evl.pos (by omega) ?_)
      rw [wn (by omega)]
      refine ih (i + 1) _ (by omega) ?_
      rw [← hs, List.drop_eq_getElem_cons hi]
      have e : rdOf ByteArray.empty l1 (i : Int) = l1[i]'hi := by
        unfold rdOf
        rw [List.getD_eq_getElem?_getD, Int.toNat_natCast, List.getElem?_eq_getElem hi]
        rfl
      rw [e]
      rfl
  unfold frisketlaw06_RequestBack.f
  refine loop ?_ l1.length 0 _ (by omega) (by rw [List.drop_zero])
  by_cases hbig : fin 0 l1 > 1500
  · exact Evl.pos hbig good
  refine Evl.neg hbig ?_
  by_cases h30 : (l1.length : Int) > 30
  · rw [decide_eq_true h30]; exact good
  · rw [decide_eq_false h30]
    obtain ⟨e1, e2⟩ := fin_exact l1 0 h1 (by omega) (by omega)
    have hn : a0.data.toList.length ≤ 140737488351232 := by have := Lib.size_eq a0; omega
    have hL : ∀ a ∈ l1.map (fun s => s.data.toList), a.length ≤ 1500 := fun a ha => by
      obtain ⟨x, hx, rfl⟩ := List.mem_map.1 ha
      have := e2 x hx
      have := Lib.size_eq x
      omega
    have hll2 : (l1.map fun s => s.data.toList).length ≤ 40 := by rw [List.length_map]; omega
    refine Evl.succ ?_
    simp only [frisketlaw06_RequestBack.j1]
    rw [mkB_data a0, strs_of l1]
    generalize (l1.map fun s => s.data.toList) = L at *
    generalize a0.data.toList = n at *
    refine Evl.neg (by decide) (Evl.bind (Write_prog n L 1500 hn hL hll2 (by omega)) ?_)
    by_cases hz : (line n L).2 = 0
    · refine Evl.pos hz ?_
      obtain ⟨s, r, hs1, hs2, hr, hsp, hw⟩ := split_line n L hz
      rw [hs1]
      have hp := Split_prog s 46 39 true true (by rfl) (by rfl) (by omega)
      rw [hsp] at hp
      refine Evl.bind hp (Evl.pos rfl (Evl.pos rfl (Evl.pos rfl (Evl.neg Bool.false_ne_true (Evl.bind (list_f _ (by rw [strs_len]; omega)) (Evl.pos rfl ?_))))))
      have hq := Words_f r (by omega)
      rw [hw] at hq
      exact Evl.bind hq (Evl.bind (list_f (strs L) (by rw [strs_len]; omega)) (Evl.pos rfl (Evl.bind sane_f (Evl.some _))))
    · exact Evl.neg hz (Evl.bind sane_f (Evl.some _))
end Go.Proofs.YtpeimnipoohaaaaDoor.PureRequestBack
