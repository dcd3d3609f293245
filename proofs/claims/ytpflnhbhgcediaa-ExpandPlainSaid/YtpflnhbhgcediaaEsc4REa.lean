/- The document's names, escapes and widths: the same. -/
import Derived.Test.YtpflnhbhgcediaaEsc4Ea
namespace Go.Proofs.Ytpflnhbhgcediaa.Esc4
open Go.RowKit Go.Proofs.Ytpflnhbhgcediaa.QEa Go.Proofs.YtpflnhbhgcediaaW.PrintWords Go.Proofs.YtpflnhbhgcediaaW.PrintLast Go.Proofs.YtpflnhbhgcediaaW.PrintMore Go.Proofs.YtpflnhbhgcediaaN Go.Proofs.Ytpflnhbhgcediaa.Evl Go.Proofs.Ytpflnhbhgcediaa.Str
set_option linter.unusedVariables false
theorem one_f (c : UInt8) : frisketref04_one.f (c.toNat : Int) = some (ok1 c) := plain_f c
def bad4 : ByteArray × Int := (⟨#[]⟩, -1)
/-- What the document's name says from a place on. -/
def RN (r : List UInt8) (i : Nat) : ByteArray × Int := if (nm r).2 = 0 then bad4 else (mkB (nm r).1, ((i + (nm r).2 : Nat) : Int))
section
variable (s : List UInt8) (hs : s.length < 1000000000) (i : Nat)
theorem j3_bad (e : Int) : Evl (fun k => frisketref04_name.j3 k (mkB s) (i : Int) e true) bad4 := by
  refine Evl.succ ?_
  simp only [frisketref04_name.j3]
  exact Evl.pos trivial (Evl.some _)
def brk (pre rest : List UInt8) (i : Nat) : ByteArray × Int := match cutB 93 rest with | some p => if (okN p.1 && decide (1 ≤ pre.length + p.1.length ∧ pre.length + p.1.length ≤ 20)) = true then (mkB (pre ++ p.1), ((i + 1 + pre.length + p.1.length + 1 : Nat) : Int)) else bad4 | none => bad4
include hs in
theorem name_l : ∀ (rest pre : List UInt8), s.drop (i + 1) = pre ++ rest → i < s.length → Evl (fun k => frisketref04_name.l0 k (mkB s) (i : Int) ((i + 1 + pre.length : Nat) : Int)) (brk pre rest i)
  | [], pre, h, hi => by
    have hl := congrArg List.length h
    rw [List.length_drop, List.append_nil] at hl
    refine Evl.succ ?_
    simp only [frisketref04_name.l0, size_mkB]
    refine Evl.neg (by omega) (Evl.succ ?_)
    simp only [frisketref04_name.j2, size_mkB]
    exact Evl.pos (by omega) (j3_bad s i _)
  | c :: t, pre, h, hi => by
    have hl := congrArg List.length h
    rw [List.length_drop, List.length_append, List.length_cons] at hl
    have hd : s.drop (i + 1 + pre.length) = c :: t := by rw [← List.drop_drop, h, List.drop_left]
    have hb : bt (mkB s) ((i + 1 + pre.length : Nat) : Int) = (c.toNat : Int) := bt_drop hd
    have b93 : ((c.toNat : Int) = 93) ↔ c = 93 := b_eq (n := 93) (by decide)
    have j2n : c ≠ 93 → Evl (fun k => frisketref04_name.j2 k (mkB s) (i : Int) ((i + 1 + pre.length : Nat) : Int)) bad4 := by
      intro h93
      refine Evl.succ ?_
      simp only [frisketref04_name.j2, size_mkB, hb]
      exact Evl.neg (by omega) (Evl.pos (by omega) (Evl.pos (by omega) (Evl.neg (fun e => h93 (b93.1 e)) (j3_bad s i _))))
    refine Evl.succ ?_
    simp only [frisketref04_name.l0, size_mkB, hb, one_f, Option.bind_some]
    rw [wn (by omega)]
    refine Evl.pos (by omega) (Evl.pos (by omega) (Evl.ite (fun ho => Evl.ite (fun h93 => ?_) (fun h93 => ?_)) (fun ho => ?_)))
    · have hc := b93.1 h93
      subst hc
      have e1 : brk pre (93 :: t) i = if 1 ≤ pre.length ∧ pre.length ≤ 20 then (mkB pre, ((i + 1 + pre.length + 1 : Nat) : Int)) else bad4 := by
        unfold brk
        rw [cutB, if_pos rfl]
        show (if (okN [] && decide (1 ≤ pre.length + 0 ∧ pre.length + 0 ≤ 20)) = true then (mkB (pre ++ []), ((i + 1 + pre.length + 0 + 1 : Nat) : Int)) else bad4) = _
        rw [show okN [] = true from rfl, Bool.true_and, List.append_nil, Nat.add_zero]
        by_cases c : 1 ≤ pre.length ∧ pre.length ≤ 20
        · rw [if_pos c, if_pos (decide_eq_true c)]
        · rw [if_neg c, if_neg (fun e => c (of_decide_eq_true e))]
      rw [e1]
      refine Evl.succ ?_
      simp only [frisketref04_name.j2, size_mkB, hb]
      rw [wn (by omega), w64 (x := ((i + 1 + pre.length : Nat) : Int) - (i : Int)) (by omega) (by omega), w64 (by omega) (by omega)]
      refine Evl.neg (by omega) (Evl.pos (by omega) (Evl.pos (by omega) (Evl.pos (by decide) (Evl.ite (fun c => ?_) (fun c => ?_)))))
      · rw [if_neg (by omega)]
        exact j3_bad s i _
      · by_cases c2 : pre.length ≤ 20
        · rw [decide_eq_false (by omega), if_pos (by omega)]
          refine Evl.succ ?_
          simp only [frisketref04_name.j3, size_mkB]
          rw [wn (by omega), wn (by omega)]
          have ex : (mkB s).extract (((i + 1 : Nat) : Int)).toNat (((i + 1 + pre.length : Nat) : Int)).toNat = mkB pre := by
            rw [Int.toNat_natCast, Int.toNat_natCast]
            exact ext_drop h
          rw [ex]
          exact Evl.neg (by simp) (Evl.pos (by omega) (Evl.pos (by omega) (Evl.pos (by omega) (Evl.some _))))
        · rw [decide_eq_true (by omega), if_neg (by omega)]
          exact j3_bad s i _
    · have hc : c ≠ 93 := fun e => h93 (b93.2 e)
      have e1 : brk pre (c :: t) i = brk (pre ++ [c]) t i := by
        unfold brk
        rw [cutB, if_neg hc]
        cases cutB 93 t with
        | none => rfl
        | some p =>
          show (if (okN (c :: p.1) && decide (1 ≤ pre.length + (p.1.length + 1) ∧ pre.length + (p.1.length + 1) ≤ 20)) = true then (mkB (pre ++ c :: p.1), ((i + 1 + pre.length + (p.1.length + 1) + 1 : Nat) : Int)) else bad4) = (if (okN p.1 && decide (1 ≤ (pre ++ [c]).length + p.1.length ∧ (pre ++ [c]).length + p.1.length ≤ 20)) = true then (mkB (pre ++ [c] ++ p.1), ((i + 1 + (pre ++ [c]).length + p.1.length + 1 : Nat) : Int)) else bad4)
          have e2 : okN (c :: p.1) = okN p.1 := by
            show (ok1 c && okN p.1) = _
            rw [ho, Bool.true_and]
          rw [e2, List.length_append, List.length_singleton, List.append_assoc, show pre.length + (p.1.length + 1) = pre.length + 1 + p.1.length by omega, show i + 1 + pre.length + (p.1.length + 1) + 1 = i + 1 + (pre.length + 1) + p.1.length + 1 by omega]
          rfl
      rw [e1]
      have ih := name_l t (pre ++ [c]) (by rw [List.append_assoc]; exact h) hi
      rw [List.length_append, List.length_singleton] at ih
      exact ih
    · have hc : c ≠ 93 := by rintro rfl; exact ho (by decide)
      have e1 : brk pre (c :: t) i = bad4 := by
        unfold brk
        rw [cutB, if_neg hc]
        cases cutB 93 t with
        | none => rfl
        | some p =>
          show (if (okN (c :: p.1) && _) = true then _ else bad4) = bad4
          rw [if_neg]
          show ¬ ((ok1 c && okN p.1) && _) = true
          rw [Bool.eq_false_iff.2 ho, Bool.false_and, Bool.false_and]
          simp
      rw [e1]
      exact j2n hc
include hs in
theorem rname_ev (hi : i ≤ s.length) : Evl (fun k => frisketref04_name.f k (mkB s) (i : Int)) (RN (s.drop i) i) := by
  simp only [frisketref04_name.f, size_mkB]
  cases hd : s.drop i with
  | nil =>
    have : s.length ≤ i := by
      have := congrArg List.length hd
      rw [List.length_drop, List.length_nil] at this
      omega
    exact Evl.pos (by omega) (Evl.some _)
  | cons c r =>
    obtain ⟨hl, hd1, _⟩ := drop_cons hd
    have hll := congrArg List.length hd
    rw [List.length_drop, List.length_cons] at hll
    have hb := bt_drop hd
    rw [hb]
    have b40 : ((c.toNat : Int) = 40) ↔ c = 40 := b_eq (n := 40) (by decide)
    have b91 : ((c.toNat : Int) = 91) ↔ c = 91 := b_eq (n := 91) (by decide)
    have b43 : ((c.toNat : Int) = 43) ↔ c = 43 := b_eq (n := 43) (by decide)
    have b45 : ((c.toNat : Int) = 45) ↔ c = 45 := b_eq (n := 45) (by decide)
    have j0f : Evl (fun k => frisketref04_name.j0 k (mkB s) (i : Int) false) bad4 := by
      refine Evl.succ ?_
      simp only [frisketref04_name.j0]
      exact Evl.neg (by simp) (Evl.some _)
    have j4t : Evl (fun k => frisketref04_name.j4 k (mkB s) (i : Int) true) bad4 := by
      refine Evl.succ ?_
      simp only [frisketref04_name.j4]
      exact Evl.pos trivial (Evl.some _)
    rw [w64 (x := (i : Int) + 2) (by omega) (by omega), wn (by omega)]
    refine Evl.neg (by omega) (Evl.pos (by omega) (Evl.pos (by omega) (Evl.ite (fun h40 => ?_) (fun h40 => Evl.ite (fun h91 => ?_) (fun h91 => Evl.ite (fun h43 => ?_) (fun h43 => ?_))))))
    · have hc := b40.1 h40
      subst hc
      match r, hd, hd1, hll with
      | [], _, _, hll => exact Evl.neg (by simp at hll; omega) j0f
      | [a], _, _, hll => exact Evl.neg (by simp at hll; omega) j0f
      | a :: b :: t, hd, hd1, hll =>
        simp only [List.length_cons] at hll
        obtain ⟨_, hd2, _⟩ := drop_cons hd1
        have e1 : bt (mkB s) ((i + 1 : Nat) : Int) = (a.toNat : Int) := bt_drop hd1
        have e2 : bt (mkB s) ((i + 1 + 1 : Nat) : Int) = (b.toNat : Int) := bt_drop hd2
        rw [show (i : Int) + 2 = ((i + 1 + 1 : Nat) : Int) by omega, e1, e2]
        simp only [one_f, Option.bind_some]
        unfold RN
        rw [nm_two]
        have j0t : Evl (fun k => frisketref04_name.j0 k (mkB s) (i : Int) true) (mkB [a, b], ((i + 3 : Nat) : Int)) := by
          refine Evl.succ ?_
          simp only [frisketref04_name.j0, size_mkB]
          rw [wn (by omega), w64 (x := (i : Int) + 3) (by omega) (by omega)]
          have ex : (mkB s).extract (((i + 1 : Nat) : Int)).toNat ((i : Int) + 3).toNat = mkB [a, b] := by
            rw [Int.toNat_natCast, show ((i : Int) + 3).toNat = i + 1 + [a, b].length by simp; omega]
            exact ext_drop (t := t) hd1
          rw [ex]
          exact Evl.pos trivial (Evl.pos (by omega) (Evl.pos (by omega) (Evl.pos (by omega) (Evl.some _))))
        refine Evl.pos (by omega) (Evl.pos (by omega) (Evl.pos (by omega) ?_))
        cases ok1 a <;> cases ok1 b
        · exact Evl.neg (by simp) j0f
        · exact Evl.neg (by simp) j0f
        · exact Evl.pos rfl (Evl.pos (by omega) j0f)
        · exact Evl.pos rfl (Evl.pos (by omega) j0t)
    · have hc := b91.1 h91
      subst hc
      have h := name_l s hs i r [] hd1 hl
      have e1 : RN (91 :: r) i = brk [] r i := by
        unfold RN brk
        rw [nm_brk]
        cases cutB 93 r with
        | none => rfl
        | some p =>
          show (if (if (okN p.1 && decide (1 ≤ p.1.length ∧ p.1.length ≤ 20)) = true then (p.1, p.1.length + 2) else ([], 0)).2 = 0 then bad4 else (mkB (if (okN p.1 && decide (1 ≤ p.1.length ∧ p.1.length ≤ 20)) = true then (p.1, p.1.length + 2) else ([], 0)).1, ((i + (if (okN p.1 && decide (1 ≤ p.1.length ∧ p.1.length ≤ 20)) = true then (p.1, p.1.length + 2) else ([], 0)).2 : Nat) : Int))) = (if (okN p.1 && decide (1 ≤ 0 + p.1.length ∧ 0 + p.1.length ≤ 20)) = true then (mkB ([] ++ p.1), ((i + 1 + 0 + p.1.length + 1 : Nat) : Int)) else bad4)
          rw [Nat.zero_add, List.nil_append]
          by_cases c : (okN p.1 && decide (1 ≤ p.1.length ∧ p.1.length ≤ 20)) = true
          · rw [if_pos c, if_pos c, if_neg (by show ¬ p.1.length + 2 = 0; omega)]
            show (mkB p.1, ((i + (p.1.length + 2) : Nat) : Int)) = (mkB p.1, ((i + 1 + 0 + p.1.length + 1 : Nat) : Int))
            rw [show i + (p.1.length + 2) = i + 1 + 0 + p.1.length + 1 by omega]
          · rw [if_neg c, if_neg c]; rfl
      rw [e1]
      exact h
    · have hc := b43.1 h43
      subst hc
      exact j4t
    · by_cases h45 : c = 45
      · subst h45
        exact j4t
      · have hn : ¬ ((c.toNat : Int) = 45) := fun e => h45 (b45.1 e)
        rw [show (((c.toNat : Int) == 45) : Bool) = false from beq_eq_false_iff_ne.2 hn]
        have e1 : nm (c :: r) = if ok1 c = true then ([c], 1) else ([], 0) := by
          rw [nm_one (fun e => h40 (b40.2 e)) (fun e => h91 (b91.2 e)), if_neg (fun e => e.elim (fun e => h43 (b43.2 e)) h45)]
        unfold RN
        rw [e1]
        refine Evl.succ ?_
        simp only [frisketref04_name.j4, size_mkB, hb, one_f, Option.bind_some]
        rw [wn (by omega)]
        have ex : (mkB s).extract ((i : Int)).toNat (((i + 1 : Nat) : Int)).toNat = mkB [c] := by
          rw [Int.toNat_natCast, Int.toNat_natCast]
          exact ext_drop (u := [c]) (t := r) hd
        rw [ex]
        refine Evl.neg (by simp) (Evl.pos (by omega) (Evl.pos (by omega) ?_))
        cases ok1 c
        · exact Evl.neg (by simp) (Evl.some _)
        · exact Evl.pos rfl (Evl.pos (by omega) (Evl.pos (by omega) (Evl.some _)))
end
/-! ### At and WidthAt -/
theorem says_rn (k : UInt8) (st : Int) (base : Nat) (r : List UInt8) : Says (mkE k st base (nm r)) ((k.toNat : Int), (RN r base).1, st, (RN r base).2, decide ((RN r base).2 > 0)) := by
  unfold mkE RN
  by_cases h : (nm r).2 = 0
  · rw [if_pos h, if_pos h]
    exact says_no _ _ _ _
  · rw [if_neg h, if_neg h]
    show Says _ ((k.toNat : Int), mkB (nm r).1, st, ((base + (nm r).2 : Nat) : Int), decide (((base + (nm r).2 : Nat) : Int) > 0))
    rw [decide_eq_true (by omega)]
    refine ⟨rfl, fun e he => ?_⟩
    obtain rfl := Option.some.inj he
    rfl
theorem at_ev (s : List UInt8) (hs : s.length < 1000000000) : EvG (fun k => frisketref04_At.f k (mkB s)) (Says (esc s)) := by
  have no : EvG (fun k => frisketref04_At.j0 k (mkB s) true) (Says none) := by
    refine EvG.succ ?_
    simp only [frisketref04_At.j0]
    exact EvG.pos trivial ⟨_, Evl.some _, says_no _ _ _ _⟩
  simp only [frisketref04_At.f, size_mkB]
  match s, hs, no with
  | [], _, no => exact EvG.pos (by simp) no
  | [a], _, no => exact EvG.pos (by simp) no
  | [a, b], _, no => exact EvG.pos (by simp) no
  | b :: c :: d :: r, hs, no =>
    have l0 : ¬ ((b :: c :: d :: r : List UInt8).length : Int) < 3 := by simp only [List.length_cons]; omega
    have l1 : (0 : Int) < ((b :: c :: d :: r : List UInt8).length : Int) := by omega
    have l2 : (1 : Int) < ((b :: c :: d :: r : List UInt8).length : Int) := by omega
    have l3 : (2 : Int) < ((b :: c :: d :: r : List UInt8).length : Int) := by omega
    have e1 : bt (mkB (b :: c :: d :: r)) 1 = (c.toNat : Int) := bt_mkB (b :: c :: d :: r) 1 (by simp)
    have e2 : bt (mkB (b :: c :: d :: r)) 2 = (d.toNat : Int) := bt_mkB (b :: c :: d :: r) 2 (by simp)
    have n2 : Evl (fun k => frisketref04_name.f k (mkB (b :: c :: d :: r)) 2) (RN (d :: r) 2) := rname_ev (b :: c :: d :: r) hs 2 (by simp)
    have n3 : Evl (fun k => frisketref04_name.f k (mkB (b :: c :: d :: r)) 3) (RN r 3) := rname_ev (b :: c :: d :: r) hs 3 (by simp)
    have b92 : ((b.toNat : Int) = 92) ↔ b = 92 := b_eq (n := 92) (by decide)
    have c110 : ((c.toNat : Int) = 110) ↔ c = 110 := b_eq (n := 110) (by decide)
    have c42 : ((c.toNat : Int) = 42) ↔ c = 42 := b_eq (n := 42) (by decide)
    have c36 : ((c.toNat : Int) = 36) ↔ c = 36 := b_eq (n := 36) (by decide)
    have d43 : ((d.toNat : Int) = 43) ↔ d = 43 := b_eq (n := 43) (by decide)
    have d45 : ((d.toNat : Int) = 45) ↔ d = 45 := b_eq (n := 45) (by decide)
    rw [bt_head, e1, esc]
    refine EvG.neg l0 (EvG.pos l1 (EvG.ite (fun hb => ?_) (fun hb => ?_)))
    · rw [if_pos (b92.1 hb)]
      -- the three kinds
      have two : (c.toNat : Int) ≠ 110 → (c = 42 ∨ c = 36) → EvG (fun k => frisketref04_At.j0 k (mkB (b :: c :: d :: r)) false) (Says (esc3 c d r)) := by
        intro hc h2
        unfold esc3
        rw [if_neg (fun e => hc (c110.2 e)), if_pos h2]
        refine EvG.succ ?_
        simp only [frisketref04_At.j0, size_mkB, e1]
        refine EvG.neg (by simp) (EvG.pos l2 (EvG.neg hc (EvG.succ ?_)))
        simp only [frisketref04_At.j1, size_mkB, e1]
        exact EvG.neg (by simp) (EvG.pos l2 (EvG.neg hc (EvG.bind n2 ⟨_, Evl.some _, says_rn c 0 2 (d :: r)⟩)))
      refine EvG.pos l2 (EvG.ite (fun hc => ?_) (fun hc => EvG.ite (fun h42 => two hc (Or.inl (c42.1 h42))) (fun h42 => ?_)))
      · unfold esc3
        rw [if_pos (c110.1 hc)]
        refine EvG.succ ?_
        simp only [frisketref04_At.j0, size_mkB, e1, e2]
        refine EvG.neg (by simp) (EvG.pos l2 (EvG.pos hc (EvG.pos l3 (EvG.succ ?_))))
        simp only [frisketref04_At.j1, size_mkB, e1, e2]
        by_cases h43 : d = 43
        · rw [if_pos h43, show (((d.toNat : Int) == 43) : Bool) = true from beq_iff_eq.2 (d43.2 h43)]
          exact EvG.pos rfl (EvG.bind n3 ⟨_, Evl.some _, says_rn c 1 3 r⟩)
        · rw [if_neg h43, show (((d.toNat : Int) == 43) : Bool) = false from beq_eq_false_iff_ne.2 (fun e => h43 (d43.1 e))]
          refine EvG.neg (by simp) (EvG.pos l2 (EvG.pos hc (EvG.pos l3 (EvG.ite (fun h45 => ?_) (fun h45 => ?_)))))
          · rw [if_pos (d45.1 h45)]
            exact EvG.bind n3 ⟨_, Evl.some _, says_rn c (-1) 3 r⟩
          · rw [if_neg (fun e => h45 (d45.2 e))]
            exact EvG.bind n2 ⟨_, Evl.some _, says_rn c 0 2 (d :: r)⟩
      · by_cases h36 : c = 36
        · rw [show (((c.toNat : Int) != 36) : Bool) = false from bne_eq_false_iff_eq.2 (c36.2 h36)]
          exact two hc (Or.inr h36)
        · rw [show (((c.toNat : Int) != 36) : Bool) = true from bne_iff_ne.2 (fun e => h36 (c36.1 e))]
          unfold esc3
          rw [if_neg (fun e => hc (c110.2 e)), if_neg (show ¬ (c = 42 ∨ c = 36) from fun e => e.elim (fun e => h42 (c42.2 e)) h36)]
          exact no
    · rw [if_neg (fun e => hb (b92.2 e))]
      exact no
def widR (o : Option (List UInt8 × Nat)) : ByteArray × Int := match o with | some p => (mkB p.1, (p.2 : Int)) | none => bad4
theorem wid_l (s : List UInt8) (hs : s.length < 1000000000) (d : UInt8) (h2 : bt (mkB s) 2 = (d.toNat : Int)) (hl : 3 ≤ s.length) : ∀ (rest pre : List UInt8), s.drop 3 = pre ++ rest →
    Evl (fun k => frisketref04_WidthAt.l0 k (mkB s) ((3 + pre.length : Nat) : Int)) (widR (match cutB d rest with | some p => some (pre ++ p.1, pre.length + p.1.length + 4) | none => none))
  | [], pre, h => by
    have hll := congrArg List.length h
    rw [List.length_drop, List.append_nil] at hll
    refine Evl.succ ?_
    simp only [frisketref04_WidthAt.l0, size_mkB]
    exact Evl.neg (by omega) (Evl.some _)
  | c :: t, pre, h => by
    have hll := congrArg List.length h
    rw [List.length_drop, List.length_append, List.length_cons] at hll
    have hd : s.drop (3 + pre.length) = c :: t := by rw [← List.drop_drop, h, List.drop_left]
    have hb : bt (mkB s) ((3 + pre.length : Nat) : Int) = (c.toNat : Int) := bt_drop hd
    refine Evl.succ ?_
    simp only [frisketref04_WidthAt.l0, size_mkB, hb, h2]
    rw [wn (by omega)]
    refine Evl.pos (by omega) (Evl.pos (by omega) (Evl.pos (by omega) (Evl.ite (fun e => ?_) (fun e => ?_))))
    · have hc : c = d := UInt8.toNat_inj.1 (by omega)
      rw [cutB, if_pos hc]
      have ex : (mkB s).extract 3 (((3 + pre.length : Nat) : Int)).toNat = mkB pre := by
        rw [Int.toNat_natCast]
        exact ext_drop h
      rw [ex]
      show Evl _ (mkB (pre ++ []), ((pre.length + 0 + 4 : Nat) : Int))
      rw [List.append_nil, show ((pre.length + 0 + 4 : Nat) : Int) = ((3 + pre.length + 1 : Nat) : Int) by omega]
      exact Evl.pos (by omega) (Evl.pos (by omega) (Evl.some _))
    · have hc : ¬ c = d := fun h => e (by rw [h])
      rw [cutB, if_neg hc]
      have ih := wid_l s hs d h2 hl t (pre ++ [c]) (by rw [List.append_assoc]; exact h)
      rw [List.length_append, List.length_singleton] at ih
      have e3 : (match (cutB d t).map fun p => (c :: p.1, p.2) with | some p => some (pre ++ p.1, pre.length + p.1.length + 4) | none => none) = (match cutB d t with | some p => some (pre ++ [c] ++ p.1, pre.length + 1 + p.1.length + 4) | none => none : Option (List UInt8 × Nat)) := by
        cases cutB d t with
        | none => rfl
        | some p =>
          show some (pre ++ c :: p.1, pre.length + (p.1.length + 1) + 4) = some (pre ++ [c] ++ p.1, pre.length + 1 + p.1.length + 4)
          rw [List.append_assoc, show pre.length + (p.1.length + 1) + 4 = pre.length + 1 + p.1.length + 4 by omega]
          rfl
      rw [e3]
      exact ih
theorem widthat_ev (s : List UInt8) (hs : s.length < 1000000000) : Evl (fun k => frisketref04_WidthAt.f k (mkB s)) (widR (wid s)) := by
  have no : Evl (fun k => frisketref04_WidthAt.j0 k (mkB s) true) (widR none) := by
    refine Evl.succ ?_
    simp only [frisketref04_WidthAt.j0]
    exact Evl.pos trivial (Evl.some _)
  simp only [frisketref04_WidthAt.f, size_mkB]
  match s, hs, no with
  | [], _, no => exact Evl.pos (by simp) no
  | [a], _, no => exact Evl.pos (by simp) no
  | [a, b], _, no => exact Evl.pos (by simp) no
  | [b, c, d], _, no =>
    have e : wid [b, c, d] = none := by
      rw [wid]
      split
      · rfl
      · rfl
    rw [e]
    exact Evl.pos (by simp) no
  | b :: c :: d :: e :: r, hs, no =>
    obtain ⟨q, hq⟩ : ∃ q, e :: r = q := ⟨_, rfl⟩
    have hql : 0 < q.length := by rw [← hq]; simp
    rw [hq] at hs no ⊢
    have l0 : ¬ ((b :: c :: d :: q : List UInt8).length : Int) < 4 := by simp only [List.length_cons]; omega
    have l1 : (0 : Int) < ((b :: c :: d :: q : List UInt8).length : Int) := by omega
    have l2 : (1 : Int) < ((b :: c :: d :: q : List UInt8).length : Int) := by omega
    have l3 : (2 : Int) < ((b :: c :: d :: q : List UInt8).length : Int) := by omega
    have e1 : bt (mkB (b :: c :: d :: q)) 1 = (c.toNat : Int) := bt_mkB (b :: c :: d :: q) 1 (by simp)
    have e2 : bt (mkB (b :: c :: d :: q)) 2 = (d.toNat : Int) := bt_mkB (b :: c :: d :: q) 2 (by simp)
    have b92 : ((b.toNat : Int) = 92) ↔ b = 92 := b_eq (n := 92) (by decide)
    have c119 : ((c.toNat : Int) = 119) ↔ c = 119 := b_eq (n := 119) (by decide)
    have d92 : ((d.toNat : Int) = 92) ↔ d = 92 := b_eq (n := 92) (by decide)
    rw [bt_head, e1, e2, wid]
    refine Evl.neg l0 (Evl.pos l1 (Evl.ite (fun hb => Evl.pos l2 (Evl.ite (fun hc => Evl.pos l3 ?_) (fun hc => ?_))) (fun hb => ?_)))
    · by_cases hd : d = 92
      · rw [show (((d.toNat : Int) == 92) : Bool) = true from beq_iff_eq.2 (d92.2 hd), if_neg (show ¬ (b = 92 ∧ c = 119 ∧ d ≠ 92) from fun h => h.2.2 hd)]
        exact no
      · rw [show (((d.toNat : Int) == 92) : Bool) = false from beq_eq_false_iff_ne.2 (fun e => hd (d92.1 e)), if_pos ⟨b92.1 hb, c119.1 hc, hd⟩]
        have h := wid_l (b :: c :: d :: q) hs d e2 (by simp) q [] rfl
        refine Evl.succ ?_
        simp only [frisketref04_WidthAt.j0]
        refine Evl.neg (by simp) ?_
        cases hp : cutB d q with
        | none =>
          rw [hp] at h
          exact h
        | some p =>
          rw [hp] at h
          have h' : Evl (fun k => frisketref04_WidthAt.l0 k (mkB (b :: c :: d :: q)) 3) (mkB p.1, ((0 + p.1.length + 4 : Nat) : Int)) := h
          rw [Nat.zero_add] at h'
          exact h'
    · rw [if_neg (show ¬ (b = 92 ∧ c = 119 ∧ d ≠ 92) from fun h => hc (c119.2 h.2.1))]
      exact no
    · rw [if_neg (show ¬ (b = 92 ∧ c = 119 ∧ d ≠ 92) from fun h => hb (b92.2 h.1))]
      exact no
end Go.Proofs.Ytpflnhbhgcediaa.Esc4
