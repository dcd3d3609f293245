/- Patches of two lists of marks: what the code computes, and that the document's are the same. -/
import Derived.Test.YtgjmljjnminefaaMarksCP
namespace Go.Proofs.Ytgjmljjnminefaa.PatchesCP
open Go.RowKit Go.Proofs.Ytgjmljjnminefaa.QCP Go.Proofs.YtgjmljjnminefaaW.PrintWords Go.Proofs.YtgjmljjnminefaaW.PrintLast Go.Proofs.YtgjmljjnminefaaW.PrintMore Go.Proofs.YtgjmljjnminefaaN Go.Proofs.Ytgjmljjnminefaa.Evl Go.Proofs.Ytgjmljjnminefaa.SameCP
set_option linter.unusedVariables false
def at_ (l : List S69) (i : Nat) : S69 := l.getD i z69
theorem rd_at (l : List S69) (i : Nat) : rd_T69 l (i : Int) = at_ l i := by unfold rd_T69 at_; rw [Int.toNat_natCast]
theorem at_mem {l : List S69} {i : Nat} (h : i < l.length) : at_ l i ∈ l := by
  have := getD_mem l i z69 h
  rw [Int.toNat_natCast] at this
  exact this
theorem okC_mem {l l2 : List S69} (h : OkC l) (hs : ∀ m ∈ l2, m ∈ l) (hl : l2.length ≤ l.length) : OkC l2 := ⟨by have := h.1; omega, fun m hm => h.2 m (hs m hm)⟩
theorem okC_take {l : List S69} (h : OkC l) (n : Nat) : OkC (l.take n) := okC_mem h (fun m hm => List.mem_of_mem_take hm) (by rw [List.length_take]; omega)
theorem okC_drop {l : List S69} (h : OkC l) (n : Nat) : OkC (l.drop n) := okC_mem h (fun m hm => List.mem_of_mem_drop hm) (by rw [List.length_drop]; omega)
/-! ### the document's copy -/
theorem rown_l (l : List S69) (h0 : OkC l) : ∀ (m i : Nat), i + m = l.length → Evl (fun k => frisketref36_Own.l0 k l (i : Int)) l
  | 0, i, h => by
    refine Evl.succ ?_
    simp only [frisketref36_Own.l0]
    exact Evl.neg (by omega) (Evl.some _)
  | m + 1, i, h => by
    refine Evl.succ ?_
    simp only [frisketref36_Own.l0, Option.bind_some]
    have h8 := h0.2 _ (getD_mem l i z69 (by omega))
    refine Evl.pos (by omega) (Evl.pos (by omega) (Evl.pos (by unfold rd_T69; rw [List.length_nil]; omega) ?_))
    rw [wn (by have := h0.1; omega)]
    have e : l.set ((i : Int).toNat) (⟨(rd_T69 l i).f0, (rd_T69 l i).f1, (rd_T69 l i).f2, (rd_T69 l i).f3, (rd_T69 l i).f4, (rd_T69 l i).f5, (rd_T69 l i).f6, (rd_T69 l i).f7, ([] ++ (rd_T69 l i).f8)⟩ : S69) = l := by
      rw [List.nil_append]
      unfold rd_T69
      rw [Int.toNat_natCast]
      exact set_same l i (by omega)
    rw [e]
    exact rown_l l h0 m (i + 1) (by omega)
theorem rown_ev (l : List S69) (h0 : OkC l) : Evl (fun k => frisketref36_Own.f k l) l := by
  simp only [frisketref36_Own.f, Option.bind_some]
  refine Evl.pos (by have := h0.1; rw [List.length_nil]; omega) ?_
  exact rown_l l h0 l.length 0 (by omega)
/-! ### how far two lists are alike -/
def pre (P : Nat → Bool) : Nat → Nat → Nat
  | 0, i => i
  | m + 1, i => if P i then pre P m (i + 1) else i
theorem pre_pos {P : Nat → Bool} {m i : Nat} (h : P i = true) : pre P (m + 1) i = pre P m (i + 1) := by rw [pre, if_pos h]
theorem pre_neg {P : Nat → Bool} {m i : Nat} (h : ¬ P i = true) : pre P (m + 1) i = i := by rw [pre, if_neg h]
theorem pre_le (P : Nat → Bool) : ∀ m i, i ≤ pre P m i ∧ pre P m i ≤ i + m
  | 0, i => by simp [pre]
  | m + 1, i => by
    have := pre_le P m (i + 1)
    rw [pre]; split <;> omega
theorem pre_all (P : Nat → Bool) : ∀ m i j, i ≤ j → j < pre P m i → P j = true
  | 0, i, j, h, h2 => by rw [pre] at h2; omega
  | m + 1, i, j, h, h2 => by
    rw [pre] at h2
    split at h2
    · rename_i hp
      by_cases hij : i = j
      · rw [← hij]; exact hp
      · exact pre_all P m (i + 1) j (by omega) h2
    · omega
def ahead (a b : List S69) (i : Nat) : Bool := eqM (at_ a i) (at_ b i)
def behind (a b : List S69) (i : Nat) : Bool := eqM (at_ a (a.length - 1 - i)) (at_ b (b.length - 1 - i))
section
variable {a b : List S69} (ha : a.length < 1000000) (hb : b.length < 1000000) (ca : OkC a) (cb : OkC b)
include ha hb ca cb
omit ha hb ca cb in
theorem back_ix {n i : Nat} (hn : n < 1000000) (hi : i < n) : wrap64 (wrap64 ((n : Int) - 1) - (i : Int)) = ((n - 1 - i : Nat) : Int) := by
  rw [w64 (x := (n : Int) - 1) (by omega) (by omega), w64 (by omega) (by omega)]; omega
theorem l1_ev (s f : Nat) (hsa : s ≤ a.length) (hsb : s ≤ b.length) : ∀ (m i : Nat), f + i + m = s →
    Evl (fun k => compare_Patched.l1 k a b (s : Int) (f : Int) (i : Int)) ((f : Int), ((a.length - f - pre (behind a b) m i : Nat) : Int), (b.take (b.length - pre (behind a b) m i)).drop f) := by
  have fin : ∀ i, f + i ≤ s → Evl (fun k => (if 0 ≤ (f : Int) then (if (f : Int) ≤ (wrap64 ((b.length : Int) - (i : Int))) then (if (wrap64 ((b.length : Int) - (i : Int))) ≤ (b.length : Int) then ((compare_own.f k ((b.take ((wrap64 ((b.length : Int) - (i : Int))) : Int).toNat).drop ((f : Int) : Int).toNat)).bind fun t267 => (some ((f : Int), wrap64 ((wrap64 ((a.length : Int) - (f : Int))) - (i : Int)), t267))) else (none)) else (none)) else (none))) ((f : Int), ((a.length - f - i : Nat) : Int), (b.take (b.length - i)).drop f) := by
    intro i hi
    have e1 : wrap64 ((b.length : Int) - (i : Int)) = ((b.length - i : Nat) : Int) := by rw [w64 (by omega) (by omega)]; omega
    have e2 : wrap64 ((wrap64 ((a.length : Int) - (f : Int))) - (i : Int)) = ((a.length - f - i : Nat) : Int) := by
      rw [w64 (x := (a.length : Int) - (f : Int)) (by omega) (by omega), w64 (by omega) (by omega)]; omega
    rw [e1, e2, Int.toNat_natCast, Int.toNat_natCast]
    clear e1 e2
    refine Evl.pos (by omega) (Evl.pos (by omega) (Evl.pos (by omega) ?_))
    exact Evl.bind (own_ev _ (okC_drop (okC_take cb _) _)) (Evl.some _)
  intro m
  induction m with
  | zero =>
    intro i h
    have F := fin i (by omega)
    refine Evl.succ ?_
    simp only [compare_Patched.l1]
    rw [w64 (x := (s : Int) - (f : Int)) (by omega) (by omega)]
    exact Evl.neg (by omega) F
  | succ m ih =>
    intro i h
    have F := fin i (by omega)
    have e3 := back_ix (n := a.length) (i := i) ha (by omega)
    have e4 := back_ix (n := b.length) (i := i) hb (by omega)
    refine Evl.succ ?_
    simp only [compare_Patched.l1]
    rw [w64 (x := (s : Int) - (f : Int)) (by omega) (by omega), e3, e4, rd_at, rd_at]
    clear e3 e4
    refine Evl.pos (by omega) (Evl.pos (by omega) (Evl.pos (by omega) (Evl.pos (by omega) (Evl.pos (by omega) ?_))))
    refine Evl.bind (equal_ev (at_ a (a.length - 1 - i)) (at_ b (b.length - 1 - i)) (ca.okM.2 _ (at_mem (by omega)))) ?_
    refine Evl.ite (fun hc => ?_) (fun hc => ?_)
    · have := ih (i + 1) (by omega)
      rw [wn (by omega), pre_pos (show behind a b i = true from hc)]
      exact this
    · rw [pre_neg (show ¬ behind a b i = true from hc)]
      exact F
theorem rl1_ev (s f : Nat) (hs : s = a.length ∨ s = b.length) (hsa : s ≤ a.length) (hsb : s ≤ b.length) : ∀ (m i : Nat), f + i + m = s →
    Evl (fun k => frisketref36_Patched.l1 k a b (f : Int) (i : Int)) ((f : Int), ((a.length - f - pre (behind a b) m i : Nat) : Int), (b.take (b.length - pre (behind a b) m i)).drop f) := by
  have fin : ∀ i, f + i ≤ s → Evl (fun k => (if 0 ≤ (f : Int) then (if (f : Int) ≤ (wrap64 ((b.length : Int) - (i : Int))) then (if (wrap64 ((b.length : Int) - (i : Int))) ≤ (b.length : Int) then ((frisketref36_Own.f k ((b.take ((wrap64 ((b.length : Int) - (i : Int))) : Int).toNat).drop ((f : Int) : Int).toNat)).bind fun t267 => (some ((f : Int), wrap64 ((wrap64 ((a.length : Int) - (f : Int))) - (i : Int)), t267))) else (none)) else (none)) else (none))) ((f : Int), ((a.length - f - i : Nat) : Int), (b.take (b.length - i)).drop f) := by
    intro i hi
    have e1 : wrap64 ((b.length : Int) - (i : Int)) = ((b.length - i : Nat) : Int) := by rw [w64 (by omega) (by omega)]; omega
    have e2 : wrap64 ((wrap64 ((a.length : Int) - (f : Int))) - (i : Int)) = ((a.length - f - i : Nat) : Int) := by
      rw [w64 (x := (a.length : Int) - (f : Int)) (by omega) (by omega), w64 (by omega) (by omega)]; omega
    rw [e1, e2, Int.toNat_natCast, Int.toNat_natCast]
    clear e1 e2
    refine Evl.pos (by omega) (Evl.pos (by omega) (Evl.pos (by omega) ?_))
    exact Evl.bind (rown_ev _ (okC_drop (okC_take cb _) _)) (Evl.some _)
  intro m
  induction m with
  | zero =>
    intro i h
    have F := fin i (by omega)
    refine Evl.succ ?_
    simp only [frisketref36_Patched.l1]
    rw [w64 (x := (a.length : Int) - (f : Int)) (by omega) (by omega), w64 (x := (b.length : Int) - (f : Int)) (by omega) (by omega)]
    refine Evl.ite (fun h1 => Evl.neg (by omega) ?_) (fun h1 => ?_)
    · rw [w64 (x := (a.length : Int) - (f : Int)) (by omega) (by omega)] at F
      exact F
    · rw [w64 (x := (a.length : Int) - (f : Int)) (by omega) (by omega)] at F
      exact F
  | succ m ih =>
    intro i h
    have F := fin i (by omega)
    have e3 := back_ix (n := a.length) (i := i) ha (by omega)
    have e4 := back_ix (n := b.length) (i := i) hb (by omega)
    refine Evl.succ ?_
    simp only [frisketref36_Patched.l1]
    rw [e3, e4, rd_at, rd_at]
    clear e3 e4
    refine Evl.pos (by rw [w64 (by omega) (by omega)]; omega) (Evl.pos (by rw [w64 (by omega) (by omega)]; omega) ?_)
    refine Evl.pos (by omega) (Evl.pos (by omega) (Evl.pos (by omega) (Evl.pos (by omega) ?_)))
    refine Evl.bind (smark_ev (at_ a (a.length - 1 - i)) (at_ b (b.length - 1 - i)) (ca.okM.2 _ (at_mem (by omega)))) ?_
    refine Evl.ite (fun hc => ?_) (fun hc => ?_)
    · have := ih (i + 1) (by omega)
      rw [wn (by omega), pre_pos (show behind a b i = true from hc)]
      exact this
    · rw [pre_neg (show ¬ behind a b i = true from hc)]
      exact F
omit hb cb in
theorem l0_ev (s : Nat) (hsa : s ≤ a.length) (hsb : s ≤ b.length) {v : Int × Int × List S69} : ∀ (m i : Nat), i + m = s →
    Evl (fun k => compare_Patched.l1 k a b (s : Int) ((pre (ahead a b) m i : Nat) : Int) 0) v →
    Evl (fun k => compare_Patched.l0 k a b (s : Int) (i : Int)) v
  | 0, i, h, hv => by
    refine Evl.succ ?_
    simp only [compare_Patched.l0]
    refine Evl.neg (by omega) (Evl.succ ?_)
    simp only [compare_Patched.j1]
    exact hv
  | m + 1, i, h, hv => by
    refine Evl.succ ?_
    simp only [compare_Patched.l0, rd_at]
    refine Evl.pos (by omega) (Evl.pos (by omega) (Evl.pos (by omega) (Evl.pos (by omega) ?_)))
    refine Evl.bind (equal_ev (at_ a i) (at_ b i) (ca.okM.2 _ (at_mem (by omega)))) ?_
    refine Evl.ite (fun hc => ?_) (fun hc => Evl.succ ?_)
    · rw [pre_pos (show ahead a b i = true from hc)] at hv
      rw [wn (by omega)]
      exact l0_ev s hsa hsb m (i + 1) (by omega) hv
    · rw [pre_neg (show ¬ ahead a b i = true from hc)] at hv
      simp only [compare_Patched.j1]
      exact hv
omit hb cb in
theorem rl0_ev (s : Nat) (hs : s = a.length ∨ s = b.length) (hsa : s ≤ a.length) (hsb : s ≤ b.length) {v : Int × Int × List S69} : ∀ (m i : Nat), i + m = s →
    Evl (fun k => frisketref36_Patched.l1 k a b ((pre (ahead a b) m i : Nat) : Int) 0) v →
    Evl (fun k => frisketref36_Patched.l0 k a b (i : Int)) v
  | 0, i, h, hv => by
    refine Evl.succ ?_
    simp only [frisketref36_Patched.l0]
    have j : Evl (fun k => frisketref36_Patched.j1 k a b (i : Int)) v := by
      refine Evl.succ ?_
      simp only [frisketref36_Patched.j1]
      exact hv
    refine Evl.ite (fun h1 => Evl.neg (by omega) j) (fun h1 => j)
  | m + 1, i, h, hv => by
    refine Evl.succ ?_
    simp only [frisketref36_Patched.l0, rd_at]
    refine Evl.pos (by omega) (Evl.pos (by omega) (Evl.pos (by omega) ?_))
    refine Evl.bind (smark_ev (at_ a i) (at_ b i) (ca.okM.2 _ (at_mem (by omega)))) ?_
    refine Evl.ite (fun hc => ?_) (fun hc => Evl.succ ?_)
    · rw [pre_pos (show ahead a b i = true from hc)] at hv
      rw [wn (by omega)]
      exact rl0_ev s hs hsa hsb m (i + 1) (by omega) hv
    · rw [pre_neg (show ¬ ahead a b i = true from hc)] at hv
      simp only [frisketref36_Patched.j1]
      exact hv
omit ha hb ca cb in
def short (a b : List S69) : Nat := if a.length < b.length then a.length else b.length
omit ha hb ca cb in
def from_ (a b : List S69) : Nat := pre (ahead a b) (short a b) 0
omit ha hb ca cb in
def end_ (a b : List S69) : Nat := pre (behind a b) (short a b - from_ a b) 0
omit ha hb ca cb in
def gone (a b : List S69) : Nat := a.length - from_ a b - end_ a b
omit ha hb ca cb in
def mid (a b : List S69) : List S69 := (b.take (b.length - end_ a b)).drop (from_ a b)
omit ha hb ca cb in
theorem short_le (a b : List S69) : short a b ≤ a.length ∧ short a b ≤ b.length ∧ (short a b = a.length ∨ short a b = b.length) := by unfold short; split <;> omega
omit ha hb ca cb in
theorem from_le (a b : List S69) : from_ a b + end_ a b ≤ short a b := by
  have h1 := (pre_le (ahead a b) (short a b) 0).2
  have h2 := (pre_le (behind a b) (short a b - from_ a b) 0).2
  have e1 : from_ a b = pre (ahead a b) (short a b) 0 := rfl
  have e2 : end_ a b = pre (behind a b) (short a b - from_ a b) 0 := rfl
  omega
theorem patched_ev : Evl (fun k => compare_Patched.f k a b) ((from_ a b : Int), (gone a b : Int), mid a b) := by
  have hs := short_le a b
  have hf := from_le a b
  simp only [compare_Patched.f]
  have e : mn (a.length : Int) (b.length : Int) = (short a b : Int) := by
    unfold mn short; split <;> split <;> omega
  rw [e]
  refine l0_ev ha ca (short a b) hs.1 hs.2.1 (short a b) 0 (by omega) ?_
  exact l1_ev ha hb ca cb (short a b) (from_ a b) hs.1 hs.2.1 (short a b - from_ a b) 0 (by omega)
theorem rpatched_ev : Evl (fun k => frisketref36_Patched.f k a b) ((from_ a b : Int), (gone a b : Int), mid a b) := by
  have hs := short_le a b
  have hf := from_le a b
  simp only [frisketref36_Patched.f]
  refine rl0_ev ha ca (short a b) hs.2.2 hs.1 hs.2.1 (short a b) 0 (by omega) ?_
  exact rl1_ev ha hb ca cb (short a b) (from_ a b) hs.2.2 hs.1 hs.2.1 (short a b - from_ a b) 0 (by omega)
end
theorem eqMs_of : ∀ (a b : List S69), a.length = b.length → (∀ j, j < a.length → eqM (at_ a j) (at_ b j) = true) → eqMs a b = true
  | [], [], _, _ => rfl
  | [], _ :: _, h, _ => by simp at h
  | _ :: _, [], h, _ => by simp at h
  | x :: a, y :: b, h, hj => by
    rw [eqMs, Bool.and_eq_true]
    refine ⟨hj 0 (by simp), eqMs_of a b (by simpa using h) (fun j hl => ?_)⟩
    have := hj (j + 1) (by simpa using hl)
    simpa [at_] using this
theorem eqMs_app : ∀ (a b c d : List S69), eqMs a b = true → eqMs c d = true → eqMs (a ++ c) (b ++ d) = true
  | [], [], _, _, _, h => h
  | [], _ :: _, _, _, h, _ => by simp [eqMs] at h
  | _ :: _, [], _, _, h, _ => by simp [eqMs] at h
  | x :: a, y :: b, c, d, h, h2 => by
    rw [eqMs, Bool.and_eq_true] at h
    rw [List.cons_append, List.cons_append, eqMs, h.1, eqMs_app a b c d h.2 h2]
    rfl
theorem at_take (l : List S69) (n j : Nat) (h : j < n) : at_ (l.take n) j = at_ l j := by
  unfold at_
  rw [List.getD_eq_getElem?_getD, List.getD_eq_getElem?_getD, List.getElem?_take_of_lt h]
theorem at_drop (l : List S69) (n j : Nat) : at_ (l.drop n) j = at_ l (n + j) := by
  unfold at_
  rw [List.getD_eq_getElem?_getD, List.getD_eq_getElem?_getD, List.getElem?_drop]
theorem split3 (b : List S69) (f e : Nat) (h : f + e ≤ b.length) : b.take f ++ ((b.take (b.length - e)).drop f ++ b.drop (b.length - e)) = b := by
  have h1 : (b.take (b.length - e)).take f = b.take f := by rw [List.take_take, Nat.min_eq_left (by omega)]
  rw [← List.append_assoc, ← h1, List.take_append_drop, List.take_append_drop]
/-- The one, with the patch done, is the other. -/
theorem done (a b : List S69) : eqMs (a.take (from_ a b) ++ (mid a b ++ a.drop (from_ a b + gone a b))) b = true := by
  have hs := short_le a b
  have hf := from_le a b
  have e : from_ a b + gone a b = a.length - end_ a b := by unfold gone; omega
  rw [e]
  have h := split3 b (from_ a b) (end_ a b) (by omega)
  conv => lhs; rw [← h]
  have h2 : eqMs (a.take (from_ a b) ++ (mid a b ++ a.drop (a.length - end_ a b))) (b.take (from_ a b) ++ ((b.take (b.length - end_ a b)).drop (from_ a b) ++ b.drop (b.length - end_ a b))) = true := by
    refine eqMs_app _ _ _ _ (eqMs_of _ _ (by rw [List.length_take, List.length_take]; omega) ?_) (eqMs_app _ _ _ _ (eqMs_refl _) (eqMs_of _ _ (by rw [List.length_drop, List.length_drop]; omega) ?_))
    · intro j hj
      rw [List.length_take] at hj
      rw [at_take _ _ _ (by omega), at_take _ _ _ (by omega)]
      exact pre_all (ahead a b) (short a b) 0 j (by omega) (by show j < from_ a b; omega)
    · intro j hj
      rw [List.length_drop] at hj
      rw [at_drop, at_drop]
      have h3 := pre_all (behind a b) (short a b - from_ a b) 0 (end_ a b - 1 - j) (by omega) (by show end_ a b - 1 - j < end_ a b; omega)
      unfold behind at h3
      rw [show a.length - end_ a b + j = a.length - 1 - (end_ a b - 1 - j) by omega, show b.length - end_ a b + j = b.length - 1 - (end_ a b - 1 - j) by omega]
      exact h3
  rw [h] at h2 ⊢
  exact h2
/-! ### a patch is used -/
section
variable {a n : List S69} (ha : a.length ≤ 1000) (ca : OkC a) (hn : n.length ≤ 1000) (cn : OkC n)
include ha ca hn cn
omit ha ca hn cn in
theorem concat_ev (x y z : List S69) (hx : x.length ≤ 1000) (hy : y.length ≤ 1000) (hz : z.length ≤ 1000) : Evl (fun k => api_Mark_34.f k [x, y, z]) (x ++ (y ++ z)) := by
  simp only [api_Mark_34.f, show (([x, y, z] : List (List S69)).length : Int) = 3 from rfl]
  have r0 : rd_L4 [x, y, z] 0 = x := rfl
  have r1 : rd_L4 [x, y, z] 1 = y := rfl
  have r2 : rd_L4 [x, y, z] 2 = z := rfl
  have w0 := Aside0.mk (show wrap64 (0 + 1) = 1 from (w64 (x := 0 + 1) (by omega) (by omega)).trans (by omega))
  have w1 := Aside0.mk (show wrap64 (1 + 1) = 2 from (w64 (x := 1 + 1) (by omega) (by omega)).trans (by omega))
  have w2 := Aside0.mk (show wrap64 (2 + 1) = 3 from (w64 (x := 2 + 1) (by omega) (by omega)).trans (by omega))
  have s0 := Aside0.mk (show wrap64 (0 + (x.length : Int)) = (x.length : Int) from by rw [Int.zero_add]; exact w64 (by omega) (by omega))
  have s1 := Aside0.mk (show wrap64 ((x.length : Int) + (y.length : Int)) = (x.length : Int) + (y.length : Int) from w64 (by omega) (by omega))
  have s2 := Aside0.mk (show wrap64 ((x.length : Int) + (y.length : Int) + (z.length : Int)) = (x.length : Int) + (y.length : Int) + (z.length : Int) from w64 (by omega) (by omega))
  refine Evl.succ ?_
  simp only [api_Mark_34.l0, show (([x, y, z] : List (List S69)).length : Int) = 3 from rfl, r0, w0.out, s0.out]
  refine Evl.pos (by omega) (Evl.pos (by omega) (Evl.pos (by omega) (Evl.neg (by omega) (Evl.succ ?_))))
  simp only [api_Mark_34.l0, show (([x, y, z] : List (List S69)).length : Int) = 3 from rfl, r1, w1.out, s1.out]
  refine Evl.pos (by omega) (Evl.pos (by omega) (Evl.pos (by omega) (Evl.neg (by omega) (Evl.succ ?_))))
  simp only [api_Mark_34.l0, show (([x, y, z] : List (List S69)).length : Int) = 3 from rfl, r2, w2.out, s2.out]
  refine Evl.pos (by omega) (Evl.pos (by omega) (Evl.pos (by omega) (Evl.neg (by omega) (Evl.succ ?_))))
  simp only [api_Mark_34.l0]
  refine Evl.neg (by omega) ?_
  have g : api_Mark_43.f [] ((x.length : Int) + (y.length : Int) + (z.length : Int)) = some [] := by
    unfold api_Mark_43.f
    rw [if_pos (by omega)]
  simp only [g, Option.bind_some, show (([x, y, z] : List (List S69)).length : Int) = 3 from rfl]
  refine Evl.succ ?_
  simp only [api_Mark_34.l1, show (([x, y, z] : List (List S69)).length : Int) = 3 from rfl, r0, w0.out]
  refine Evl.pos (by omega) (Evl.pos (by omega) (Evl.pos (by omega) (Evl.pos (by simp; omega) (Evl.succ ?_))))
  simp only [api_Mark_34.l1, show (([x, y, z] : List (List S69)).length : Int) = 3 from rfl, r1, w1.out]
  refine Evl.pos (by omega) (Evl.pos (by omega) (Evl.pos (by omega) (Evl.pos (by simp; omega) (Evl.succ ?_))))
  simp only [api_Mark_34.l1, show (([x, y, z] : List (List S69)).length : Int) = 3 from rfl, r2, w2.out]
  refine Evl.pos (by omega) (Evl.pos (by omega) (Evl.pos (by omega) (Evl.pos (by simp; omega) (Evl.succ ?_))))
  simp only [api_Mark_34.l1]
  refine Evl.neg (by omega) ?_
  rw [List.nil_append, List.append_assoc]
  exact Evl.some _
/-- What a patch makes of a list. -/
def used (a : List S69) (f g : Int) (n : List S69) : List S69 × Int :=
  if f < 0 ∨ g < 0 ∨ f > (a.length : Int) ∨ g > (a.length : Int) - f then ([], 1) else (a.take f.toNat ++ (n ++ a.drop (f + g).toNat), 0)
omit ha ca hn cn in
theorem okC_app {x y : List S69} (hx : x.length ≤ 1000) (hy : y.length ≤ 2000) (cx : OkC x) (cy : OkC y) : OkC (x ++ y) :=
  ⟨by rw [List.length_append]; omega, fun m hm => by
    rcases List.mem_append.mp hm with h | h
    · exact cx.2 m h
    · exact cy.2 m h⟩
theorem use_ev (f g : Int) : Evl (fun k => compare_Use.f k a f g n) (used a f g n) := by
  simp only [compare_Use.f]
  have bad : f < 0 ∨ g < 0 ∨ f > (a.length : Int) ∨ g > (a.length : Int) - f → Evl (fun k => compare_Use.j0 k a true f g n) (used a f g n) := by
    intro h
    refine Evl.succ ?_
    simp only [compare_Use.j0, if_true]
    unfold used
    rw [if_pos h]
    exact Evl.some _
  refine Evl.ite (fun h => bad (Or.inl h)) (fun h1 => Evl.ite (fun h => bad (Or.inr (Or.inl h))) (fun h2 => Evl.ite (fun h => bad (Or.inr (Or.inr (Or.inl h)))) (fun h3 => ?_)))
  rw [w64 (x := (a.length : Int) - f) (by omega) (by omega)]
  by_cases h4 : g > (a.length : Int) - f
  · rw [decide_eq_true h4]
    exact bad (Or.inr (Or.inr (Or.inr h4)))
  · rw [decide_eq_false h4]
    refine Evl.succ ?_
    simp only [compare_Use.j0]
    rw [w64 (x := f + g) (by omega) (by omega)]
    refine Evl.neg (by simp) (Evl.pos (by omega) (Evl.pos (by omega) (Evl.pos (by omega) (Evl.pos (by omega) ?_))))
    refine Evl.bind (concat_ev _ _ _ (by rw [List.length_take]; omega) hn (by rw [List.length_drop]; omega)) ?_
    have hok : OkC (a.take f.toNat ++ (n ++ a.drop (f + g).toNat)) :=
      okC_app (by rw [List.length_take]; omega) (by rw [List.length_append, List.length_drop]; omega) (okC_take ca _)
        (okC_app hn (by rw [List.length_drop]; omega) cn (okC_drop ca _))
    refine Evl.bind (own_ev _ hok) ?_
    unfold used
    rw [if_neg (by omega)]
    exact Evl.some _
theorem ruse_ev (f g : Int) : Evl (fun k => frisketref36_Use.f k a f g n) (used a f g n) := by
  simp only [frisketref36_Use.f]
  have bad : f < 0 ∨ g < 0 ∨ f > (a.length : Int) ∨ g > (a.length : Int) - f → Evl (fun k => frisketref36_Use.j0 k a true f g n) (used a f g n) := by
    intro h
    refine Evl.succ ?_
    simp only [frisketref36_Use.j0, if_true]
    unfold used
    rw [if_pos h]
    exact Evl.some _
  refine Evl.ite (fun h => bad (Or.inl h)) (fun h1 => Evl.ite (fun h => bad (Or.inr (Or.inl h))) (fun h2 => Evl.ite (fun h => bad (Or.inr (Or.inr (Or.inl h)))) (fun h3 => ?_)))
  rw [w64 (x := (a.length : Int) - f) (by omega) (by omega)]
  by_cases h4 : g > (a.length : Int) - f
  · rw [decide_eq_true h4]
    exact bad (Or.inr (Or.inr (Or.inr h4)))
  · rw [decide_eq_false h4]
    refine Evl.succ ?_
    simp only [frisketref36_Use.j0]
    rw [w64 (x := f + g) (by omega) (by omega)]
    refine Evl.neg (by simp) (Evl.pos (by omega) (Evl.pos (by omega) ?_))
    refine Evl.bind (rown_ev _ (okC_take ca _)) (Evl.bind (rown_ev _ cn) ?_)
    refine Evl.pos (by rw [List.length_take]; omega) ?_
    simp only [Option.bind_some]
    refine Evl.pos (by omega) (Evl.pos (by omega) (Evl.bind (rown_ev _ (okC_drop ca _)) ?_))
    refine Evl.pos (by rw [List.length_append, List.length_take, List.length_drop]; omega) ?_
    unfold used
    rw [if_neg (by omega), List.append_assoc]
    exact Evl.some _
end
/-! ### marks out of numbers -/
theorem row_l (l : List Int) (hl : l.length ≤ 200) : ∀ (m i : Nat) (out : List S69), i + m = l.length → out.length = i → (∀ p ∈ out, p.f8 = []) →
    EvG (fun k => frisketlaw36_row.l0 k l out (i : Int)) (fun R => R.length = l.length ∧ ∀ p ∈ R, p.f8 = [])
  | 0, i, out, h, ho, hz => by
    refine EvG.succ ?_
    simp only [frisketlaw36_row.l0]
    exact EvG.neg (by omega) (EvG.mk (Evl.some _) ⟨by omega, hz⟩)
  | m + 1, i, out, h, ho, hz => by
    refine EvG.succ ?_
    simp only [frisketlaw36_row.l0]
    refine EvG.pos (by omega) (EvG.pos (by omega) (EvG.pos (by omega) ?_))
    rw [wn (by omega)]
    refine row_l l hl m (i + 1) _ (by omega) (by rw [List.length_append, ho]; rfl) ?_
    intro q hq
    rcases List.mem_append.mp hq with hq | hq
    · exact hz q hq
    · rw [List.mem_singleton.mp hq]
theorem row_ev (l : List Int) (hl : l.length ≤ 200) : EvG (fun k => frisketlaw36_row.f k l) (fun R => R.length ≤ 200 ∧ OkC R) := by
  simp only [frisketlaw36_row.f]
  obtain ⟨R, h, hR, hz⟩ := row_l l hl l.length 0 [] (by omega) rfl (by simp)
  exact ⟨R, h, by omega, by omega, fun m hm => by rw [hz m hm]; simp⟩
theorem sane_ev : Evl (fun k => frisketlaw36_sane.f k) true := by
  have h0 : frisketlaw36_sane.f 200 = some true := by decide +kernel
  have h : ∀ n, frisketlaw36_sane.f (200 + n) = some true := by
    intro n
    induction n with
    | zero => exact h0
    | succ n ih => exact frisketlaw36_sane.mono (200 + n) _ ih
  refine ⟨200, fun k hk => ?_⟩
  have := h (k - 200)
  rw [show 200 + (k - 200) = k by omega] at this
  exact this
theorem spatch_ev (f g : Int) (n : List S69) (h : OkM n) : Evl (fun k => frisketref36_SamePatch.f k f g n f g n) true := by
  simp only [frisketref36_SamePatch.f]
  have h2 := smarks_ev n n h
  rw [eqMs_refl] at h2
  exact Evl.pos trivial (Evl.pos trivial (Evl.bind h2 (Evl.some _)))
theorem law_ev (l0 l1 : List Int) (f g : Int) (n : List S69) (cn0 : ∀ m ∈ n, m.f8.length < 17592186044416) : Evl (fun k => frisketlaw36_ComparePatches.f k l0 l1 f g n) true := by
  have sane_ : Evl (fun k => frisketlaw36_ComparePatches.j0 k l0 l1 true f g n) true := by
    refine Evl.succ ?_
    simp only [frisketlaw36_ComparePatches.j0, if_true]
    exact Evl.bind sane_ev (Evl.some _)
  simp only [frisketlaw36_ComparePatches.f]
  refine Evl.ite (fun _ => sane_) (fun h0 => Evl.ite (fun _ => sane_) (fun h1 => ?_))
  by_cases h2 : (n.length : Int) > 50
  · rw [decide_eq_true h2]; exact sane_
  · rw [decide_eq_false h2]
    refine Evl.succ ?_
    simp only [frisketlaw36_ComparePatches.j0]
    refine Evl.neg (by simp) ?_
    have cn : OkC n := ⟨by omega, cn0⟩
    obtain ⟨x, ex, lx, ox⟩ := row_ev l0 (by omega)
    obtain ⟨y, ey, ly, oy⟩ := row_ev l1 (by omega)
    refine Evl.bind ex (Evl.bind ey (Evl.bind (patched_ev (by omega) (by omega) ox oy) ?_))
    simp only [frisketlaw36_patch.f, Option.bind_some]
    have om : OkC (mid x y) := okC_drop (okC_take oy _) _
    have lm : (mid x y).length ≤ 1000 := by unfold mid; rw [List.length_drop, List.length_take]; omega
    have u1 := use_ev (a := x) (n := mid x y) (by omega) ox lm om (from_ x y : Int) (gone x y : Int)
    have u2 := use_ev (a := x) (n := n) (by omega) ox (by omega) cn f g
    have u3 := ruse_ev (a := x) (n := n) (by omega) ox (by omega) cn f g
    have hs := short_le x y
    have hf := from_le x y
    have e1 : used x (from_ x y : Int) (gone x y : Int) (mid x y) = (x.take (from_ x y) ++ (mid x y ++ x.drop (from_ x y + gone x y)), 0) := by
      unfold used
      rw [if_neg (by unfold gone; omega), Int.toNat_natCast, ← Int.natCast_add, Int.toNat_natCast]
    have ok1 : OkC (x.take (from_ x y) ++ (mid x y ++ x.drop (from_ x y + gone x y))) :=
      okC_app (by rw [List.length_take]; omega) (by rw [List.length_append, List.length_drop]; omega) (okC_take ox _)
        (okC_app lm (by rw [List.length_drop]; omega) om (okC_drop ox _))
    have ok2 : OkC (used x f g n).1 := by
      unfold used
      split
      · exact ⟨by simp, by simp⟩
      · exact okC_app (by rw [List.length_take]; omega) (by rw [List.length_append, List.length_drop]; omega) (okC_take ox _)
          (okC_app (by omega) (by rw [List.length_drop]; omega) cn (okC_drop ox _))
    rw [e1] at u1
    have s1 := smarks_ev _ y ok1.okM
    rw [done x y] at s1
    have s2 := smarks_ev _ (used x f g n).1 ok2.okM
    rw [eqMs_refl] at s2
    refine Evl.bind (rpatched_ev (by omega) (by omega) ox oy) (Evl.bind (spatch_ev _ _ _ om.okM) (Evl.pos rfl (Evl.bind u1 (Evl.bind u2 (Evl.bind u3 ?_)))))
    refine Evl.pos rfl (Evl.bind s1 (Evl.pos rfl (Evl.pos rfl (Evl.bind s2 (Evl.pos rfl (Evl.bind sane_ev (Evl.some _)))))))
end Go.Proofs.Ytgjmljjnminefaa.PatchesCP
