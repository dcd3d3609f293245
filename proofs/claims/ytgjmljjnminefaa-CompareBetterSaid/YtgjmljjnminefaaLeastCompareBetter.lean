/- The least edits: the table of costs, the way through it, and that no way is cheaper. -/
import Derived.Test.YtgjmljjnminefaaSameCompareBetter
namespace Go.Proofs.Ytgjmljjnminefaa.LeastCompareBetter
open Go.RowKit Go.Proofs.Ytgjmljjnminefaa.QCompareBetter Go.Proofs.YtgjmljjnminefaaW.PrintWords Go.Proofs.YtgjmljjnminefaaW.PrintLast Go.Proofs.YtgjmljjnminefaaW.PrintMore Go.Proofs.YtgjmljjnminefaaN Go.Proofs.Ytgjmljjnminefaa.Evl Go.Proofs.Ytgjmljjnminefaa.SameCompareBetter
set_option linter.unusedVariables false
section
variable (xs ys : List S24)
def at_ (l : List S24) (i : Nat) : S24 := l.getD i z24
theorem rd_at (l : List S24) (i : Nat) : rd_T24 l (i : Int) = at_ l i := by unfold rd_T24 at_; rw [Int.toNat_natCast]
/-- The least cost where p pages of the one and q of the other are left. -/
def cc : Nat → Nat → Int
  | 0, 0 => 0
  | 0, q + 1 => 1 + cc 0 q
  | p + 1, 0 => 1 + cc p 0
  | p + 1, q + 1 =>
    if (at_ xs (xs.length - (p + 1))).f0 = (at_ ys (ys.length - (q + 1))).f0 then
      (if SM (at_ xs (xs.length - (p + 1))) (at_ ys (ys.length - (q + 1))) = true then min (min (1 + cc p (q + 1)) (1 + cc (p + 1) q)) (cc p q) else min (min (1 + cc p (q + 1)) (1 + cc (p + 1) q)) (1 + cc p q))
    else min (1 + cc p (q + 1)) (1 + cc (p + 1) q)
termination_by p q => p + q
theorem cc_bounds (n : Nat) : ∀ p q, p + q = n → 0 ≤ cc xs ys p q ∧ cc xs ys p q ≤ p + q := by
  induction n using Nat.strongRecOn with
  | ind n ih =>
    intro p q h
    match p, q with
    | 0, 0 => rw [cc]; omega
    | 0, q + 1 => have := ih q (by omega) 0 q (by omega); rw [cc]; omega
    | p + 1, 0 => have := ih p (by omega) p 0 (by omega); rw [cc]; omega
    | p + 1, q + 1 =>
      have h1 := ih (p + (q + 1)) (by omega) p (q + 1) rfl
      have h2 := ih ((p + 1) + q) (by omega) (p + 1) q rfl
      have h3 := ih (p + q) (by omega) p q rfl
      rw [cc]
      split
      · split <;> omega
      · omega
def c (i j : Nat) : Int := cc xs ys (xs.length - i) (ys.length - j)
theorem c_in (i j : Nat) : 0 ≤ c xs ys i j ∧ c xs ys i j ≤ xs.length + ys.length := by
  have := cc_bounds xs ys _ (xs.length - i) (ys.length - j) rfl
  unfold c; omega
theorem c_end : c xs ys xs.length ys.length = 0 := by unfold c; simp [cc]
theorem c_right (j : Nat) (h : j < ys.length) : c xs ys xs.length j = 1 + c xs ys xs.length (j + 1) := by
  unfold c
  rw [show ys.length - j = (ys.length - (j + 1)) + 1 by omega, Nat.sub_self, cc]
theorem c_down (i : Nat) (h : i < xs.length) : c xs ys i ys.length = 1 + c xs ys (i + 1) ys.length := by
  unfold c
  rw [show xs.length - i = (xs.length - (i + 1)) + 1 by omega, Nat.sub_self, cc]
theorem c_both (i j : Nat) (hi : i < xs.length) (hj : j < ys.length) : c xs ys i j =
    if (at_ xs i).f0 = (at_ ys j).f0 then
      (if SM (at_ xs i) (at_ ys j) = true then min (min (1 + c xs ys (i + 1) j) (1 + c xs ys i (j + 1))) (c xs ys (i + 1) (j + 1)) else min (min (1 + c xs ys (i + 1) j) (1 + c xs ys i (j + 1))) (1 + c xs ys (i + 1) (j + 1)))
    else min (1 + c xs ys (i + 1) j) (1 + c xs ys i (j + 1)) := by
  unfold c
  rw [show xs.length - i = (xs.length - (i + 1)) + 1 by omega, show ys.length - j = (ys.length - (j + 1)) + 1 by omega, cc,
    show xs.length - (xs.length - (i + 1) + 1) = i by omega, show ys.length - (ys.length - (j + 1) + 1) = j by omega]
/-! ### the table -/
def el (M : List (List Int)) (r q : Nat) : Int := (M.getD r []).getD q 0
def eb (S : List (List Bool)) (r q : Nat) : Bool := (S.getD r []).getD q false
structure TI (M : List (List Int)) (S : List (List Bool)) (i j : Nat) : Prop where
  lm : M.length = xs.length + 1
  ls : S.length = xs.length + 1
  rm : ∀ r, r ≤ xs.length → (M.getD r []).length = ys.length + 1
  rs : ∀ r, r ≤ xs.length → (S.getD r []).length = ys.length + 1
  cm : ∀ r q, r ≤ xs.length → q ≤ ys.length → (i < r ∨ (r = i ∧ j ≤ q)) → el M r q = c xs ys r q
  cs : ∀ r q, r < xs.length → q < ys.length → (i < r ∨ (r = i ∧ j ≤ q)) → (at_ xs r).f0 = (at_ ys q).f0 → eb S r q = SM (at_ xs r) (at_ ys q)
end
theorem getD_set {α : Type} (l : List α) (i j : Nat) (v d : α) (h : i < l.length) : (l.set i v).getD j d = if i = j then v else l.getD j d := by
  rw [List.getD_eq_getElem?_getD, List.getElem?_set]
  by_cases e : i = j
  · subst e; simp [h]
  · simp [e, List.getD_eq_getElem?_getD]
theorem el_set (M : List (List Int)) (i j r q : Nat) (v : Int) (hi : i < M.length) (hj : j < (M.getD i []).length) : el (M.set i ((M.getD i []).set j v)) r q = if i = r ∧ j = q then v else el M r q := by
  unfold el
  rw [getD_set _ _ _ _ _ hi]
  by_cases e : i = r
  · subst e
    rw [if_pos rfl, getD_set _ _ _ _ _ hj]
    by_cases e2 : j = q <;> simp [e2]
  · rw [if_neg e, if_neg (fun h => e h.1)]
theorem eb_set (M : List (List Bool)) (i j r q : Nat) (v : Bool) (hi : i < M.length) (hj : j < (M.getD i []).length) : eb (M.set i ((M.getD i []).set j v)) r q = if i = r ∧ j = q then v else eb M r q := by
  unfold eb
  rw [getD_set _ _ _ _ _ hi]
  by_cases e : i = r
  · subst e
    rw [if_pos rfl, getD_set _ _ _ _ _ hj]
    by_cases e2 : j = q <;> simp [e2]
  · rw [if_neg e, if_neg (fun h => e h.1)]
theorem len_set {α : Type} (M : List (List α)) (i j r : Nat) (v : α) (hi : i < M.length) : ((M.set i ((M.getD i []).set j v)).getD r []).length = (M.getD r []).length := by
  rw [getD_set _ _ _ _ _ hi]
  by_cases e : i = r
  · subst e; rw [if_pos rfl, List.length_set]
  · rw [if_neg e]
theorem rdL2 (M : List (List Int)) (i : Nat) : rd_L2 M (i : Int) = M.getD i [] := by unfold rd_L2; rw [Int.toNat_natCast]
theorem rdL7 (M : List (List Bool)) (i : Nat) : rd_L7 M (i : Int) = M.getD i [] := by unfold rd_L7; rw [Int.toNat_natCast]
theorem rdel (M : List (List Int)) (i j : Nat) : rd (M.getD i []) (j : Int) = el M i j := by unfold rd el; rw [Int.toNat_natCast]
theorem rdeb (M : List (List Bool)) (i j : Nat) : rdOf false (M.getD i []) (j : Int) = eb M i j := by unfold rdOf eb; rw [Int.toNat_natCast]
section
variable {xs ys : List S24}
structure Ok (xs ys : List S24) : Prop where
  lx : xs.length ≤ 200
  ly : ys.length ≤ 200
  mx : ∀ p ∈ xs, OkC p.f1
  my : ∀ p ∈ ys, OkC p.f1
theorem at_mem {l : List S24} {i : Nat} (h : i < l.length) : at_ l i ∈ l := by
  have := getD_mem l i z24 h
  rw [Int.toNat_natCast] at this
  exact this
theorem TI.put {M S i j} (T : TI xs ys M S i (j + 1)) (hi : i ≤ xs.length) (hj : j ≤ ys.length) {v : Int} (hv : v = c xs ys i j) (hs : i < xs.length → j < ys.length → (at_ xs i).f0 = (at_ ys j).f0 → eb S i j = SM (at_ xs i) (at_ ys j)) :
    TI xs ys (M.set i ((M.getD i []).set j v)) S i j := by
  have a1 : i < M.length := by rw [T.lm]; omega
  have a2 : j < (M.getD i []).length := by rw [T.rm i hi]; omega
  refine ⟨by rw [List.length_set]; exact T.lm, T.ls, fun r hr => by rw [len_set _ _ _ _ _ a1]; exact T.rm r hr, T.rs, fun r q hr hq h => ?_, fun r q hr hq h h0 => ?_⟩
  · rw [el_set _ _ _ _ _ _ a1 a2]
    by_cases e : i = r ∧ j = q
    · rw [if_pos e, ← e.1, ← e.2]; exact hv
    · rw [if_neg e]; exact T.cm r q hr hq (by omega)
  · by_cases e : i = r ∧ j = q
    · obtain ⟨rfl, rfl⟩ := e; exact hs hr hq h0
    · exact T.cs r q hr hq (by omega) h0
theorem TI.puts {M S i j} (T : TI xs ys M S i (j + 1)) (hi : i ≤ xs.length) (hj : j ≤ ys.length) (b : Bool) : TI xs ys M (S.set i ((S.getD i []).set j b)) i (j + 1) ∧ eb (S.set i ((S.getD i []).set j b)) i j = b := by
  have a1 : i < S.length := by rw [T.ls]; omega
  have a2 : j < (S.getD i []).length := by rw [T.rs i hi]; omega
  refine ⟨⟨T.lm, by rw [List.length_set]; exact T.ls, T.rm, fun r hr => by rw [len_set _ _ _ _ _ a1]; exact T.rs r hr, T.cm, fun r q hr hq h h0 => ?_⟩, ?_⟩
  · rw [eb_set _ _ _ _ _ _ a1 a2, if_neg (by omega)]
    exact T.cs r q hr hq h h0
  · rw [eb_set _ _ _ _ _ _ a1 a2, if_pos ⟨rfl, rfl⟩]
/-- One place of the table. -/
theorem step_ev (O : Ok xs ys) {M S} {i j : Nat} (T : TI xs ys M S i (j + 1)) (hi : i ≤ xs.length) (hj : j ≤ ys.length) {G : List (List Int) × List (List Bool) → Prop}
    (h : ∀ M' S', TI xs ys M' S' i j → EvG (fun k => compare_tabled.l2 k xs ys (i : Int) ((j : Int) - 1) M' S') G) : EvG (fun k => compare_tabled.l2 k xs ys (i : Int) (j : Int) M S) G := by
  have lx := O.lx
  have ly := O.ly
  have wj : wrap64 ((j : Int) - 1) = (j : Int) - 1 := w64 (by omega) (by omega)
  have wi1 : wrap64 ((i : Int) + 1) = ((i + 1 : Nat) : Int) := wn (by omega)
  have wj1 : wrap64 ((j : Int) + 1) = ((j + 1 : Nat) : Int) := wn (by omega)
  have cv : ∀ a b, wrap64 (1 + c xs ys a b) = 1 + c xs ys a b := fun a b => by have := c_in xs ys a b; exact w64 (by omega) (by omega)
  have lM : (M.length : Int) = (xs.length : Int) + 1 := by rw [T.lm]; omega
  have lS : (S.length : Int) = (xs.length : Int) + 1 := by rw [T.ls]; omega
  -- the last step: the value is laid
  have last : ∀ (both : Bool) (x8 : Int), both = decide (i < xs.length ∧ j < ys.length ∧ (at_ xs i).f0 = (at_ ys j).f0) →
      (if both = true then (if SM (at_ xs i) (at_ ys j) = true then min (min x8 (c xs ys (i + 1) (j + 1))) (1 + c xs ys (i + 1) (j + 1)) else min x8 (1 + c xs ys (i + 1) (j + 1))) else x8) = c xs ys i j →
      EvG (fun k => compare_tabled.j7 k xs ys (i : Int) (j : Int) x8 both M S) G := by
    intro both x8 hb hv
    refine EvG.succ ?_
    simp only [compare_tabled.j7]
    by_cases hc : i < xs.length ∧ j < ys.length ∧ (at_ xs i).f0 = (at_ ys j).f0
    · obtain ⟨h1, h2, h3⟩ := hc
      rw [hb, decide_eq_true (show i < xs.length ∧ j < ys.length ∧ (at_ xs i).f0 = (at_ ys j).f0 from ⟨h1, h2, h3⟩)]
      rw [hb, decide_eq_true (show i < xs.length ∧ j < ys.length ∧ (at_ xs i).f0 = (at_ ys j).f0 from ⟨h1, h2, h3⟩), if_pos rfl] at hv
      simp only [if_true, rd_at, rdL2, rdL7, wi1, wj1, wj]
      refine EvG.pos (by omega) (EvG.pos (by omega) (EvG.pos (by omega) (EvG.pos (by omega) (EvG.pos (by omega) ?_))))
      refine EvG.bind (same_ev (at_ xs i) (at_ ys j) (O.mx _ (at_mem h1)).okM) ?_
      obtain ⟨T2, e2⟩ := T.puts hi hj (SM (at_ xs i) (at_ ys j))
      refine EvG.pos (by rw [T.rs i hi]; omega) ?_
      simp only [Option.bind_some, Int.toNat_natCast]
      refine EvG.pos (by rw [T2.rs i hi]; omega) ?_
      simp only [rdeb, e2]
      by_cases hs : SM (at_ xs i) (at_ ys j) = true
      · rw [if_pos hs] at hv
        refine EvG.pos hs (EvG.pos (by omega) (EvG.pos (by omega) (EvG.pos (by omega) (EvG.pos (by rw [T.rm (i + 1) (by omega)]; omega) (EvG.pos (by omega) (EvG.pos (by rw [T.rm i hi]; omega) ?_))))))
        simp only [rdel, T.cm (i + 1) (j + 1) (by omega) (by omega) (by omega), cv, mn_eq]
        exact h _ _ (T2.put hi hj hv (fun _ _ _ => e2))
      · rw [if_neg hs] at hv
        refine EvG.neg hs (EvG.pos (by omega) (EvG.pos (by omega) (EvG.pos (by omega) (EvG.pos (by rw [T.rm (i + 1) (by omega)]; omega) (EvG.pos (by omega) (EvG.pos (by rw [T.rm i hi]; omega) ?_))))))
        simp only [rdel, T.cm (i + 1) (j + 1) (by omega) (by omega) (by omega), cv, mn_eq]
        exact h _ _ (T2.put hi hj hv (fun _ _ _ => e2))
    · rw [hb, decide_eq_false hc] at *
      rw [if_neg (by simp)] at hv
      simp only [Bool.false_eq_true, if_false, rdL2, wj, Int.toNat_natCast]
      refine EvG.pos (by omega) (EvG.pos (by omega) (EvG.pos (by omega) (EvG.pos (by rw [T.rm i hi]; omega) ?_)))
      exact h _ _ (T.put hi hj hv (fun a b d => absurd ⟨a, b, d⟩ hc))
  have s6 : ∀ (x8 : Int), (if i < xs.length ∧ j < ys.length ∧ (at_ xs i).f0 = (at_ ys j).f0 then (if SM (at_ xs i) (at_ ys j) = true then min (min x8 (c xs ys (i + 1) (j + 1))) (1 + c xs ys (i + 1) (j + 1)) else min x8 (1 + c xs ys (i + 1) (j + 1))) else x8) = c xs ys i j →
      EvG (fun k => compare_tabled.j6 k xs ys (i : Int) (j : Int) x8 M S) G := by
    intro x8 hv
    refine EvG.succ ?_
    simp only [compare_tabled.j6, rd_at]
    have hv2 : ∀ both : Bool, both = decide (i < xs.length ∧ j < ys.length ∧ (at_ xs i).f0 = (at_ ys j).f0) → (if both = true then (if SM (at_ xs i) (at_ ys j) = true then min (min x8 (c xs ys (i + 1) (j + 1))) (1 + c xs ys (i + 1) (j + 1)) else min x8 (1 + c xs ys (i + 1) (j + 1))) else x8) = c xs ys i j := by
      rintro both rfl
      simp only [decide_eq_true_eq]
      exact hv
    refine EvG.ite (fun h1 => ?_) (fun h1 => ?_)
    · refine EvG.ite (fun h2 => ?_) (fun h2 => ?_)
      · have e : ((at_ xs i).f0 == (at_ ys j).f0) = decide (i < xs.length ∧ j < ys.length ∧ (at_ xs i).f0 = (at_ ys j).f0) := by
          by_cases e0 : (at_ xs i).f0 = (at_ ys j).f0
          · rw [beq_iff_eq.mpr e0, decide_eq_true ⟨by omega, by omega, e0⟩]
          · rw [beq_eq_false_iff_ne.mpr e0, decide_eq_false (fun h => e0 h.2.2)]
        exact EvG.pos (by omega) (EvG.pos (by omega) (last _ _ e (hv2 _ e)))
      · have e : false = decide (i < xs.length ∧ j < ys.length ∧ (at_ xs i).f0 = (at_ ys j).f0) := by rw [decide_eq_false]; omega
        exact last _ _ e (hv2 _ e)
    · have e : false = decide (i < xs.length ∧ j < ys.length ∧ (at_ xs i).f0 = (at_ ys j).f0) := by rw [decide_eq_false]; omega
      exact last _ _ e (hv2 _ e)
  have s5 : ∀ (x8 : Int), (∀ x9, x9 = (if j < ys.length then min x8 (1 + c xs ys i (j + 1)) else x8) → EvG (fun k => compare_tabled.j6 k xs ys (i : Int) (j : Int) x9 M S) G) → EvG (fun k => compare_tabled.j5 k xs ys (i : Int) (j : Int) x8 M S) G := by
    intro x8 hx
    refine EvG.succ ?_
    simp only [compare_tabled.j5, rdL2, wj1]
    refine EvG.ite (fun h1 => ?_) (fun h1 => ?_)
    · refine EvG.pos (by omega) (EvG.pos (by omega) (EvG.pos (by omega) (EvG.pos (by rw [T.rm i hi]; omega) ?_)))
      simp only [rdel, T.cm i (j + 1) hi (by omega) (by omega), cv, mn_eq]
      exact hx _ (by rw [if_pos (by omega)])
    · exact hx _ (by rw [if_neg (by omega)])
  have s4 : ∀ (x8 : Int), (∀ x9, x9 = (if i < xs.length then min x8 (1 + c xs ys (i + 1) j) else x8) → EvG (fun k => compare_tabled.j5 k xs ys (i : Int) (j : Int) x9 M S) G) → EvG (fun k => compare_tabled.j4 k xs ys (i : Int) (j : Int) x8 M S) G := by
    intro x8 hx
    refine EvG.succ ?_
    simp only [compare_tabled.j4, rdL2, wi1]
    refine EvG.ite (fun h1 => ?_) (fun h1 => ?_)
    · refine EvG.pos (by omega) (EvG.pos (by omega) (EvG.pos (by omega) (EvG.pos (by rw [T.rm (i + 1) (by omega)]; omega) ?_)))
      simp only [rdel, T.cm (i + 1) j (by omega) hj (by omega), cv, mn_eq]
      exact hx _ (by rw [if_pos (by omega)])
    · exact hx _ (by rw [if_neg (by omega)])
  have fin : ∀ x8 : Int, x8 = (if i = xs.length ∧ j = ys.length then 0 else (xs.length : Int) + ys.length + 1) → EvG (fun k => compare_tabled.j4 k xs ys (i : Int) (j : Int) x8 M S) G := by
    intro x8 h8
    refine s4 x8 fun x9 h9 => s5 x9 fun x10 h10 => s6 x10 ?_
    have b1 := c_in xs ys (i + 1) j
    have b2 := c_in xs ys i (j + 1)
    have b3 := c_in xs ys (i + 1) (j + 1)
    by_cases hx : i < xs.length
    · rw [if_pos hx] at h9
      by_cases hy : j < ys.length
      · rw [if_pos hy] at h10
        rw [if_neg (by omega)] at h8
        have hb := c_both xs ys i j hx hy
        by_cases h0 : (at_ xs i).f0 = (at_ ys j).f0
        · rw [if_pos ⟨hx, hy, h0⟩]
          rw [if_pos h0] at hb
          by_cases hs : SM (at_ xs i) (at_ ys j) = true
          · rw [if_pos hs] at hb ⊢; omega
          · rw [if_neg hs] at hb ⊢; omega
        · rw [if_neg (fun h => h0 h.2.2)]
          rw [if_neg h0] at hb
          omega
      · rw [if_neg hy] at h10
        rw [if_neg (by omega), show j = ys.length by omega, c_down xs ys i hx]
        rw [if_neg (by omega)] at h8
        rw [show j = ys.length by omega] at h9 b1
        omega
    · rw [if_neg hx] at h9
      have ei : i = xs.length := by omega
      subst ei
      rw [if_neg (by omega)]
      by_cases hy : j < ys.length
      · rw [if_pos hy] at h10
        rw [if_neg (by omega)] at h8
        rw [c_right xs ys j hy]
        omega
      · rw [if_neg hy] at h10
        have ej : j = ys.length := by omega
        subst ej
        rw [if_pos ⟨rfl, rfl⟩] at h8
        rw [c_end]
        omega
  refine EvG.succ ?_
  simp only [compare_tabled.l2]
  refine EvG.pos (by omega) ?_
  have wl : wrap64 (wrap64 ((xs.length : Int) + (ys.length : Int)) + 1) = (xs.length : Int) + ys.length + 1 := by rw [w64 (x := (xs.length : Int) + ys.length) (by omega) (by omega), w64 (by omega) (by omega)]
  rw [wl]
  have j3 : ∀ b : Bool, b = decide (i = xs.length ∧ j = ys.length) → EvG (fun k => compare_tabled.j3 k xs ys (i : Int) (j : Int) ((xs.length : Int) + ys.length + 1) b M S) G := by
    rintro b hb
    refine EvG.succ ?_
    simp only [compare_tabled.j3]
    by_cases he : i = xs.length ∧ j = ys.length
    · rw [hb, decide_eq_true he]
      exact EvG.pos rfl (fin _ (by rw [if_pos he]))
    · rw [hb, decide_eq_false he]
      exact EvG.neg (by simp) (fin _ (by rw [if_neg he]))
  refine EvG.ite (fun h1 => j3 _ ?_) (fun h1 => j3 _ ?_)
  · by_cases e : j = ys.length
    · rw [decide_eq_true ⟨by omega, e⟩]; simp [e]
    · rw [decide_eq_false (by omega)]; exact beq_eq_false_iff_ne.mpr (by omega)
  · rw [decide_eq_false (by omega)]
theorem row_ev (O : Ok xs ys) {i : Nat} (hi : i ≤ xs.length) {G : List (List Int) × List (List Bool) → Prop} (h : ∀ M' S', TI xs ys M' S' i 0 → EvG (fun k => compare_tabled.l1 k xs ys ((i : Int) - 1) M' S') G) :
    ∀ (j : Nat), j ≤ ys.length + 1 → ∀ M S, TI xs ys M S i j → EvG (fun k => compare_tabled.l2 k xs ys (i : Int) ((j : Int) - 1) M S) G
  | 0, _, M, S, T => by
    have := O.lx
    refine EvG.succ ?_
    simp only [compare_tabled.l2]
    refine EvG.neg (by omega) ?_
    rw [w64 (by omega) (by omega)]
    exact h _ _ T
  | j + 1, hj, M, S, T => by
    have e : ((j + 1 : Nat) : Int) - 1 = (j : Int) := by omega
    rw [e]
    exact step_ev O T hi (by omega) fun M' S' T' => row_ev O hi h j (by omega) M' S' T'
theorem rows_ev (O : Ok xs ys) : ∀ (i : Nat), i ≤ xs.length + 1 → ∀ M S, TI xs ys M S i 0 → EvG (fun k => compare_tabled.l1 k xs ys ((i : Int) - 1) M S) (fun R => TI xs ys R.1 R.2 0 0)
  | 0, _, M, S, T => by
    refine EvG.succ ?_
    simp only [compare_tabled.l1]
    exact EvG.neg (by omega) (EvG.mk (Evl.some _) T)
  | i + 1, hi, M, S, T => by
    have lx := O.lx
    have ly := O.ly
    refine EvG.succ ?_
    simp only [compare_tabled.l1]
    refine EvG.pos (by omega) ?_
    have e : ((i + 1 : Nat) : Int) - 1 = (i : Int) := by omega
    rw [e]
    have h := row_ev O (i := i) (by omega) (fun M' S' T' => rows_ev O i (by omega) M' S' T') (ys.length + 1) (by omega) M S ⟨T.lm, T.ls, T.rm, T.rs, fun r q hr hq h => T.cm r q hr hq (by omega), fun r q hr hq h h0 => T.cs r q hr hq (by omega) h0⟩
    have e2 : ((ys.length + 1 : Nat) : Int) - 1 = (ys.length : Int) := by omega
    rw [e2] at h
    exact h
theorem start_ev (O : Ok xs ys) : ∀ (m i : Nat), i + m = xs.length + 1 →
    EvG (fun k => compare_tabled.l0 k xs ys ((xs.length : Int) + 1) (i : Int) (List.replicate i (List.replicate (ys.length + 1) 0)) (List.replicate i (List.replicate (ys.length + 1) false))) (fun R => TI xs ys R.1 R.2 0 0)
  | 0, i, h => by
    have lx := O.lx
    have ly := O.ly
    refine EvG.succ ?_
    simp only [compare_tabled.l0]
    refine EvG.neg (by omega) ?_
    have ei : i = xs.length + 1 := by omega
    subst ei
    have g : ∀ {α : Type} (a : α) (r : Nat), r ≤ xs.length → ((List.replicate (xs.length + 1) (List.replicate (ys.length + 1) a)).getD r []).length = ys.length + 1 := by
      intro α a r hr
      rw [List.getD_eq_getElem?_getD, List.getElem?_replicate, if_pos (by omega)]
      simp
    have h2 := rows_ev O (xs.length + 1) (by omega) _ _ (⟨by simp, by simp, fun r hr => g 0 r hr, fun r hr => g false r hr, fun r q hr hq h => by omega, fun r q hr hq h => by omega⟩ : TI xs ys (List.replicate (xs.length + 1) (List.replicate (ys.length + 1) 0)) (List.replicate (xs.length + 1) (List.replicate (ys.length + 1) false)) (xs.length + 1) 0)
    have e2 : ((xs.length + 1 : Nat) : Int) - 1 = (xs.length : Int) := by omega
    rw [e2] at h2
    exact h2
  | m + 1, i, h => by
    have lx := O.lx
    have ly := O.ly
    refine EvG.succ ?_
    simp only [compare_tabled.l0]
    have e1 : wrap64 ((ys.length : Int) + 1) = ((ys.length + 1 : Nat) : Int) := wn (by omega)
    rw [e1, wn (by omega), Int.toNat_natCast]
    refine EvG.pos (by omega) (EvG.pos (by omega) (EvG.pos (by omega) (EvG.pos (by simp; omega) (EvG.pos (by omega) (EvG.pos (by simp; omega) ?_)))))
    have h2 := start_ev O m (i + 1) (by omega)
    rw [List.replicate_succ' (n := i), List.replicate_succ' (n := i)] at h2
    exact h2
theorem table_ev (O : Ok xs ys) : EvG (fun k => compare_tabled.f k xs ys) (fun R => TI xs ys R.1 R.2 0 0) := by
  have lx := O.lx
  simp only [compare_tabled.f]
  have h := start_ev O (xs.length + 1) 0 (by omega)
  rw [w64 (by omega) (by omega)]
  exact h
/-! ### ways through both lists -/
inductive Path (xs ys : List S24) : Nat → Nat → List S54 → Prop
  | done : Path xs ys xs.length ys.length []
  | keep {i j l} (hi : i < xs.length) (hj : j < ys.length) (h0 : (at_ xs i).f0 = (at_ ys j).f0) (hs : SM (at_ xs i) (at_ ys j) = true) (h : Path xs ys (i + 1) (j + 1) l) : Path xs ys i j (⟨0, i, j⟩ :: l)
  | change {i j l} (hi : i < xs.length) (hj : j < ys.length) (h0 : (at_ xs i).f0 = (at_ ys j).f0) (hs : SM (at_ xs i) (at_ ys j) = false) (h : Path xs ys (i + 1) (j + 1) l) : Path xs ys i j (⟨3, i, j⟩ :: l)
  | drop {i j l} (hi : i < xs.length) (hj : j ≤ ys.length) (h : Path xs ys (i + 1) j l) : Path xs ys i j (⟨1, i, 0⟩ :: l)
  | put {i j l} (hi : i ≤ xs.length) (hj : j < ys.length) (h : Path xs ys i (j + 1) l) : Path xs ys i j (⟨2, 0, j⟩ :: l)
def cost : List S54 → Int
  | [] => 0
  | e :: l => (if e.f0 = 0 then 0 else 1) + cost l
theorem cost_nn : ∀ l, 0 ≤ cost l
  | [] => by simp [cost]
  | e :: l => by have := cost_nn l; rw [cost]; split <;> omega
theorem path_le {i j l} (p : Path xs ys i j l) : c xs ys i j ≤ cost l := by
  induction p with
  | done => rw [c_end]; simp [cost]
  | @keep i j l hi hj h0 hs h ih => rw [c_both xs ys i j hi hj, if_pos h0, if_pos hs, cost, if_pos rfl]; omega
  | @change i j l hi hj h0 hs h ih => rw [c_both xs ys i j hi hj, if_pos h0, if_neg (by rw [hs]; simp), cost, if_neg (show ¬ (3 : Int) = 0 by decide)]; omega
  | @drop i j l hi hj h ih =>
    rw [cost, if_neg (show ¬ (1 : Int) = 0 by decide)]
    by_cases hy : j < ys.length
    · have hb := c_both xs ys i j hi hy
      rw [hb]
      split
      · split <;> omega
      · omega
    · have : j = ys.length := by omega
      subst this
      rw [c_down xs ys i hi]; omega
  | @put i j l hi hj h ih =>
    rw [cost, if_neg (show ¬ (2 : Int) = 0 by decide)]
    by_cases hx : i < xs.length
    · have hb := c_both xs ys i j hx hj
      rw [hb]
      split
      · split <;> omega
      · omega
    · have : i = xs.length := by omega
      subst this
      rw [c_right xs ys j hj]; omega
theorem path_len {i j l} (p : Path xs ys i j l) : l.length + i + j ≤ xs.length + ys.length := by
  induction p with
  | done => simp
  | keep hi hj h0 hs h ih => simp only [List.length_cons]; omega
  | change hi hj h0 hs h ih => simp only [List.length_cons]; omega
  | drop hi hj h ih => simp only [List.length_cons]; omega
  | put hi hj h ih => simp only [List.length_cons]; omega
theorem path_in {i j l} (p : Path xs ys i j l) : i ≤ xs.length ∧ j ≤ ys.length := by
  cases p <;> constructor <;> omega
/-! ### the least edits -/
set_option maxHeartbeats 4000000 in
theorem least_l (O : Ok xs ys) {M S} (T : TI xs ys M S 0 0) (n : Nat) : ∀ (i j : Nat) (out : List S54), i ≤ xs.length → j ≤ ys.length → (xs.length - i) + (ys.length - j) ≤ n → out.length ≤ i + j →
    EvG (fun k => compare_Least.l0 k xs ys out (i : Int) (j : Int) M S) (fun R => ∃ l, R = (out ++ l, 0) ∧ Path xs ys i j l ∧ cost l = c xs ys i j) := by
  have lx := O.lx
  have ly := O.ly
  have cv : ∀ a b, wrap64 (1 + c xs ys a b) = 1 + c xs ys a b := fun a b => by have := c_in xs ys a b; exact w64 (by omega) (by omega)
  have lM : (M.length : Int) = (xs.length : Int) + 1 := by rw [T.lm]; omega
  have lS : (S.length : Int) = (xs.length : Int) + 1 := by rw [T.ls]; omega
  induction n with
  | zero =>
    intro i j out hi hj hn ho
    refine EvG.succ ?_
    simp only [compare_Least.l0]
    refine EvG.neg (by omega) ?_
    refine EvG.succ ?_
    simp only [compare_Least.j1]
    refine EvG.neg (by rw [decide_eq_true_eq]; omega) ?_
    have e1 : i = xs.length := by omega
    have e2 : j = ys.length := by omega
    subst e1; subst e2
    exact EvG.mk (Evl.some _) ⟨[], by simp, Path.done, by rw [c_end]; rfl⟩
  | succ n ih =>
    intro i j out hi hj hn ho
    by_cases hend : i = xs.length ∧ j = ys.length
    · exact ih i j out hi hj (by omega) ho
    have HE := Aside0.mk hend
    clear hend
    have wi1 : wrap64 ((i : Int) + 1) = ((i + 1 : Nat) : Int) := wn (by omega)
    have wj1 : wrap64 ((j : Int) + 1) = ((j + 1 : Nat) : Int) := wn (by omega)
    have wrapG : ∀ (e : S54) (i' j' : Nat), (∀ l, Path xs ys i' j' l → Path xs ys i j (e :: l)) → ((if e.f0 = 0 then (0 : Int) else 1) + c xs ys i' j' = c xs ys i j) → i' ≤ xs.length → j' ≤ ys.length → (xs.length - i') + (ys.length - j') ≤ n → out.length + 1 ≤ i' + j' →
        EvG (fun k => compare_Least.l0 k xs ys (out ++ [e]) (i' : Int) (j' : Int) M S) (fun R => ∃ l, R = (out ++ l, 0) ∧ Path xs ys i j l ∧ cost l = c xs ys i j) := by
      clear wi1 wj1
      intro e i' j' hp hc h1 h2 h3 h4
      obtain ⟨v, hv, l, rfl, hl, hcl⟩ := ih i' j' (out ++ [e]) h1 h2 h3 (by simp; omega)
      exact ⟨_, hv, e :: l, by simp, hp l hl, by rw [cost, hcl]; exact hc⟩
    have j4 : ∀ b, b = decide (i < xs.length ∧ j < ys.length ∧ (at_ xs i).f0 = (at_ ys j).f0 ∧ SM (at_ xs i) (at_ ys j) = false ∧ c xs ys i j = 1 + c xs ys (i + 1) (j + 1)) →
        ¬ (i < xs.length ∧ j < ys.length ∧ (at_ xs i).f0 = (at_ ys j).f0 ∧ SM (at_ xs i) (at_ ys j) = true ∧ c xs ys i j = c xs ys (i + 1) (j + 1)) →
        EvG (fun k => compare_Least.j4 k xs ys out (i : Int) (j : Int) (c xs ys i j) b M S) (fun R => ∃ l, R = (out ++ l, 0) ∧ Path xs ys i j l ∧ cost l = c xs ys i j) := by
      intro b hb n69
      have N69 := Aside0.mk n69
      clear n69
      refine EvG.succ ?_
      simp only [compare_Least.j4, rdL2, wi1, wj1]
      clear wi1 wj1
      by_cases h5 : i < xs.length ∧ j < ys.length ∧ (at_ xs i).f0 = (at_ ys j).f0 ∧ SM (at_ xs i) (at_ ys j) = false ∧ c xs ys i j = 1 + c xs ys (i + 1) (j + 1)
      · rw [hb, decide_eq_true h5]
        obtain ⟨h1, h2, h3, h4, h6⟩ := h5
        refine EvG.pos rfl (EvG.pos (by omega) ?_)
        exact wrapG ⟨3, i, j⟩ (i + 1) (j + 1) (fun l p => Path.change h1 h2 h3 h4 p) (by rw [if_neg (show ¬ (3 : Int) = 0 by decide)]; omega) (by omega) (by omega) (by omega) (by omega)
      · rw [hb, decide_eq_false h5]
        have H5 := Aside0.mk h5
        clear h5
        refine EvG.neg (by simp) ?_
        have put_ : ∀ (_ : j < ys.length) (_ : c xs ys i j = 1 + c xs ys i (j + 1)), EvG (fun k => compare_Least.l0 k xs ys (out ++ [(⟨2, 0, (j : Int)⟩ : S54)]) (i : Int) ((j + 1 : Nat) : Int) M S) (fun R => ∃ l, R = (out ++ l, 0) ∧ Path xs ys i j l ∧ cost l = c xs ys i j) :=
          fun h1 h2 => wrapG ⟨2, 0, j⟩ i (j + 1) (fun l p => Path.put hi h1 p) (by rw [if_neg (show ¬ (2 : Int) = 0 by decide)]; omega) (by omega) (by omega) (by omega) (by omega)
        refine EvG.ite (fun h1 => ?_) (fun h1 => ?_)
        · refine EvG.pos (by omega) (EvG.pos (by omega) (EvG.pos (by omega) (EvG.pos (by rw [T.rm (i + 1) (by omega)]; omega) ?_)))
          simp only [rdel, T.cm (i + 1) j (by omega) hj (by omega), cv]
          refine EvG.ite (fun h2 => EvG.pos (by omega) ?_) (fun h2 => EvG.pos (by omega) ?_)
          · exact wrapG ⟨1, i, 0⟩ (i + 1) j (fun l p => Path.drop (by omega) hj p) (by rw [if_neg (show ¬ (1 : Int) = 0 by decide)]; omega) (by omega) (by omega) (by omega) (by omega)
          · have hx : i < xs.length := by omega
            have hy : j < ys.length := by
              by_cases hy : j < ys.length
              · exact hy
              · have : j = ys.length := by omega
                subst this
                exact absurd (c_down xs ys i hx) h2
            refine put_ hy ?_
            have h7 := c_both xs ys i j hx hy
            by_cases h0 : (at_ xs i).f0 = (at_ ys j).f0
            · rw [if_pos h0] at h7
              cases hs : SM (at_ xs i) (at_ ys j)
              · rw [hs, if_neg (by simp)] at h7
                have : ¬ c xs ys i j = 1 + c xs ys (i + 1) (j + 1) := fun h => H5.out ⟨hx, hy, h0, hs, h⟩
                omega
              · rw [hs, if_pos rfl] at h7
                have : ¬ c xs ys i j = c xs ys (i + 1) (j + 1) := fun h => N69.out ⟨hx, hy, h0, hs, h⟩
                omega
            · rw [if_neg h0] at h7
              omega
        · have ei : i = xs.length := by omega
          have hy : j < ys.length := by have := HE.out; omega
          refine EvG.pos (by omega) (put_ hy ?_)
          have := c_right xs ys j hy
          rw [← ei] at this
          exact this
    have j3 : ∀ b t, b = decide (i < xs.length ∧ j < ys.length ∧ (at_ xs i).f0 = (at_ ys j).f0) → t = decide (i < xs.length ∧ j < ys.length ∧ (at_ xs i).f0 = (at_ ys j).f0 ∧ SM (at_ xs i) (at_ ys j) = true ∧ c xs ys i j = c xs ys (i + 1) (j + 1)) →
        EvG (fun k => compare_Least.j3 k xs ys out (i : Int) (j : Int) b (c xs ys i j) t M S) (fun R => ∃ l, R = (out ++ l, 0) ∧ Path xs ys i j l ∧ cost l = c xs ys i j) := by
      intro b t hb ht
      refine EvG.succ ?_
      simp only [compare_Least.j3, rdL2, rdL7, rdeb, wi1, wj1]
      clear wi1 wj1
      by_cases h5 : i < xs.length ∧ j < ys.length ∧ (at_ xs i).f0 = (at_ ys j).f0 ∧ SM (at_ xs i) (at_ ys j) = true ∧ c xs ys i j = c xs ys (i + 1) (j + 1)
      · rw [ht, decide_eq_true h5]
        obtain ⟨h1, h2, h3, h4, h6⟩ := h5
        refine EvG.pos rfl (EvG.pos (by omega) ?_)
        exact wrapG ⟨0, i, j⟩ (i + 1) (j + 1) (fun l p => Path.keep h1 h2 h3 h4 p) (by rw [if_pos rfl]; omega) (by omega) (by omega) (by omega) (by omega)
      · rw [ht, decide_eq_false h5]
        have H5 := Aside0.mk h5
        clear h5
        refine EvG.neg (by simp) ?_
        by_cases h6 : i < xs.length ∧ j < ys.length ∧ (at_ xs i).f0 = (at_ ys j).f0
        · rw [hb, decide_eq_true h6]
          obtain ⟨h1, h2, h3⟩ := h6
          refine EvG.pos rfl (EvG.pos (by omega) (EvG.pos (by omega) (EvG.pos (by omega) (EvG.pos (by rw [T.rs i hi]; omega) ?_))))
          rw [T.cs i j h1 h2 (by omega) h3]
          refine EvG.ite (fun h4 => j4 _ (by rw [decide_eq_false (fun h => by rw [h4] at h; simp at h)]) H5.out) (fun h4 => ?_)
          refine EvG.pos (by omega) (EvG.pos (by omega) (EvG.pos (by omega) (EvG.pos (by rw [T.rm (i + 1) (by omega)]; omega) ?_)))
          simp only [rdel, T.cm (i + 1) (j + 1) (by omega) (by omega) (by omega), cv]
          refine j4 _ ?_ H5.out
          by_cases h7 : c xs ys i j = 1 + c xs ys (i + 1) (j + 1)
          · rw [decide_eq_true ⟨h1, h2, h3, Bool.eq_false_iff.mpr h4, h7⟩]; exact beq_iff_eq.mpr h7
          · rw [decide_eq_false (fun h => h7 h.2.2.2.2)]; exact beq_eq_false_iff_ne.mpr h7
        · rw [hb, decide_eq_false h6]
          refine EvG.neg (by simp) (j4 _ (by rw [decide_eq_false (fun h => h6 ⟨h.1, h.2.1, h.2.2.1⟩)]) H5.out)
    have j2 : ∀ b, b = decide (i < xs.length ∧ j < ys.length ∧ (at_ xs i).f0 = (at_ ys j).f0) →
        EvG (fun k => compare_Least.j2 k xs ys out (i : Int) (j : Int) b M S) (fun R => ∃ l, R = (out ++ l, 0) ∧ Path xs ys i j l ∧ cost l = c xs ys i j) := by
      intro b hb
      refine EvG.succ ?_
      simp only [compare_Least.j2, rdL2, rdL7, rdeb, rdel, wi1, wj1]
      clear wi1 wj1
      rw [T.cm i j hi hj (by omega)]
      refine EvG.pos (by omega) (EvG.pos (by omega) (EvG.pos (by omega) (EvG.pos (by rw [T.rm i hi]; omega) ?_)))
      by_cases h6 : i < xs.length ∧ j < ys.length ∧ (at_ xs i).f0 = (at_ ys j).f0
      · obtain ⟨h1, h2, h3⟩ := h6
        have hb2 : b = true := by rw [hb]; exact decide_eq_true ⟨h1, h2, h3⟩
        refine EvG.pos hb2 (EvG.pos (by omega) (EvG.pos (by rw [T.rs i hi]; omega) ?_))
        rw [T.cs i j h1 h2 (by omega) h3]
        refine EvG.ite (fun h4 => ?_) (fun h4 => j3 b _ hb (by rw [decide_eq_false (fun h => h4 h.2.2.2.1)]))
        refine EvG.pos (by omega) (EvG.pos (by omega) (EvG.pos (by omega) (EvG.pos (by rw [T.rm (i + 1) (by omega)]; omega) ?_)))
        rw [T.cm (i + 1) (j + 1) (by omega) (by omega) (by omega)]
        refine j3 b _ hb ?_
        by_cases h7 : c xs ys i j = c xs ys (i + 1) (j + 1)
        · rw [decide_eq_true ⟨h1, h2, h3, h4, h7⟩]; exact beq_iff_eq.mpr h7
        · rw [decide_eq_false (fun h => h7 h.2.2.2.2)]; exact beq_eq_false_iff_ne.mpr h7
      · have hb2 : ¬ b = true := by rw [hb, decide_eq_false h6]; simp
        exact EvG.neg hb2 (j3 b _ hb (by rw [decide_eq_false (fun h => h6 ⟨h.1, h.2.1, h.2.2.1⟩)]))
    have j1 : EvG (fun k => compare_Least.j1 k xs ys out (i : Int) (j : Int) true M S) (fun R => ∃ l, R = (out ++ l, 0) ∧ Path xs ys i j l ∧ cost l = c xs ys i j) := by
      refine EvG.succ ?_
      simp only [compare_Least.j1, rd_at]
      clear wi1 wj1
      refine EvG.pos trivial ?_
      refine EvG.ite (fun h1 => ?_) (fun h1 => j2 _ (by rw [decide_eq_false]; omega))
      refine EvG.ite (fun h2 => ?_) (fun h2 => j2 _ (by rw [decide_eq_false]; omega))
      refine EvG.pos (by omega) (EvG.pos (by omega) (j2 _ ?_))
      by_cases h3 : (at_ xs i).f0 = (at_ ys j).f0
      · rw [decide_eq_true ⟨by omega, by omega, h3⟩]; exact beq_iff_eq.mpr h3
      · rw [decide_eq_false (fun h => h3 h.2.2)]; exact beq_eq_false_iff_ne.mpr h3
    refine EvG.succ ?_
    simp only [compare_Least.l0]
    clear wi1 wj1
    refine EvG.ite (fun h1 => j1) (fun h1 => ?_)
    rw [decide_eq_true (by have := HE.out; omega)]
    exact j1
theorem least_ev (O : Ok xs ys) : EvG (fun k => compare_Least.f k xs ys) (fun R => ∃ l, R = (l, 0) ∧ Path xs ys 0 0 l ∧ cost l = c xs ys 0 0) := by
  have lx := O.lx
  have ly := O.ly
  simp only [compare_Least.f, mx_eq]
  refine EvG.neg (by omega) ?_
  obtain ⟨⟨M, S⟩, h, T⟩ := table_ev O
  refine EvG.bind h ?_
  have h2 := least_l O T _ 0 0 [] (by omega) (by omega) (Nat.le_refl _) (by simp)
  exact h2
end
end Go.Proofs.Ytgjmljjnminefaa.LeastCompareBetter
