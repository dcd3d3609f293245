/- The document's patterns, values and points: the same as hyphen's. -/
import Derived.Test.YtegcelmjejhnfaaDoorQHyx12
import Derived.Test.YtegcelmjejhnfaaDoorVals9Hy
namespace Go.Proofs.YtegcelmjejhnfaaDoor.Ref9
open Go.RowKit Go.Proofs.YtegcelmjejhnfaaDoor.QHy Go.Proofs.YtegcelmjejhnfaaDoorW.PrintWords Go.Proofs.YtegcelmjejhnfaaDoorW.PrintLast Go.Proofs.YtegcelmjejhnfaaDoorW.PrintMore Go.Proofs.YtegcelmjejhnfaaDoorN Go.Proofs.YtegcelmjejhnfaaDoor.Evl Go.Proofs.YtegcelmjejhnfaaDoor.Str Go.Proofs.YtegcelmjejhnfaaDoor.Words9 Go.Proofs.YtegcelmjejhnfaaDoor.Read9 Go.Proofs.YtegcelmjejhnfaaDoor.Vals9
set_option linter.unusedVariables false
/-- split's answer agrees with read's. -/
def Agrees (q : List UInt8 × List Int × Bool) (r : ByteArray × List Int × Bool) : Prop := r.2.2 = q.2.2 ∧ (q.2.2 = true → r = mk3 q)
theorem agrees_no {q : List UInt8 × List Int × Bool} (h : q.2.2 = false) (a : ByteArray) (l : List Int) : Agrees q (a, l, false) := ⟨h.symm, fun e => by rw [h] at e; cases e⟩
theorem dot_second (c : UInt8) (l : List UInt8) (hc : dg c = true) (e : Int) (he : e = 0) : (rdL true (c :: 46 :: l) [] [] e 0).2.2 = false := by
  subst he
  rw [rdL, if_pos hc, if_neg (by omega), rdL, if_neg (by decide), if_neg (by decide)]
  split
  · rename_i h
    rcases h.2 with h | h
    · cases h
    · subst h
      rw [rdL]
      rfl
  · rfl
theorem rsmall_ev (c : UInt8) : frisketref09_small.f (c.toNat : Int) = some (sm c) := small_ev c
theorem split_l (L : List UInt8) (hL : L.length < 8796093022208) : ∀ (m i n : Nat) (d : Int) (t : List UInt8) (v : List Int), i + m = L.length → t.length ≤ i → v.length ≤ i → n ≤ i → 0 ≤ d → (i = 0 → t = [] ∧ v = [] ∧ n = 0 ∧ d = 0) → (∀ h : i - 1 < L.length, 1 < i → i < L.length → L[i - 1] ≠ 46) →
    EvG (fun k => frisketref09_split.l0 k (mkB L) (mkB t) (v ++ [d]) (n : Int) (i : Int)) (Agrees (rdL (decide (i = 0)) (L.drop i) t v d n))
  | 0, i, n, d, t, v, e, ht, hv, hn, hd, h0, hprev => by
    refine EvG.succ ?_
    simp only [frisketref09_split.l0, size_mkB]
    refine EvG.neg (by omega) ?_
    rw [List.drop_eq_nil_of_le (by omega), rdL]
    refine EvG.ite (fun c => ⟨_, Evl.some _, ?_⟩) (fun c => ⟨_, Evl.some _, ?_⟩)
    · rw [show decide (1 ≤ n ∧ n ≤ 15) = decide ((n : Int) ≤ 15) from decide_eq_decide.2 (by omega)]
      exact ⟨rfl, fun _ => rfl⟩
    · exact agrees_no (decide_eq_false (by omega)) _ _
  | m + 1, i, n, d, t, v, e, ht, hv, hn, hd, h0, hprev => by
    have hi : i < L.length := by omega
    obtain ⟨c, hc⟩ : ∃ c, L[i] = c := ⟨_, rfl⟩
    have hb := bt_mkB L i hi
    rw [hc] at hb
    have hx : (mkB L).extract ((i : Int)).toNat (((i + 1 : Nat) : Int)).toNat = mkB [c] := by
      have := ext_drop (l := L) (i := i) (u := [c]) (t := L.drop (i + 1)) (by rw [List.drop_eq_getElem_cons hi, hc]; rfl)
      simpa using this
    have hdrop : L.drop i = c :: L.drop (i + 1) := by rw [List.drop_eq_getElem_cons hi, hc]
    have e1 : wrap64 (((v ++ [d]).length : Int) - 1) = (v.length : Int) := by
      rw [List.length_append, List.length_singleton, w64 (by omega) (by omega)]; omega
    have e2 : rd (v ++ [d]) (v.length : Int) = d := by
      rw [rd_lt _ _ (by simp)]
      simp
    -- a digit is taken
    have digit : dg c = true → d = 0 → EvG (fun k => if 0 ≤ (i : Int) then (if (i : Int) < (L.length : Int) then (frisketref09_split.l0 k (mkB L) (mkB t) ((v ++ [d]).set (v.length : Int).toNat (((c.toNat : Int) - 48) % 256)) (n : Int) ((i + 1 : Nat) : Int)) else none) else none) (Agrees (rdL (decide (i = 0)) (L.drop i) t v d n)) := by
      intro h1 h2
      have hdg : 49 ≤ c.toNat ∧ c.toNat ≤ 57 := of_decide_eq_true h1
      refine EvG.pos (by omega) (EvG.pos (by omega) ?_)
      rw [Int.toNat_natCast, show (v ++ [d]).set v.length (((c.toNat : Int) - 48) % 256) = v ++ [(c.toNat : Int) - 48] by
        rw [List.set_append_right _ _ (Nat.le_refl _), Nat.sub_self, List.set_cons_zero, show ((c.toNat : Int) - 48) % 256 = (c.toNat : Int) - 48 by omega]]
      have ih := split_l L hL m (i + 1) n ((c.toNat : Int) - 48) t v (by omega) (by omega) (by omega) (by omega) (by omega) (fun h => by omega) (fun h h1 h2 => by
        simp only [Nat.add_sub_cancel]
        rw [hc]
        rintro rfl
        exact absurd hdg (by decide))
      rw [decide_eq_false (by omega : ¬ i + 1 = 0)] at ih
      rw [hdrop, rdL, if_pos h1, if_neg (by omega)]
      exact ih
    -- a letter or a point is taken
    have take : ∀ n2 : Nat, n2 ≤ n + 1 → (c = 46 → i = 0 ∨ i + 1 = L.length) → rdL (decide (i = 0)) (L.drop i) t v d n = rdL false (L.drop (i + 1)) (t ++ [c]) (v ++ [d]) 0 n2 →
        EvG (fun k => if (i : Int) ≤ ((i + 1 : Nat) : Int) then (if ((i + 1 : Nat) : Int) ≤ (L.length : Int) then (if t.length + (mkB [c]).size ≤ 9223372036854775807 then (if (v ++ [d]).length < 17592186044416 then (frisketref09_split.l0 k (mkB L) (mkB (t ++ [c])) ((v ++ [d]) ++ [0]) (n2 : Int) ((i + 1 : Nat) : Int)) else none) else none) else none) else none) (Agrees (rdL (decide (i = 0)) (L.drop i) t v d n)) := by
      intro n2 hn2 h46 hr
      refine EvG.pos (by omega) (EvG.pos (by omega) (EvG.pos (by rw [size_mkB]; simp; omega) (EvG.pos (by simp; omega) ?_)))
      have ih := split_l L hL m (i + 1) n2 0 (t ++ [c]) (v ++ [d]) (by omega) (by simp; omega) (by simp; omega) (by omega) (by omega) (fun h => by omega) (fun h h1 h2 => by
        simp only [Nat.add_sub_cancel]
        rw [hc]
        intro h3
        rcases h46 h3 with h4 | h4 <;> omega)
      rw [decide_eq_false (by omega : ¬ i + 1 = 0)] at ih
      rw [hr]
      exact ih
    have bad : rdL (decide (i = 0)) (L.drop i) t v d n = (t, v, false) → EvG (fun _ => (some ((⟨#[]⟩ : ByteArray), ([] : List Int), false))) (Agrees (rdL (decide (i = 0)) (L.drop i) t v d n)) := by
      intro h
      exact ⟨_, Evl.some _, agrees_no (by rw [h]) _ _⟩
    have j1t : dg c = true → EvG (fun k => frisketref09_split.j1 k (mkB L) (mkB t) (v ++ [d]) (n : Int) (i : Int) true) (Agrees (rdL (decide (i = 0)) (L.drop i) t v d n)) := by
      intro h1
      refine EvG.succ ?_
      simp only [frisketref09_split.j1, size_mkB, hb, e1, e2, toList_mkB, if_true]
      rw [wn (by omega)]
      refine EvG.pos (by omega) (EvG.pos (by simp; omega) ?_)
      have prev : t ≠ [] → EvG (fun k => if (i : Int) > 0 then (if 0 ≤ (wrap64 ((i : Int) - 1)) then (if (wrap64 ((i : Int) - 1)) < (L.length : Int) then (if (bt (mkB L) (wrap64 ((i : Int) - 1))) = 46 then (if (i : Int) > 1 then (some ((⟨#[]⟩ : ByteArray), ([] : List Int), false)) else (if 0 ≤ (i : Int) then (if (i : Int) < (L.length : Int) then (frisketref09_split.l0 k (mkB L) (mkB t) ((v ++ [d]).set (v.length : Int).toNat (((c.toNat : Int) - 48) % 256)) (n : Int) ((i + 1 : Nat) : Int)) else none) else none)) else (if 0 ≤ (i : Int) then (if (i : Int) < (L.length : Int) then (frisketref09_split.l0 k (mkB L) (mkB t) ((v ++ [d]).set (v.length : Int).toNat (((c.toNat : Int) - 48) % 256)) (n : Int) ((i + 1 : Nat) : Int)) else none) else none)) else none) else none) else (if 0 ≤ (i : Int) then (if (i : Int) < (L.length : Int) then (frisketref09_split.l0 k (mkB L) (mkB t) ((v ++ [d]).set (v.length : Int).toNat (((c.toNat : Int) - 48) % 256)) (n : Int) ((i + 1 : Nat) : Int)) else none) else none)) (Agrees (rdL (decide (i = 0)) (L.drop i) t v d n)) ∨ d ≠ 0 := by
        intro htne
        by_cases hd0 : d = 0
        · refine Or.inl (EvG.ite (fun h2 => ?_) (fun h2 => digit h1 hd0))
          have e3 : wrap64 ((i : Int) - 1) = ((i - 1 : Nat) : Int) := by rw [w64 (by omega) (by omega)]; omega
          rw [e3, bt_mkB L (i - 1) (by omega)]
          refine EvG.pos (by omega) (EvG.pos (by omega) (EvG.ite (fun h3 => EvG.ite (fun h4 => ?_) (fun h4 => digit h1 hd0)) (fun h3 => digit h1 hd0)))
          have hb46 : ((L[i - 1].toNat : Int) = 46) ↔ L[i - 1] = 46 := b_eq (n := 46) (by decide)
          exact absurd (hb46.1 h3) (hprev (by omega) (by omega) hi)
        · exact Or.inr hd0
      refine EvG.ite (fun hd0 => ?_) (fun hd0 => ?_)
      · refine EvG.ite (fun hi0 => ?_) (fun hi0 => ?_)
        · refine EvG.ite (fun hl => EvG.pos hl (EvG.ite (fun h46 => ?_) (fun h46 => ?_))) (fun hl => ?_)
          · have hi00 : i = 0 := by omega
            subst hi00
            obtain ⟨rfl, rfl, rfl, rfl⟩ := h0 rfl
            have hb1 := bt_mkB L 1 (by omega)
            have h46' : L[1] = 46 := (b_eq (n := 46) (by decide)).1 (hb1.symm.trans h46)
            refine ⟨_, Evl.some _, agrees_no ?_ _ _⟩
            rw [hdrop, List.drop_eq_getElem_cons (by omega : 0 + 1 < L.length)]
            have : L[0 + 1] = 46 := h46'
            rw [this]
            exact dot_second c _ h1 0 rfl
          · refine EvG.ite (fun ht0 => digit h1 hd0) (fun ht0 => ?_)
            rcases prev ht0 with h | h
            · exact h
            · exact absurd hd0 h
          · refine EvG.ite (fun ht0 => digit h1 hd0) (fun ht0 => ?_)
            rcases prev ht0 with h | h
            · exact h
            · exact absurd hd0 h
        · refine EvG.ite (fun ht0 => digit h1 hd0) (fun ht0 => ?_)
          rcases prev ht0 with h | h
          · exact h
          · exact absurd hd0 h
      · exact bad (by rw [hdrop, rdL, if_pos h1, if_pos (by omega)])
    have j1f : dg c = false → EvG (fun k => frisketref09_split.j1 k (mkB L) (mkB t) (v ++ [d]) (n : Int) (i : Int) false) (Agrees (rdL (decide (i = 0)) (L.drop i) t v d n)) := by
      intro h1
      have h1' : ¬ dg c = true := by rw [h1]; simp
      refine EvG.succ ?_
      simp only [frisketref09_split.j1, size_mkB, hb, rsmall_ev, Option.bind_some, Bool.false_eq_true, if_false]
      rw [wn (by omega), hx, append_mkB]
      refine EvG.pos (by omega) (EvG.pos (by omega) ?_)
      have hb46 : ((c.toNat : Int) = 46) ↔ c = 46 := b_eq (n := 46) (by decide)
      refine EvG.ite (fun h2 => ?_) (fun h2 => ?_)
      · rw [wn (by omega)]
        refine take (n + 1) (Nat.le_refl _) (fun h3 => ?_) (by rw [hdrop, rdL, if_neg h1', if_pos h2])
        rw [h3] at h2
        exact absurd h2 (by decide)
      · refine EvG.ite (fun h3 => ?_) (fun h3 => ?_)
        · have h46 := hb46.1 h3
          refine EvG.ite (fun h4 => ?_) (fun h4 => ?_)
          · exact take n (by omega) (fun _ => Or.inl (by omega)) (by rw [hdrop, rdL, if_neg h1', if_neg h2, if_pos ⟨h46, Or.inl (decide_eq_true (by omega))⟩])
          · rw [w64 (x := (L.length : Int) - 1) (by omega) (by omega)]
            refine EvG.ite (fun h5 => ?_) (fun h5 => ?_)
            · exact take n (by omega) (fun _ => Or.inr (by omega)) (by rw [hdrop, rdL, if_neg h1', if_neg h2, if_pos ⟨h46, Or.inr (List.drop_eq_nil_of_le (by omega))⟩])
            · refine bad ?_
              have hne : L.drop (i + 1) ≠ [] := fun e => by
                have := congrArg List.length e
                rw [List.length_drop, List.length_nil] at this
                omega
              rw [hdrop, rdL, if_neg h1', if_neg h2, if_neg (fun hh => hh.2.elim (fun h6 => h4 (by have := of_decide_eq_true h6; omega)) hne)]
        · exact bad (by rw [hdrop, rdL, if_neg h1', if_neg h2, if_neg (fun hh => h3 (hb46.2 hh.1))])
    refine EvG.succ ?_
    simp only [frisketref09_split.l0, size_mkB, hb]
    refine EvG.pos (by omega) (EvG.pos (by omega) ?_)
    have key : dg c = decide (49 ≤ c.toNat ∧ c.toNat ≤ 57) := rfl
    refine EvG.ite (fun h => ?_) (fun h => ?_)
    · by_cases h2 : (c.toNat : Int) ≤ 57
      · rw [decide_eq_true h2]
        exact j1t (decide_eq_true (by omega))
      · rw [decide_eq_false h2]
        exact j1f (decide_eq_false (by omega))
    · exact j1f (decide_eq_false (by omega))
theorem split_ev (L : List UInt8) (hL : L.length < 8796093022208) : EvG (fun k => frisketref09_split.f k (mkB L)) (Agrees (rdp L)) := by
  have := split_l L hL L.length 0 0 0 [] [] (by omega) (Nat.le_refl _) (Nat.le_refl _) (Nat.le_refl _) (Int.le_refl _) (fun _ => ⟨rfl, rfl, rfl, rfl⟩) (fun h h1 h2 => by omega)
  simp only [frisketref09_split.f]
  exact this
theorem split_ok (L : List UInt8) (hL : L.length < 8796093022208) (h : okP L = true) : Evl (fun k => frisketref09_split.f k (mkB L)) (mk3 (rdp L)) := by
  obtain ⟨r, hr, _, h2⟩ := split_ev L hL
  rw [h2 h] at hr
  exact hr
theorem pattern_ev (L : List UInt8) (hL : L.length < 8796093022208) : Evl (fun k => frisketref09_Pattern.f k (mkB L)) (okP L) := by
  obtain ⟨r, hr, h1, _⟩ := split_ev L hL
  simp only [frisketref09_Pattern.f]
  have := Evl.bind hr (g := fun _ bt => some bt.2.2) (Evl.some r.2.2)
  rw [h1] at this
  exact this
/-! ### check -/
def okX (x : List UInt8) : Bool := E true x && decide (1 ≤ (noD x).length ∧ (noD x).length ≤ 60)
def Brief (X : List (List UInt8)) : Prop := ∀ x ∈ X, x.length < 2000000
theorem except_ev (x : List UInt8) (hx : x.length < 2000000) : Evl (fun k => frisketref09_Exception.f k (mkB x)) (okX x) := by
  have h := exc_l x hx x.length 0 0 true (by omega) (by omega) ⟨fun _ => Or.inl rfl, fun _ => rfl⟩ (fun _ => Or.inr rfl)
  rw [List.drop_zero, Nat.zero_add] at h
  simp only [frisketref09_Exception.f]
  exact h
theorem rdOf_map (P : List (List UInt8)) (i : Nat) (hi : i < P.length) : rdOf ByteArray.empty (P.map mkB) (i : Int) = mkB P[i] := by
  unfold rdOf
  rw [Int.toNat_natCast, List.getD_eq_getElem?_getD, List.getElem?_map, List.getElem?_eq_getElem hi]
  rfl
theorem check_l1 (X : List (List UInt8)) (hX : X.length ≤ 2000) (hB : Brief X) : ∀ (m i : Nat), i + m = X.length → Evl (fun k => frisketref09_check.l1 k (X.map mkB) (i : Int)) (if (X.drop i).all okX = true then 0 else 4)
  | 0, i, e => by
    refine Evl.succ ?_
    simp only [frisketref09_check.l1, List.length_map]
    rw [List.drop_eq_nil_of_le (by omega)]
    exact Evl.neg (by omega) (Evl.some _)
  | m + 1, i, e => by
    have hi : i < X.length := by omega
    refine Evl.succ ?_
    simp only [frisketref09_check.l1, List.length_map, rdOf_map X i hi]
    rw [List.drop_eq_getElem_cons hi, List.all_cons, wn (by omega)]
    refine Evl.pos (by omega) (Evl.pos (by omega) (Evl.bind (except_ev _ (hB _ (List.getElem_mem hi))) (Evl.ite (fun c => ?_) (fun c => ?_))))
    · rw [c, Bool.true_and]
      exact check_l1 X hX hB m (i + 1) (by omega)
    · rw [if_neg (by simp [c])]
      exact Evl.some _
theorem check_l0 (P X : List (List UInt8)) (hP : P.length ≤ 2000) (hS : Small P) (hX : X.length ≤ 2000) (hB : Brief X) : ∀ (m i : Nat), i + m = P.length → Evl (fun k => frisketref09_check.l0 k (P.map mkB) (X.map mkB) (i : Int)) (if (P.drop i).all okP = true then (if X.all okX = true then 0 else 4) else 4)
  | 0, i, e => by
    refine Evl.succ ?_
    simp only [frisketref09_check.l0, List.length_map]
    rw [List.drop_eq_nil_of_le (by omega)]
    exact Evl.neg (by omega) (check_l1 X hX hB X.length 0 (by omega))
  | m + 1, i, e => by
    have hi : i < P.length := by omega
    refine Evl.succ ?_
    simp only [frisketref09_check.l0, List.length_map, rdOf_map P i hi]
    rw [List.drop_eq_getElem_cons hi, List.all_cons, wn (by omega)]
    refine Evl.pos (by omega) (Evl.pos (by omega) (Evl.bind (pattern_ev _ (hS _ (List.getElem_mem hi))) (Evl.ite (fun c => ?_) (fun c => ?_))))
    · rw [c, Bool.true_and]
      exact check_l0 P X hP hS hX hB m (i + 1) (by omega)
    · rw [if_neg (by simp [c])]
      exact Evl.some _
theorem check_ev (P X : List (List UInt8)) (hP : P.length ≤ 2000) (hS : Small P) (hX : X.length ≤ 2000) (hB : Brief X) : Evl (fun k => frisketref09_check.f k (P.map mkB) (X.map mkB)) (if P.all okP = true then (if X.all okX = true then 0 else 4) else 4) := by
  simp only [frisketref09_check.f, List.length_map]
  refine Evl.neg (by omega) (Evl.succ ?_)
  simp only [frisketref09_check.j0]
  refine Evl.neg (by simp; omega) ?_
  exact check_l0 P X hP hS hX hB P.length 0 (by omega)
/-! ### values -/
section
variable (F : List UInt8) (hF : F.length < 1000)
theorem rval_l2 (x0 : ByteArray) (X : List ByteArray) (xi : Int) (x8 : ByteArray) (V : List Int) (at_ : Nat) {G : List Int} : ∀ (m j : Nat) (all : List Int), j + m = V.length → at_ + V.length ≤ all.length → all.length < 10000 →
    Evl (fun k => frisketref09_values.l1 k x0 X (mkB F) (upd all (at_ + j) (V.drop j)) xi x8 V ((at_ + 1 : Nat) : Int)) G →
    Evl (fun k => frisketref09_values.l2 k x0 X (mkB F) all xi x8 V (at_ : Int) (j : Int)) G
  | 0, j, all, e, ha, hb, h => by
    refine Evl.succ ?_
    simp only [frisketref09_values.l2]
    refine Evl.neg (by omega) ?_
    rw [List.drop_eq_nil_of_le (by omega), upd] at h
    rw [wn (by omega)]
    exact h
  | m + 1, j, all, e, ha, hb, h => by
    have hj : j < V.length := by omega
    refine Evl.succ ?_
    simp only [frisketref09_values.l2]
    have e1 : wrap64 ((at_ : Int) + (j : Int)) = ((at_ + j : Nat) : Int) := by rw [w64 (by omega) (by omega)]; omega
    rw [e1, wn (by omega), Int.toNat_natCast]
    refine Evl.pos (by omega) (Evl.pos (by omega) (Evl.pos (by omega) (Evl.pos (by omega) ?_)))
    rw [List.drop_eq_getElem_cons hj, upd, ← rd_lt V j hj] at h
    exact rval_l2 x0 X xi x8 V at_ m (j + 1) _ (by omega) (by rw [List.length_set]; omega) (by rw [List.length_set]; omega) h
include hF in
theorem rval_l1 (x0 : ByteArray) (X : List ByteArray) (xi : Nat) (hxi : xi < 100000) (T : List UInt8) (V : List Int) (hV : V.length = T.length + 1) (hT : T.length < 8796093022208) {G : List Int} : ∀ (m at_ : Nat) (all : List Int), at_ + m = F.length + 1 - T.length → all.length = F.length + 1 →
    Evl (fun k => frisketref09_values.l0 k x0 X (mkB F) (scan F T V m at_ all) ((xi + 1 : Nat) : Int)) G →
    Evl (fun k => frisketref09_values.l1 k x0 X (mkB F) all (xi : Int) (mkB T) V (at_ : Int)) G
  | 0, at_, all, e, ha, h => by
    refine Evl.succ ?_
    simp only [frisketref09_values.l1, size_mkB]
    rw [w64 (x := (at_ : Int) + (T.length : Int)) (by omega) (by omega), wn (i := xi) (by omega)]
    exact Evl.neg (by omega) h
  | m + 1, at_, all, e, ha, h => by
    refine Evl.succ ?_
    simp only [frisketref09_values.l1, size_mkB]
    rw [w64 (x := (at_ : Int) + (T.length : Int)) (by omega) (by omega), wn (i := at_) (by omega)]
    refine Evl.pos (by omega) (Evl.pos (by omega) (Evl.pos (by omega) ?_))
    have ex : (mkB F).extract ((at_ : Int)).toNat ((at_ : Int) + (T.length : Int)).toNat = mkB ((F.drop at_).take T.length) := by
      rw [extract_mkB, Int.toNat_natCast, show ((at_ : Int) + (T.length : Int)).toNat = at_ + T.length by omega, List.drop_take, Nat.add_sub_cancel_left]
    rw [ex, toList_mkB, toList_mkB]
    rw [scan] at h
    refine Evl.ite (fun c => ?_) (fun c => ?_)
    · rw [if_pos c] at h
      refine rval_l2 F x0 X (xi : Int) (mkB T) V at_ V.length 0 all (by omega) (by omega) (by omega) ?_
      exact rval_l1 x0 X xi hxi T V hV hT m (at_ + 1) _ (by omega) (by rw [upd_len]; exact ha) h
    · rw [if_neg c] at h
      exact rval_l1 x0 X xi hxi T V hV hT m (at_ + 1) _ (by omega) ha h
include hF in
theorem rval_l0 (W : List UInt8) (hW : F.length = W.length + 2) (P : List (List UInt8)) (hP : P.length < 100000) (hS : Small P) (hok : P.all okP = true) : ∀ (m i : Nat) (all : List Int), i + m = P.length → all.length = F.length + 1 →
    Evl (fun k => frisketref09_values.l0 k (mkB W) (P.map mkB) (mkB F) all (i : Int)) (((vals F ((P.drop i).map pair) all).take (W.length + 2)).drop 1)
  | 0, i, all, e, ha => by
    refine Evl.succ ?_
    simp only [frisketref09_values.l0, size_mkB, List.length_map]
    rw [(List.drop_eq_nil_of_le (by omega) : P.drop i = []), List.map_nil, vals, w64 (x := (W.length : Int) + 2) (by omega) (by omega)]
    refine Evl.neg (by omega) (Evl.pos (by omega) (Evl.pos (by omega) ?_))
    rw [show ((W.length : Int) + 2).toNat = W.length + 2 by omega]
    exact Evl.some _
  | m + 1, i, all, e, ha => by
    have hi : i < P.length := by omega
    rw [List.drop_eq_getElem_cons hi, List.map_cons, vals]
    have hs := hS _ (List.getElem_mem hi)
    have ho := List.all_eq_true.1 hok _ (List.getElem_mem hi)
    obtain ⟨h1, h2⟩ := pair_fit hs ho
    refine Evl.succ ?_
    simp only [frisketref09_values.l0, List.length_map, rdOf_map P i hi]
    refine Evl.pos (by omega) (Evl.pos (by omega) (Evl.bind (split_ok _ hs ho) ?_))
    refine rval_l1 F hF (mkB W) _ i (by omega) (pair P[i]).1 (pair P[i]).2 h1 h2 (F.length + 1 - (pair P[i]).1.length) 0 all (by omega) ha ?_
    exact rval_l0 W hW P hP hS hok m (i + 1) _ (by omega) (by rw [scan_len]; exact ha)
end
theorem rvalues_ev (W : List UInt8) (hW : W.length ≤ 60) (P : List (List UInt8)) (hP : P.length < 100000) (hS : Small P) (hok : P.all okP = true) : Evl (fun k => frisketref09_values.f k (mkB W) (P.map mkB)) (vOf9 W (P.map pair)) := by
  have eF : ((⟨#[46]⟩ : ByteArray) ++ mkB W) ++ (⟨#[46]⟩ : ByteArray) = mkB (frame W) := by
    show (mkB [46] ++ mkB W) ++ mkB [46] = _
    rw [append_mkB, append_mkB]
    rfl
  have e2 : ((⟨#[46]⟩ : ByteArray) ++ mkB W).size = W.length + 1 := by
    show (mkB [46] ++ mkB W).size = _
    rw [append_mkB, size_mkB]
    simp
  simp only [frisketref09_values.f, eF, e2, size_mkB]
  have fl := frame_len W
  rw [w64 (x := ((frame W).length : Int) + 1) (by omega) (by omega)]
  refine Evl.pos (by omega) (Evl.pos (by omega) (Evl.pos (by omega) (Evl.pos (by omega) ?_)))
  rw [show (((frame W).length : Int) + 1).toNat = W.length + 3 by omega]
  exact rval_l0 (frame W) (by omega) W fl P hP hS hok P.length 0 _ (by omega) (by rw [List.length_replicate]; omega)
/-! ### points -/
def filt (x y n : Int) (l : List Int) : List Int := l.filter fun p => decide (p ≥ x) && decide (n - p ≥ y)
theorem filt_sel (V : List Int) (n x y : Nat) (hx : 1 ≤ x) (hy : 1 ≤ y) : ∀ (m i : Nat), i + m = n → filt x y n (sel V m i) = sel V (n + 1 - y - max i x) (max i x)
  | 0, i, e => by rw [sel, show n + 1 - y - max i x = 0 by omega, sel]; rfl
  | m + 1, i, e => by
    have ih := filt_sel V n x y hx hy m (i + 1) (by omega)
    by_cases h1 : i < x
    · have e1 : max (i + 1) x = max i x := by omega
      rw [e1] at ih
      rw [sel]
      split
      · unfold filt
        rw [List.filter_cons_of_neg (by rw [decide_eq_false (by omega : ¬ (i : Int) ≥ (x : Int))]; simp)]
        exact ih
      · exact ih
    · have e1 : max (i + 1) x = i + 1 := by omega
      have e2 : max i x = i := by omega
      rw [e1] at ih
      rw [e2]
      by_cases h2 : y ≤ n - i
      · rw [show n + 1 - y - i = (n + 1 - y - (i + 1)) + 1 by omega, sel, sel]
        split
        · unfold filt at ih ⊢
          rw [List.filter_cons_of_pos (by rw [decide_eq_true (by omega : (i : Int) ≥ (x : Int)), decide_eq_true (by omega : (n : Int) - (i : Int) ≥ (y : Int))]; rfl), ih]
        · exact ih
      · rw [show n + 1 - y - i = 0 by omega, sel]
        rw [show n + 1 - y - (i + 1) = 0 by omega, sel] at ih
        rw [sel]
        split
        · unfold filt at ih ⊢
          rw [List.filter_cons_of_neg (by rw [decide_eq_false (by omega : ¬ (n : Int) - (i : Int) ≥ (y : Int))]; simp)]
          exact ih
        · exact ih
theorem sel_mem (V : List Int) : ∀ (m i : Nat), ∀ p ∈ sel V m i, (i : Int) ≤ p ∧ p < (i + m : Nat)
  | 0, i, p, h => by cases h
  | m + 1, i, p, h => by
    rw [sel] at h
    split at h
    · rcases List.mem_cons.1 h with rfl | h2
      · omega
      · have := sel_mem V m (i + 1) p h2; omega
    · have := sel_mem V m (i + 1) p h; omega
/-- The places of the last exception that is the word. -/
def found (W : List UInt8) : List (List UInt8) → List Int → List Int
  | [], f => f
  | x :: X, f => found W X (if noD x = W then pts x 0 else f)
theorem bare_ev (x : List UInt8) (hx : x.length < 2000000) : Evl (fun k => frisketref09_bare.f k (mkB x)) (mkB (noD x), pts x 0) := by
  have hb := bare_l x hx x.length 0 [] [] (by omega) (by simp) (by simp)
  rw [List.drop_zero, List.nil_append, List.nil_append] at hb
  simp only [frisketref09_bare.f]
  exact hb
section
variable (W : List UInt8) (hW : W.length ≤ 60) (X : List (List UInt8)) (hX : X.length ≤ 2000) (hB : Brief X) (x y : Nat)
theorem rpts_l2 (all : List Int) (hm : ∀ p ∈ all, -10000000 ≤ p ∧ p ≤ 10000000) (hl : all.length < 10000000) (hw : W.length ≤ 60) : ∀ (m i : Nat) (acc : List Int), i + m = all.length → acc.length ≤ i →
    Evl (fun k => frisketref09_Points.l2 k (mkB W) (x : Int) (y : Int) all acc (i : Int)) (acc ++ filt x y W.length (all.drop i), 0)
  | 0, i, acc, e, ha => by
    refine Evl.succ ?_
    simp only [frisketref09_Points.l2]
    rw [List.drop_eq_nil_of_le (by omega), show filt x y W.length [] = [] from rfl, List.append_nil]
    exact Evl.neg (by omega) (Evl.some _)
  | m + 1, i, acc, e, ha => by
    have hi : i < all.length := by omega
    have hp := hm _ (List.getElem_mem hi)
    refine Evl.succ ?_
    simp only [frisketref09_Points.l2, rd_lt all i hi, size_mkB]
    rw [List.drop_eq_getElem_cons hi, wn (by omega), w64 (x := (W.length : Int) - all[i]) (by omega) (by omega)]
    refine Evl.pos (by omega) (Evl.pos (by omega) ?_)
    unfold filt
    refine Evl.ite (fun c => Evl.ite (fun c2 => Evl.pos (by omega) ?_) (fun c2 => ?_)) (fun c => ?_)
    · rw [List.filter_cons_of_pos (by rw [decide_eq_true c, decide_eq_true c2]; rfl)]
      have ih := rpts_l2 all hm hl hw m (i + 1) (acc ++ [all[i]]) (by omega) (by simp; omega)
      rw [List.append_assoc] at ih
      exact ih
    · rw [List.filter_cons_of_neg (by rw [decide_eq_false c2]; simp)]
      exact rpts_l2 all hm hl hw m (i + 1) acc (by omega) (by omega)
    · rw [List.filter_cons_of_neg (by rw [decide_eq_false c]; simp)]
      exact rpts_l2 all hm hl hw m (i + 1) acc (by omega) (by omega)
theorem pts_range : ∀ (l : List UInt8) (n : Int), ∀ p ∈ pts l n, n ≤ p ∧ p ≤ n + l.length
  | [], n, p, h => by cases h
  | c :: l, n, p, h => by
    rw [pts] at h
    rw [List.length_cons]
    split at h
    · rcases List.mem_cons.1 h with rfl | h2
      · omega
      · have := pts_range l n p h2; omega
    · have := pts_range l (n + 1) p h; omega
include hW hX hB in
theorem rpts_l1 : ∀ (m i : Nat) (f : List Int), i + m = X.length → (∀ p ∈ f, -10000000 ≤ p ∧ p ≤ 10000000) → f.length < 10000000 →
    Evl (fun k => frisketref09_Points.l1 k (mkB W) (X.map mkB) (x : Int) (y : Int) f (i : Int)) (filt x y W.length (found W (X.drop i) f), 0)
  | 0, i, f, e, hm, hl => by
    refine Evl.succ ?_
    simp only [frisketref09_Points.l1, List.length_map]
    rw [(List.drop_eq_nil_of_le (by omega) : X.drop i = []), found]
    exact Evl.neg (by omega) (rpts_l2 W x y f hm hl hW f.length 0 [] (by omega) (by simp))
  | m + 1, i, f, e, hm, hl => by
    have hi : i < X.length := by omega
    have hb := hB _ (List.getElem_mem hi)
    refine Evl.succ ?_
    simp only [frisketref09_Points.l1, List.length_map, rdOf_map X i hi]
    rw [List.drop_eq_getElem_cons hi, found, wn (by omega)]
    refine Evl.pos (by omega) (Evl.pos (by omega) (Evl.bind (bare_ev _ hb) ?_))
    simp only [toList_mkB]
    refine Evl.ite (fun c => ?_) (fun c => ?_)
    · rw [if_pos c]
      refine rpts_l1 m (i + 1) _ (by omega) (fun p hp => ?_) (by have := pts_len X[i] 0; omega)
      have := pts_range X[i] 0 p hp
      omega
    · rw [if_neg c]
      exact rpts_l1 m (i + 1) f (by omega) hm hl
include hW hX hB in
theorem rpts_l0 (V : List Int) (hV : V.length = W.length + 1) : ∀ (m i : Nat) (acc : List Int), i + m = W.length → acc.length ≤ i → (∀ p ∈ acc, -10000000 ≤ p ∧ p ≤ 10000000) →
    Evl (fun k => frisketref09_Points.l0 k (mkB W) (X.map mkB) (x : Int) (y : Int) V acc (i : Int)) (filt x y W.length (found W X (acc ++ sel V m i)), 0)
  | 0, i, acc, e, ha, hm => by
    refine Evl.succ ?_
    simp only [frisketref09_Points.l0, size_mkB]
    rw [sel, List.append_nil]
    exact Evl.neg (by omega) (rpts_l1 W hW X hX hB x y X.length 0 acc (by omega) hm (by omega))
  | m + 1, i, acc, e, ha, hm => by
    refine Evl.succ ?_
    simp only [frisketref09_Points.l0, size_mkB]
    rw [wn (by omega), sel]
    refine Evl.pos (by omega) (Evl.pos (by omega) (Evl.pos (by omega) (Evl.ite (fun c => Evl.pos (by omega) ?_) (fun c => ?_))))
    · rw [if_pos c]
      have ih := rpts_l0 V hV m (i + 1) (acc ++ [(i : Int)]) (by omega) (by simp; omega) (by
        intro p hp
        rcases List.mem_append.1 hp with h | h
        · exact hm p h
        · rw [List.mem_singleton.1 h]; omega)
      rw [List.append_assoc] at ih
      exact ih
    · rw [if_neg c]
      exact rpts_l0 V hV m (i + 1) acc (by omega) (by omega) hm
end
theorem rpoints_ev (w : List UInt8) (hw : isW w = true) (P X : List (List UInt8)) (hP : P.length ≤ 2000) (hS : Small P) (hok : P.all okP = true) (hX : X.length ≤ 2000) (hB : Brief X) (hokX : X.all okX = true) (a b : Nat) (ha : 1 ≤ a ∧ a ≤ 10) (hb : 1 ≤ b ∧ b ≤ 10) :
    Evl (fun k => frisketref09_Points.f k (mkB w) (P.map mkB) (X.map mkB) (a : Int) (b : Int)) (filt a b w.length (found (w.map low8) X (sel (vOf9 (w.map low8) (P.map pair)) (w.length - 1) 1)), 0) := by
  have h60 := isW_len hw
  have hpos : 0 < w.length := List.length_pos_iff.2 (isW_ne hw)
  have hlen : (w.map low8).length = w.length := List.length_map ..
  have hc := check_ev P X hP hS hX hB
  rw [if_pos hok, if_pos hokX] at hc
  have hwv := word_ev w (by omega)
  rw [hw] at hwv
  simp only [frisketref09_Points.f]
  refine Evl.bind hc (Evl.pos rfl (Evl.bind hwv (Evl.pos rfl (Evl.neg (by omega) (Evl.neg (by omega) (Evl.neg (by omega) (Evl.succ ?_)))))))
  simp only [frisketref09_Points.j0]
  refine Evl.neg (by simp; omega) (Evl.bind (lower_ev w (by omega)) (Evl.bind (rvalues_ev (w.map low8) (by omega) P (by omega) hS hok) ?_))
  have h := rpts_l0 (w.map low8) (by omega) X hX hB a b (vOf9 (w.map low8) (P.map pair)) (vOf9_len _ _) (w.length - 1) 1 [] (by omega) (by simp) (by simp)
  rw [hlen] at h
  exact h
theorem rvals_ev (w : List UInt8) (hw : isW w = true) (P : List (List UInt8)) (hP : P.length ≤ 2000) (hS : Small P) (hok : P.all okP = true) : Evl (fun k => frisketref09_Values.f k (mkB w) (P.map mkB)) (vOf9 (w.map low8) (P.map pair), 0) := by
  have h60 := isW_len hw
  have hlen : (w.map low8).length = w.length := List.length_map ..
  have hc := check_ev P [] hP hS (by simp) (fun _ h => by cases h)
  rw [if_pos hok, if_pos (show ([] : List (List UInt8)).all okX = true from rfl)] at hc
  have hwv := word_ev w (by omega)
  rw [hw] at hwv
  have hv := vOf9_len (w.map low8) (P.map pair)
  simp only [frisketref09_Values.f]
  refine Evl.bind hc (Evl.pos rfl (Evl.bind hwv (Evl.pos rfl (Evl.bind (Evl.some _) (Evl.bind (lower_ev w (by omega)) (Evl.bind (rvalues_ev (w.map low8) (by omega) P (by omega) hS hok) (Evl.pos (by rw [List.length_nil]; omega) ?_)))))))
  rw [List.nil_append]
  exact Evl.some _
end Go.Proofs.YtegcelmjejhnfaaDoor.Ref9
