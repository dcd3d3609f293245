/- Patterns, values and points of hyphen, told of lists. -/
import Derived.Test.YtegcelmjejhnfaaDoorRead9Hy
namespace Go.Proofs.YtegcelmjejhnfaaDoor.Vals9
open Go.RowKit Go.Proofs.YtegcelmjejhnfaaDoor.QHy Go.Proofs.YtegcelmjejhnfaaDoorW.PrintWords Go.Proofs.YtegcelmjejhnfaaDoorW.PrintLast Go.Proofs.YtegcelmjejhnfaaDoorW.PrintMore Go.Proofs.YtegcelmjejhnfaaDoorN Go.Proofs.YtegcelmjejhnfaaDoor.Evl Go.Proofs.YtegcelmjejhnfaaDoor.Str Go.Proofs.YtegcelmjejhnfaaDoor.Words9 Go.Proofs.YtegcelmjejhnfaaDoor.Read9
set_option linter.unusedVariables false
def dg (c : UInt8) : Bool := decide (49 ≤ c.toNat ∧ c.toNat ≤ 57)
def sm (c : UInt8) : Bool := decide (97 ≤ c.toNat ∧ c.toNat ≤ 122)
/-- What read makes of a text. -/
def rdL : Bool → List UInt8 → List UInt8 → List Int → Int → Nat → List UInt8 × List Int × Bool
  | _, [], t, v, d, n => (t, v ++ [d], decide (1 ≤ n ∧ n ≤ 15))
  | b, c :: l, t, v, d, n =>
    if dg c = true then (if d > 0 then (t, v, false) else rdL false l t v ((c.toNat : Int) - 48) n)
    else if sm c = true then rdL false l (t ++ [c]) (v ++ [d]) 0 (n + 1)
    else if c = 46 ∧ (b = true ∨ l = []) then rdL false l (t ++ [c]) (v ++ [d]) 0 n
    else (t, v, false)
theorem hsmall_ev (c : UInt8) : hyphen_small.f (c.toNat : Int) = some (sm c) := by
  unfold hyphen_small.f sm
  by_cases h : (c.toNat : Int) ≥ 97
  · rw [if_pos h]; congr 1; exact decide_eq_decide.2 (by omega)
  · rw [if_neg h]; congr 1; exact (decide_eq_false (by omega)).symm
def mk3 (p : List UInt8 × List Int × Bool) : ByteArray × List Int × Bool := (mkB p.1, p.2.1, p.2.2)
theorem read_l (L : List UInt8) (hL : L.length < 8796093022208) : ∀ (m i n : Nat) (d : Int) (t : List UInt8) (v : List Int), i + m = L.length → t.length ≤ i → v.length ≤ i → n ≤ i →
    Evl (fun k => hyphen_read.l0 k (mkB L) (n : Int) d (L.length : Int) (i : Int) (mkB t) v) (mk3 (rdL (decide (i = 0)) (L.drop i) t v d n))
  | 0, i, n, d, t, v, e, ht, hv, hn => by
    refine Evl.succ ?_
    simp only [hyphen_read.l0]
    refine Evl.neg (by omega) (Evl.pos (by omega) ?_)
    rw [List.drop_eq_nil_of_le (by omega), rdL]
    refine Evl.bind (Evl.some _) (Evl.ite (fun c => ?_) (fun c => ?_))
    · rw [mk3, show decide (1 ≤ n ∧ n ≤ 15) = decide ((n : Int) ≤ 15) from decide_eq_decide.2 (by omega)]
      exact Evl.some _
    · rw [mk3, show decide (1 ≤ n ∧ n ≤ 15) = false from decide_eq_false (by omega)]
      exact Evl.some _
  | m + 1, i, n, d, t, v, e, ht, hv, hn => by
    have hi : i < L.length := by omega
    obtain ⟨c, hc⟩ : ∃ c, L[i] = c := ⟨_, rfl⟩
    have hb := bt_mkB L i hi
    rw [hc] at hb
    rw [List.drop_eq_getElem_cons hi, hc, rdL]
    have hx : (mkB L).extract ((i : Int)).toNat (((i + 1 : Nat) : Int)).toNat = mkB [c] := by
      have := ext_drop (l := L) (i := i) (u := [c]) (t := L.drop (i + 1)) (by rw [List.drop_eq_getElem_cons hi, hc]; rfl)
      simpa using this
    have j2t : ∀ n2 : Nat, (n2 = if c = 46 then n else n + 1) → Evl (fun k => hyphen_read.j2 k (mkB L) (n : Int) d (i : Int) (c.toNat : Int) (L.length : Int) (i : Int) true (mkB t) v) (mk3 (rdL false (L.drop (i + 1)) (t ++ [c]) (v ++ [d]) 0 n2)) := by
      intro n2 h2
      refine Evl.succ ?_
      simp only [hyphen_read.j2, size_mkB]
      rw [wn (by omega), hx]
      refine Evl.pos trivial ?_
      have hbc : ((c.toNat : Int) = 46) ↔ c = 46 := b_eq (n := 46) (by decide)
      have ih := read_l L hL m (i + 1) n2 0 (t ++ [c]) (v ++ [d]) (by omega) (by simp; omega) (by simp; omega) (by rw [h2]; split <;> omega)
      rw [decide_eq_false (by omega : ¬ i + 1 = 0)] at ih
      have hsz : t.length + (mkB [c]).size ≤ 9223372036854775807 := by rw [size_mkB]; simp; omega
      refine Evl.ite (fun h => ?_) (fun h => ?_)
      · rw [if_pos (hbc.1 h)] at h2
        subst h2
        refine Evl.pos (by omega) (Evl.pos (by omega) (Evl.pos (by omega) (Evl.pos hsz (Evl.pos (by omega) ?_))))
        rw [append_mkB]
        exact ih
      · rw [if_neg (fun e => h (hbc.2 e))] at h2
        subst h2
        refine Evl.pos (by omega) (Evl.pos (by omega) (Evl.pos (by omega) (Evl.pos hsz (Evl.pos (by omega) ?_))))
        rw [append_mkB, wn (by omega)]
        exact ih
    have j2f : Evl (fun k => hyphen_read.j2 k (mkB L) (n : Int) d (i : Int) (c.toNat : Int) (L.length : Int) (i : Int) false (mkB t) v) (mk3 (t, v, false)) := by
      refine Evl.succ ?_
      simp only [hyphen_read.j2]
      exact Evl.neg (by simp) (Evl.some _)
    have j1 : Evl (fun k => hyphen_read.j1 k (mkB L) (n : Int) d (i : Int) (c.toNat : Int) (L.length : Int) (i : Int) (dg c) (mkB t) v) (mk3 (if dg c = true then (if d > 0 then (t, v, false) else rdL false (L.drop (i + 1)) t v ((c.toNat : Int) - 48) n)
    else if sm c = true then rdL false (L.drop (i + 1)) (t ++ [c]) (v ++ [d]) 0 (n + 1)
    else if c = 46 ∧ (decide (i = 0) = true ∨ L.drop (i + 1) = []) then rdL false (L.drop (i + 1)) (t ++ [c]) (v ++ [d]) 0 n
    else (t, v, false))) := by
      refine Evl.succ ?_
      simp only [hyphen_read.j1, size_mkB, hsmall_ev, Option.bind_some]
      refine Evl.ite (fun h => ?_) (fun h => ?_)
      · rw [if_pos h]
        refine Evl.ite (fun h2 => ?_) (fun h2 => ?_)
        · rw [if_pos h2]; exact Evl.some _
        · rw [if_neg h2, wn (by omega)]
          have hdg : 49 ≤ c.toNat ∧ c.toNat ≤ 57 := of_decide_eq_true h
          have ih := read_l L hL m (i + 1) n ((c.toNat : Int) - 48) t v (by omega) (by omega) (by omega) (by omega)
          rw [decide_eq_false (by omega : ¬ i + 1 = 0)] at ih
          rw [show ((c.toNat : Int) - 48) % 256 = (c.toNat : Int) - 48 by omega]
          exact ih
      · rw [if_neg h]
        refine Evl.ite (fun h2 => ?_) (fun h2 => ?_)
        · rw [if_pos h2]
          exact j2t (n + 1) (by
            rw [if_neg]
            rintro rfl
            exact absurd h2 (by decide))
        · rw [if_neg h2]
          have hbc : ((c.toNat : Int) = 46) ↔ c = 46 := b_eq (n := 46) (by decide)
          refine Evl.ite (fun h3 => ?_) (fun h3 => ?_)
          · have h46 := hbc.1 h3
            refine Evl.ite (fun h4 => ?_) (fun h4 => ?_)
            · rw [if_pos ⟨h46, Or.inl (decide_eq_true (by omega))⟩]
              exact j2t n (by rw [if_pos h46])
            · rw [w64 (by omega) (by omega)]
              by_cases hl : i + 1 = L.length
              · rw [if_pos ⟨h46, Or.inr (List.drop_eq_nil_of_le (by omega))⟩, show ((i : Int) == (L.length : Int) - 1) = true from beq_iff_eq.2 (by omega)]
                exact j2t n (by rw [if_pos h46])
              · have hne : L.drop (i + 1) ≠ [] := fun e => by
                  have := congrArg List.length e
                  rw [List.length_drop, List.length_nil] at this
                  omega
                rw [if_neg (fun hh => hh.2.elim (fun h5 => h4 (by have := of_decide_eq_true h5; omega)) hne), show ((i : Int) == (L.length : Int) - 1) = false from beq_eq_false_iff_ne.2 (by omega)]
                exact j2f
          · rw [if_neg (fun hh => h3 (hbc.2 hh.1))]
            exact j2f
    refine Evl.succ ?_
    simp only [hyphen_read.l0, size_mkB, hb]
    refine Evl.pos (by omega) (Evl.pos (by omega) (Evl.pos (by omega) ?_))
    refine Evl.ite (fun h => ?_) (fun h => ?_)
    · have e2 : decide ((c.toNat : Int) ≤ 57) = dg c := decide_eq_decide.2 (by omega)
      rw [e2]
      exact j1
    · have e2 : dg c = false := decide_eq_false (by omega)
      rw [e2] at j1
      rw [e2]
      exact j1
def rdp (s : List UInt8) : List UInt8 × List Int × Bool := rdL true s [] [] 0 0
theorem read_ev (L : List UInt8) (hL : L.length < 8796093022208) : Evl (fun k => hyphen_read.f k (mkB L)) (mk3 (rdp L)) := by
  have := read_l L hL L.length 0 0 0 [] [] (by omega) (Nat.le_refl _) (Nat.le_refl _) (Nat.le_refl _)
  simp only [hyphen_read.f, size_mkB]
  exact this
theorem rdL_len : ∀ (l : List UInt8) (b : Bool) (t : List UInt8) (v : List Int) (d : Int) (n : Nat), v.length = t.length → (rdL b l t v d n).2.2 = true → (rdL b l t v d n).2.1.length = (rdL b l t v d n).1.length + 1
  | [], b, t, v, d, n, h, _ => by simp [rdL, h]
  | c :: l, b, t, v, d, n, h, ok => by
    rw [rdL] at ok ⊢
    split
    · rename_i h1
      rw [if_pos h1] at ok
      split
      · rename_i h2
        rw [if_pos h2] at ok
        cases ok
      · rename_i h2
        rw [if_neg h2] at ok
        exact rdL_len l _ _ _ _ _ h ok
    · rename_i h1
      rw [if_neg h1] at ok
      split
      · rename_i h2
        rw [if_pos h2] at ok
        exact rdL_len l _ _ _ _ _ (by simp [h]) ok
      · rename_i h2
        rw [if_neg h2] at ok
        split
        · rename_i h3
          rw [if_pos h3] at ok
          exact rdL_len l _ _ _ _ _ (by simp [h]) ok
        · rename_i h3
          rw [if_neg h3] at ok
          cases ok
theorem rdL_short : ∀ (l : List UInt8) (b : Bool) (t : List UInt8) (v : List Int) (d : Int) (n : Nat), (rdL b l t v d n).1.length ≤ t.length + l.length
  | [], b, t, v, d, n => by simp [rdL]
  | c :: l, b, t, v, d, n => by
    rw [rdL]
    split
    · split
      · simp
      · have := rdL_short l false t v ((c.toNat : Int) - 48) n; simp; omega
    · split
      · have := rdL_short l false (t ++ [c]) (v ++ [d]) 0 (n + 1); simp at *; omega
      · split
        · have := rdL_short l false (t ++ [c]) (v ++ [d]) 0 n; simp at *; omega
        · simp
/-! ### parsed -/
def okP (s : List UInt8) : Bool := (rdp s).2.2
def pat (s : List UInt8) : S64 := ⟨mkB (rdp s).1, (rdp s).2.1⟩
def Small (P : List (List UInt8)) : Prop := ∀ s ∈ P, s.length < 8796093022208
theorem parsed_l (P : List (List UInt8)) (hP : P.length < 100000) (hS : Small P) : ∀ (m i : Nat) (acc : List S64), i + m = P.length → acc.length = i →
    Evl (fun k => hyphen_parsed.l0 k acc (P.map mkB) (P.length : Int) (i : Int)) (if (P.drop i).all okP = true then (acc ++ (P.drop i).map pat, 0) else ([], 4))
  | 0, i, acc, e, ha => by
    refine Evl.succ ?_
    simp only [hyphen_parsed.l0]
    rw [List.drop_eq_nil_of_le (by omega)]
    refine Evl.neg (by omega) ?_
    simp only [List.all_nil, if_true, List.map_nil, List.append_nil]
    exact Evl.some _
  | m + 1, i, acc, e, ha => by
    have hi : i < P.length := by omega
    rw [List.drop_eq_getElem_cons hi]
    refine Evl.succ ?_
    simp only [hyphen_parsed.l0, List.length_map]
    have er : rdOf ByteArray.empty (P.map mkB) (i : Int) = mkB P[i] := by
      unfold rdOf
      rw [Int.toNat_natCast, List.getD_eq_getElem?_getD, List.getElem?_map, List.getElem?_eq_getElem hi]
      rfl
    rw [er]
    refine Evl.pos (by omega) (Evl.pos (by omega) (Evl.pos (by omega) ?_))
    refine Evl.bind (read_ev P[i] (hS _ (List.getElem_mem hi))) ?_
    rw [List.all_cons, List.map_cons]
    refine Evl.ite (fun c => ?_) (fun c => ?_)
    · have ho : okP P[i] = true := c
      rw [ho, Bool.true_and, wn (by omega)]
      refine Evl.pos (by omega) ?_
      have ih := parsed_l P hP hS m (i + 1) (acc ++ [pat P[i]]) (by omega) (by simp [ha])
      rw [List.append_assoc] at ih
      exact ih
    · have ho : okP P[i] = false := by
        cases h : okP P[i] with
        | false => rfl
        | true => exact absurd h c
      rw [ho, Bool.false_and]
      exact Evl.some _
theorem parsed_ev (P : List (List UInt8)) (hS : Small P) : Evl (fun k => hyphen_parsed.f k (P.map mkB)) (if P.length ≤ 2000 then (if P.all okP = true then (P.map pat, 0) else ([], 4)) else ([], 2)) := by
  simp only [hyphen_parsed.f, List.length_map]
  refine Evl.ite (fun c => ?_) (fun c => ?_)
  · rw [if_neg (by omega)]; exact Evl.some _
  · rw [if_pos (by omega)]
    exact parsed_l P (by omega) hS P.length 0 [] (by omega) rfl
/-! ### values -/
def upd : List Int → Nat → List Int → List Int
  | all, _, [] => all
  | all, at_, v :: vs => upd (all.set at_ (mx (rd all (at_ : Int)) v)) (at_ + 1) vs
theorem upd_len : ∀ (vs all : List Int) (at_ : Nat), (upd all at_ vs).length = all.length
  | [], all, at_ => rfl
  | v :: vs, all, at_ => by rw [upd, upd_len vs]; simp
def scan (F T : List UInt8) (V : List Int) : Nat → Nat → List Int → List Int
  | 0, _, all => all
  | m + 1, at_, all => scan F T V m (at_ + 1) (if (F.drop at_).take T.length = T then upd all at_ V else all)
theorem scan_len (F T : List UInt8) (V : List Int) : ∀ (m at_ : Nat) (all : List Int), (scan F T V m at_ all).length = all.length
  | 0, _, _ => rfl
  | m + 1, at_, all => by
    rw [scan, scan_len F T V m]
    split
    · rw [upd_len]
    · rfl
def vals (F : List UInt8) : List (List UInt8 × List Int) → List Int → List Int
  | [], all => all
  | p :: ps, all => vals F ps (scan F p.1 p.2 (F.length + 1 - p.1.length) 0 all)
theorem vals_len (F : List UInt8) : ∀ (ps : List (List UInt8 × List Int)) (all : List Int), (vals F ps all).length = all.length
  | [], _ => rfl
  | p :: ps, all => by rw [vals, vals_len F ps, scan_len]
def frame (W : List UInt8) : List UInt8 := 46 :: (W ++ [46])
theorem frame_len (W : List UInt8) : (frame W).length = W.length + 2 := by simp [frame]
def vOf9 (W : List UInt8) (ps : List (List UInt8 × List Int)) : List Int := ((vals (frame W) ps (List.replicate (W.length + 3) 0)).take (W.length + 2)).drop 1
theorem vOf9_len (W : List UInt8) (ps : List (List UInt8 × List Int)) : (vOf9 W ps).length = W.length + 1 := by
  unfold vOf9
  rw [List.length_drop, List.length_take, vals_len, List.length_replicate]
  omega
theorem rd_lt (l : List Int) (i : Nat) (h : i < l.length) : rd l (i : Int) = l[i] := by
  unfold rd
  rw [Int.toNat_natCast, List.getD_eq_getElem?_getD, List.getElem?_eq_getElem h]
  rfl
section
variable (W F : List UInt8) (hF : F.length < 1000)
/-- A pattern read right: one digit more than letters. -/
def Fit (p : List UInt8 × List Int) : Prop := p.2.length = p.1.length + 1 ∧ p.1.length < 8796093022208
def toS (p : List UInt8 × List Int) : S64 := ⟨mkB p.1, p.2⟩
theorem val_l2 (x0 : ByteArray) (X : List S64) (xn xi : Int) (T : List UInt8) (V : List Int) (at_ : Nat) {G : List Int} : ∀ (m j : Nat) (all : List Int), j + m = V.length → at_ + V.length ≤ all.length → all.length < 10000 →
    Evl (fun k => hyphen_values.l1 k x0 (mkB F) (upd all (at_ + j) (V.drop j)) ((at_ + 1 : Nat) : Int) X xn xi (mkB T) V) G →
    Evl (fun k => hyphen_values.l2 k x0 (mkB F) all (at_ : Int) X xn xi V (V.length : Int) (j : Int) (mkB T) V) G
  | 0, j, all, e, ha, hb, h => by
    refine Evl.succ ?_
    simp only [hyphen_values.l2]
    refine Evl.neg (by omega) ?_
    rw [List.drop_eq_nil_of_le (by omega), upd] at h
    rw [wn (by omega)]
    exact h
  | m + 1, j, all, e, ha, hb, h => by
    have hj : j < V.length := by omega
    refine Evl.succ ?_
    simp only [hyphen_values.l2]
    have e1 : wrap64 ((at_ : Int) + (j : Int)) = ((at_ + j : Nat) : Int) := by rw [w64 (by omega) (by omega)]; omega
    rw [e1, wn (by omega), Int.toNat_natCast]
    refine Evl.pos (by omega) (Evl.pos (by omega) (Evl.pos (by omega) (Evl.pos (by omega) (Evl.pos (by omega) ?_))))
    rw [List.drop_eq_getElem_cons hj, upd, ← rd_lt V j hj] at h
    exact val_l2 x0 X xn xi T V at_ m (j + 1) _ (by omega) (by rw [List.length_set]; omega) (by rw [List.length_set]; omega) h
include hF in
theorem val_l1 (x0 : ByteArray) (X : List S64) (xn : Int) (xi : Nat) (hxi : xi < 100000) (T : List UInt8) (V : List Int) (hV : V.length = T.length + 1) (hT : T.length < 8796093022208) {G : List Int} : ∀ (m at_ : Nat) (all : List Int), at_ + m = F.length + 1 - T.length → all.length = F.length + 1 →
    Evl (fun k => hyphen_values.l0 k x0 (mkB F) (scan F T V m at_ all) X xn ((xi + 1 : Nat) : Int)) G →
    Evl (fun k => hyphen_values.l1 k x0 (mkB F) all (at_ : Int) X xn (xi : Int) (mkB T) V) G
  | 0, at_, all, e, ha, h => by
    refine Evl.succ ?_
    simp only [hyphen_values.l1, size_mkB]
    rw [w64 (x := (at_ : Int) + (T.length : Int)) (by omega) (by omega), wn (i := xi) (by omega)]
    exact Evl.neg (by omega) h
  | m + 1, at_, all, e, ha, h => by
    refine Evl.succ ?_
    simp only [hyphen_values.l1, size_mkB]
    rw [w64 (x := (at_ : Int) + (T.length : Int)) (by omega) (by omega), wn (by omega)]
    refine Evl.pos (by omega) (Evl.pos (by omega) (Evl.pos (by omega) ?_))
    have ex : (mkB F).extract ((at_ : Int)).toNat ((at_ : Int) + (T.length : Int)).toNat = mkB ((F.drop at_).take T.length) := by
      rw [extract_mkB, Int.toNat_natCast, show ((at_ : Int) + (T.length : Int)).toNat = at_ + T.length by omega, List.drop_take, Nat.add_sub_cancel_left]
    rw [ex, toList_mkB, toList_mkB]
    rw [scan] at h
    refine Evl.ite (fun c => ?_) (fun c => ?_)
    · rw [if_pos c] at h
      refine val_l2 F x0 X xn (xi : Int) T V at_ V.length 0 all (by omega) (by omega) (by omega) ?_
      exact val_l1 x0 X xn xi hxi T V hV hT m (at_ + 1) _ (by omega) (by rw [upd_len]; exact ha) h
    · rw [if_neg c] at h
      exact val_l1 x0 X xn xi hxi T V hV hT m (at_ + 1) _ (by omega) ha h
include hF in
theorem val_l0 (hW : F.length = W.length + 2) (P : List (List UInt8 × List Int)) (hP : P.length < 100000) (hfit : ∀ p ∈ P, Fit p) : ∀ (m i : Nat) (all : List Int), i + m = P.length → all.length = F.length + 1 →
    Evl (fun k => hyphen_values.l0 k (mkB W) (mkB F) all (P.map toS) (P.length : Int) (i : Int)) (((vals F (P.drop i) all).take (W.length + 2)).drop 1)
  | 0, i, all, e, ha => by
    refine Evl.succ ?_
    simp only [hyphen_values.l0, size_mkB]
    rw [(List.drop_eq_nil_of_le (by omega) : P.drop i = []), vals, w64 (x := (W.length : Int) + 2) (by omega) (by omega)]
    refine Evl.neg (by omega) (Evl.pos (by omega) (Evl.pos (by omega) ?_))
    rw [show ((W.length : Int) + 2).toNat = W.length + 2 by omega]
    exact Evl.some _
  | m + 1, i, all, e, ha => by
    have hi : i < P.length := by omega
    rw [List.drop_eq_getElem_cons hi, vals]
    refine Evl.succ ?_
    simp only [hyphen_values.l0, List.length_map]
    have er : rd_T64 (P.map toS) (i : Int) = toS P[i] := by
      unfold rd_T64
      rw [Int.toNat_natCast, List.getD_eq_getElem?_getD, List.getElem?_map, List.getElem?_eq_getElem hi]
      rfl
    rw [er]
    obtain ⟨h1, h2⟩ := hfit _ (List.getElem_mem hi)
    refine Evl.pos (by omega) (Evl.pos (by omega) (Evl.pos (by omega) ?_))
    refine val_l1 F hF (mkB W) _ _ i (by omega) P[i].1 P[i].2 h1 h2 (F.length + 1 - P[i].1.length) 0 all (by omega) ha ?_
    exact val_l0 hW P hP hfit m (i + 1) _ (by omega) (by rw [scan_len]; exact ha)
end
theorem values_ev (W : List UInt8) (hW : W.length ≤ 60) (P : List (List UInt8 × List Int)) (hP : P.length < 100000) (hfit : ∀ p ∈ P, Fit p) : Evl (fun k => hyphen_values.f k (mkB W) (P.map toS)) (vOf9 W P) := by
  have eF : ((⟨#[46]⟩ : ByteArray) ++ mkB W) ++ (⟨#[46]⟩ : ByteArray) = mkB (frame W) := by
    show (mkB [46] ++ mkB W) ++ mkB [46] = _
    rw [append_mkB, append_mkB]
    rfl
  have e2 : ((⟨#[46]⟩ : ByteArray) ++ mkB W).size = W.length + 1 := by
    show (mkB [46] ++ mkB W).size = _
    rw [append_mkB, size_mkB]
    simp
  simp only [hyphen_values.f, eF, e2, size_mkB, List.length_map]
  have fl := frame_len W
  rw [w64 (x := ((frame W).length : Int) + 1) (by omega) (by omega)]
  refine Evl.pos (by omega) (Evl.pos (by omega) (Evl.pos (by omega) (Evl.pos (by omega) ?_)))
  rw [show (((frame W).length : Int) + 1).toNat = W.length + 3 by omega]
  exact val_l0 W (frame W) (by omega) fl P hP hfit P.length 0 _ (by omega) (by rw [List.length_replicate]; omega)
/-! ### points -/
def sel (all : List Int) : Nat → Nat → List Int
  | 0, _ => []
  | m + 1, i => if Int.tmod (rd all (i : Int)) 2 = 1 then (i : Int) :: sel all m (i + 1) else sel all m (i + 1)
theorem sel_len (all : List Int) : ∀ (m i : Nat), (sel all m i).length ≤ m
  | 0, _ => Nat.le_refl _
  | m + 1, i => by
    have := sel_len all m (i + 1)
    rw [sel]
    split
    · simp; omega
    · omega
theorem points_l2 (W : List UInt8) (b : Nat) (all : List Int) (hW : W.length ≤ 60) (hb : 1 ≤ b ∧ b ≤ 10) (hall : all.length = W.length + 1) : ∀ (m i : Nat) (acc : List Int), m = W.length + 1 - b - i → acc.length ≤ i →  i ≤ 1000 →
    Evl (fun k => hyphen_Points.l2 k (b : Int) (mkB W) all acc (i : Int)) (acc ++ sel all m i, 0)
  | 0, i, acc, e, ha, hi => by
    refine Evl.succ ?_
    simp only [hyphen_Points.l2, size_mkB]
    rw [w64 (x := (W.length : Int) - (b : Int)) (by omega) (by omega), sel, List.append_nil]
    exact Evl.neg (by omega) (Evl.some _)
  | m + 1, i, acc, e, ha, hi => by
    refine Evl.succ ?_
    simp only [hyphen_Points.l2, size_mkB]
    rw [w64 (x := (W.length : Int) - (b : Int)) (by omega) (by omega), wn (by omega), sel]
    refine Evl.pos (by omega) (Evl.pos (by omega) (Evl.pos (by omega) ?_))
    refine Evl.ite (fun c => ?_) (fun c => ?_)
    · rw [if_pos c]
      refine Evl.pos (by omega) ?_
      have ih := points_l2 W b all hW hb hall m (i + 1) (acc ++ [(i : Int)]) (by omega) (by simp; omega) (by omega)
      rw [List.append_assoc] at ih
      exact ih
    · rw [if_neg c]
      exact points_l2 W b all hW hb hall m (i + 1) acc (by omega) (by omega) (by omega)
def pair (s : List UInt8) : List UInt8 × List Int := ((rdp s).1, (rdp s).2.1)
theorem pair_fit {s : List UInt8} (hs : s.length < 8796093022208) (h : okP s = true) : Fit (pair s) :=
  ⟨rdL_len s true [] [] 0 0 rfl h, by have := rdL_short s true [] [] 0 0; show (rdp s).1.length < _; unfold rdp; simp at this; omega⟩
theorem map_pat (P : List (List UInt8)) : P.map pat = (P.map pair).map toS := by rw [List.map_map]; rfl
theorem points_ev (w : List UInt8) (hw : isW w = true) (P : List (List UInt8)) (hP : P.length ≤ 2000) (hS : Small P) (hok : P.all okP = true) (a b : Nat) (ha : 1 ≤ a ∧ a ≤ 10) (hb : 1 ≤ b ∧ b ≤ 10) :
    Evl (fun k => hyphen_Points.f k (mkB w) (P.map mkB) [] (a : Int) (b : Int)) (sel (vOf9 (w.map low8) (P.map pair)) (w.length + 1 - b - a) a, 0) := by
  have h60 := isW_len hw
  have hall : w.all lt = true := by unfold isW at hw; simp only [Bool.and_eq_true] at hw; exact hw.1
  have hlow := low_eq w (by omega)
  rw [if_pos hall] at hlow
  have hsz : decide (1 ≤ w.length ∧ w.length ≤ 60) = true := by unfold isW at hw; simp only [Bool.and_eq_true] at hw; exact hw.2
  rw [hsz] at hlow
  have hpe := parsed_ev P hS
  rw [if_pos hP, if_pos hok, map_pat] at hpe
  simp only [hyphen_Points.f]
  refine Evl.neg (by simp) (Evl.bind hpe (Evl.pos rfl ?_))
  have e0 : slices_ContainsFunc_string_string.f ([] : List ByteArray) () = some false := rfl
  simp only [e0, Option.bind_some]
  refine Evl.succ ?_
  simp only [hyphen_Points.j0]
  refine Evl.neg (by simp) (Evl.succ ?_)
  simp only [hyphen_Points.j1, hlow, Option.bind_some]
  have hmn : ¬ mn (a : Int) (b : Int) < 1 := by unfold mn; split <;> omega
  have hmx : decide (mx (a : Int) (b : Int) > 10) = false := decide_eq_false (by unfold mx; split <;> omega)
  refine Evl.pos trivial (Evl.pos trivial (Evl.neg hmn (Evl.succ ?_)))
  simp only [hyphen_Points.j2, hmx]
  refine Evl.neg (by simp) ?_
  have hlen : (w.map low8).length = w.length := List.length_map ..
  refine Evl.bind (values_ev (w.map low8) (by omega) (P.map pair) (by rw [List.length_map]; omega) (by
    intro p hp
    obtain ⟨s, hs, rfl⟩ := List.mem_map.1 hp
    exact pair_fit (hS s hs) (List.all_eq_true.1 hok s hs))) ?_
  refine Evl.succ ?_
  simp only [hyphen_Points.l0]
  refine Evl.neg (by simp) ?_
  have := points_l2 (w.map low8) b (vOf9 (w.map low8) (P.map pair)) (by omega) hb (vOf9_len _ _) (w.length + 1 - b - a) a [] (by omega) (by simp) (by omega)
  exact this
theorem vals_ev (w : List UInt8) (hw : isW w = true) (P : List (List UInt8)) (hP : P.length ≤ 2000) (hS : Small P) (hok : P.all okP = true) (f : Nat → ByteArray → List ByteArray → Option (List Int × Int))
    (hf : ∀ k a l, f k a l = (hyphen_parsed.f k l).bind fun bt249 => (if bt249.2 = 0 then ((hyphen_low.f a).bind fun bt253 => (if (bt253.2 = true) then ((hyphen_values.f k bt253.1 bt249.1).bind fun t255 => (some (t255, 0))) else (some (([] : List Int), 1)))) else (some (([] : List Int), bt249.2)))) :
    Evl (fun k => f k (mkB w) (P.map mkB)) (vOf9 (w.map low8) (P.map pair), 0) := by
  have h60 := isW_len hw
  have hall : w.all lt = true := by unfold isW at hw; simp only [Bool.and_eq_true] at hw; exact hw.1
  have hlow := low_eq w (by omega)
  rw [if_pos hall] at hlow
  have hsz : decide (1 ≤ w.length ∧ w.length ≤ 60) = true := by unfold isW at hw; simp only [Bool.and_eq_true] at hw; exact hw.2
  rw [hsz] at hlow
  have hpe := parsed_ev P hS
  rw [if_pos hP, if_pos hok, map_pat] at hpe
  simp only [hf]
  refine Evl.bind hpe (Evl.pos rfl ?_)
  simp only [hlow, Option.bind_some]
  have hlen : (w.map low8).length = w.length := List.length_map ..
  refine Evl.pos trivial (Evl.bind (values_ev (w.map low8) (by omega) (P.map pair) (by rw [List.length_map]; omega) (by
    intro p hp
    obtain ⟨s, hs, rfl⟩ := List.mem_map.1 hp
    exact pair_fit (hS s hs) (List.all_eq_true.1 hok s hs))) (Evl.some _))
end Go.Proofs.YtegcelmjejhnfaaDoor.Vals9
