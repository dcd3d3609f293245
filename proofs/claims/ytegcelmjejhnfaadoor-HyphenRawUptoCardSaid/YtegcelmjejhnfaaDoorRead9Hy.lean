/- Read of hyphen, and the document's: the same. -/
import Derived.Test.YtegcelmjejhnfaaDoorWords9Hy
namespace Go.Proofs.YtegcelmjejhnfaaDoor.Read9
open Go.RowKit Go.Proofs.YtegcelmjejhnfaaDoor.QHy Go.Proofs.YtegcelmjejhnfaaDoorW.PrintWords Go.Proofs.YtegcelmjejhnfaaDoorW.PrintLast Go.Proofs.YtegcelmjejhnfaaDoorW.PrintMore Go.Proofs.YtegcelmjejhnfaaDoorN Go.Proofs.YtegcelmjejhnfaaDoor.Evl Go.Proofs.YtegcelmjejhnfaaDoor.Str Go.Proofs.YtegcelmjejhnfaaDoor.Words9
set_option linter.unusedVariables false
/-- Without the hyphens. -/
def noD : List UInt8 → List UInt8
  | [] => []
  | c :: l => if c = 45 then noD l else c :: noD l
theorem noD_rep : ∀ l : List UInt8, ReplOne.rep 45 [] l = noD l
  | [] => rfl
  | c :: l => by
    rw [ReplOne.rep, noD, noD_rep l]
    by_cases h : c = 45
    · rw [if_pos h, if_pos (by rw [h]; rfl)]; rfl
    · rw [if_neg h, if_neg (by simpa using h)]; rfl
theorem noD_len : ∀ l : List UInt8, (noD l).length ≤ l.length
  | [] => Nat.le_refl _
  | c :: l => by
    have := noD_len l
    rw [noD]
    split
    · simp; omega
    · simp; omega
/-- The places of the hyphens, among the other bytes. -/
def pts : List UInt8 → Int → List Int
  | [], _ => []
  | c :: l, n => if c = 45 then n :: pts l n else pts l (n + 1)
theorem pts_len : ∀ (l : List UInt8) (n : Int), (pts l n).length ≤ l.length
  | [], _ => Nat.le_refl _
  | c :: l, n => by
    rw [pts]
    split
    · have := pts_len l n; simp; omega
    · have := pts_len l (n + 1); simp; omega
/-- Hyphens stand right: none at the front (p: the one ahead is a hyphen, or there is none), none at the end, no two. -/
def D : Bool → List UInt8 → Bool
  | p, [] => !p
  | p, c :: l => if c = 45 then (if p = true then false else D true l) else D false l
theorem D_none : ∀ l : List UInt8, noD l = [] → D true l = false
  | [], _ => rfl
  | c :: l, h => by
    rw [noD] at h
    split at h
    · rename_i hc
      rw [D, if_pos hc, if_pos rfl]
    · cases h
theorem D_len : ∀ (l : List UInt8), (D true l = true → l.length + 1 ≤ 2 * (noD l).length) ∧ (D false l = true → l.length ≤ 2 * (noD l).length)
  | [] => ⟨by simp [D], by simp⟩
  | c :: l => by
    obtain ⟨h1, h2⟩ := D_len l
    rw [D, D, noD]
    by_cases hc : c = 45
    · simp only [if_pos hc, if_true, Bool.false_eq_true, if_false]
      exact ⟨nofun, fun h => by have := h1 h; simp; omega⟩
    · simp only [if_neg hc]
      exact ⟨fun h => by have := h2 h; simp; omega, fun h => by have := h2 h; simp; omega⟩
theorem dash_one : (⟨#[45]⟩ : ByteArray) = mkB [45] := rfl
/-- Show of a word and its places is the text, or it is refused. -/
theorem show_l (W L : List UInt8) : ∀ (t Lp acc : List UInt8) (n fr : Nat), L = Lp ++ t → W.drop n = noD t → n ≤ W.length → fr ≤ n → acc ++ (W.take n).drop fr = Lp → (fr = n → noD t ≠ []) →
    showR (mkB W) (pts t (n : Int)) (mkB acc) (fr : Int) = if D (decide (fr = n)) t = true then (mkB L, 0) else (⟨#[]⟩, 1)
  | [], Lp, acc, n, fr, hL, hd, hn, hf, ha, hne => by
    have hfn : fr ≠ n := fun e => hne e rfl
    have hWn : W.length ≤ n := by
      have := congrArg List.length hd
      rw [List.length_drop, noD, List.length_nil] at this
      omega
    rw [pts, showR, D, decide_eq_false hfn, Bool.not_false, if_pos rfl, Int.toNat_natCast, extract_mkB, size_mkB, append_mkB, hL, List.append_nil, ← ha, List.take_of_length_le (by omega), List.take_of_length_le hWn]
  | c :: t, Lp, acc, n, fr, hL, hd, hn, hf, ha, hne => by
    rw [pts, D]
    by_cases hc : c = 45
    · rw [if_pos hc, if_pos hc, showR]
      rw [noD, if_pos hc] at hd hne
      by_cases hfn : fr = n
      · rw [if_pos (Or.inl (by omega)), decide_eq_true hfn, if_pos rfl, if_neg (by simp)]
      · rw [decide_eq_false hfn]
        simp only [Bool.false_eq_true, if_false]
        by_cases hw : n < W.length
        · rw [if_neg (by rw [size_mkB]; omega)]
          have hne2 : noD t ≠ [] := by
            rw [← hd]
            intro e
            have := congrArg List.length e
            rw [List.length_drop, List.length_nil] at this
            omega
          rw [Int.toNat_natCast, Int.toNat_natCast, extract_mkB, dash_one, append_mkB, append_mkB]
          have hz : (W.take n).drop n = [] := List.drop_eq_nil_of_le (by rw [List.length_take]; omega)
          have ih := show_l W L t (Lp ++ [c]) (acc ++ ((W.take n).drop fr ++ [45])) n n (by rw [hL, List.append_assoc]; rfl) hd hn (Nat.le_refl _) (by rw [hz, List.append_nil, ← List.append_assoc, ha, hc]) (fun _ => hne2)
          rw [decide_eq_true rfl] at ih
          exact ih
        · have h0 : noD t = [] := by rw [← hd, List.drop_eq_nil_of_le (by omega)]
          rw [if_pos (Or.inr (by rw [size_mkB]; omega)), D_none t h0, if_neg (by simp)]
    · rw [if_neg hc, if_neg hc]
      rw [noD, if_neg hc] at hd
      have hw : n < W.length := by
        have := congrArg List.length hd
        rw [List.length_drop, List.length_cons] at this
        omega
      have hd2 : W.drop (n + 1) = noD t := by
        rw [List.drop_eq_getElem_cons hw] at hd
        injection hd
      have hcn : W[n] = c := by
        rw [List.drop_eq_getElem_cons hw] at hd
        injection hd
      have ih := show_l W L t (Lp ++ [c]) acc (n + 1) fr (by rw [hL, List.append_assoc]; rfl) hd2 hw (by omega) (by
        rw [← ha, List.append_assoc]
        congr 1
        rw [List.take_succ_eq_append_getElem hw, List.drop_append_of_le_length (by rw [List.length_take]; omega), hcn]) (fun e => by omega)
      rw [decide_eq_false (show ¬ fr = n + 1 by omega)] at ih
      exact ih
theorem show_all (L : List UInt8) (hW : noD L ≠ []) : showR (mkB (noD L)) (pts L 0) ⟨#[]⟩ 0 = if D true L = true then (mkB L, 0) else (⟨#[]⟩, 1) :=
  show_l (noD L) L L [] [] 0 0 rfl rfl (Nat.zero_le _) (Nat.le_refl _) rfl (fun _ => hW)
/-! ### hyphen.Read -/
theorem hread_l (L : List UInt8) (hL : L.length < 1000) (x5 x6 : ByteArray) {G : ByteArray × List Int × Int} (h : Evl (fun k => ((hyphen_Show.f k x5 (pts L 0)).bind fun bt187 => (if bt187.2 = 0 then (if bt187.1.toList = (mkB L).toList then (if x6.toList = ([] : List UInt8) then (some ((⟨#[]⟩ : ByteArray), ([] : List Int), (4 : Int))) else (some (x5, pts L 0, 0))) else (some ((⟨#[]⟩ : ByteArray), ([] : List Int), 4))) else (some ((⟨#[]⟩ : ByteArray), ([] : List Int), 4))))) G) :
    ∀ (m i : Nat) (x8 : List Int) (n : Nat), i + m = L.length → n ≤ i → x8.length ≤ i → x8 ++ pts (L.drop i) (n : Int) = pts L 0 → Evl (fun k => hyphen_Read.l0 k (mkB L) x5 x6 x8 (n : Int) (L.length : Int) (i : Int)) G
  | 0, i, x8, n, e, hn, h8, hp => by
    refine Evl.succ ?_
    simp only [hyphen_Read.l0]
    refine Evl.neg (by omega) ?_
    rw [List.drop_eq_nil_of_le (by omega), pts, List.append_nil] at hp
    rw [hp]
    exact h
  | m + 1, i, x8, n, e, hn, h8, hp => by
    have hi : i < L.length := by omega
    rw [List.drop_eq_getElem_cons hi, pts] at hp
    refine Evl.succ ?_
    simp only [hyphen_Read.l0, size_mkB, bt_mkB L i hi]
    refine Evl.pos (by omega) (Evl.pos (by omega) (Evl.pos (by omega) ?_))
    rw [wn (by omega), wn (by omega)]
    have hb : ((L[i].toNat : Int) = 45) ↔ L[i] = 45 := b_eq (n := 45) (by decide)
    refine Evl.ite (fun c => ?_) (fun c => ?_)
    · rw [if_pos (hb.1 c)] at hp
      refine Evl.pos (by omega) ?_
      exact hread_l L hL x5 x6 h m (i + 1) (x8 ++ [(n : Int)]) n (by omega) (by omega) (by simp; omega) (by rw [List.append_assoc]; exact hp)
    · rw [if_neg (fun h => c (hb.2 h))] at hp
      exact hread_l L hL x5 x6 h m (i + 1) x8 (n + 1) (by omega) (by omega) (by omega) hp
/-- What Read answers. -/
def readR (L : List UInt8) : ByteArray × List Int × Int := if (isW (noD L) && D true L) = true then (mkB (noD L), pts L 0, 0) else (⟨#[]⟩, [], 4)
theorem refused (L : List UInt8) (h : (isW (noD L) && D true L) = false) : readR L = (⟨#[]⟩, [], 4) := by unfold readR; rw [if_neg (by rw [h]; simp)]
theorem isW_ne {w : List UInt8} (h : isW w = true) : w ≠ [] := by
  rintro rfl
  simp [isW] at h
theorem isW_len {w : List UInt8} (h : isW w = true) : w.length ≤ 60 := by
  unfold isW at h
  simp only [Bool.and_eq_true, decide_eq_true_eq] at h
  omega
theorem hread_ev (L : List UInt8) (hL : L.length ≤ 200) : Evl (fun k => hyphen_Read.f k (mkB L)) (readR L) := by
  have hlen := noD_len L
  have e0 : strings_ReplaceAll.f (mkB L) (⟨#[45]⟩ : ByteArray) (⟨#[]⟩ : ByteArray) = some (mkB (noD L)) := by
    unfold strings_ReplaceAll.f
    show (if _ then some (⟨(ReplOne.rep 45 [] (mkB L).data.toList).toArray⟩ : ByteArray) else none) = _
    rw [if_pos ⟨by rw [size_mkB]; omega, by decide, by decide⟩, data_mkB, noD_rep]
    rfl
  have bad : ∀ x6, Evl (fun k => hyphen_Read.j0 k (mkB L) (mkB (noD L)) x6 true) (⟨#[]⟩, [], 4) := fun x6 => by
    refine Evl.succ ?_
    simp only [hyphen_Read.j0, if_true]
    exact Evl.some _
  simp only [hyphen_Read.f, e0, low_eq (noD L) (by omega), Option.bind_some]
  cases hw : isW (noD L)
  · rw [refused L (by rw [hw]; rfl)]
    unfold isW at hw
    cases ha : (noD L).all lt
    · simp only [Bool.false_eq_true, if_false]
      exact bad _
    · rw [ha, Bool.true_and] at hw
      simp only [if_true, hw, Bool.false_eq_true, if_false]
      exact bad _
  · have hne := isW_ne hw
    have h60 := isW_len hw
    have hw2 := hw
    unfold isW at hw2
    simp only [Bool.and_eq_true] at hw2
    simp only [hw2.1, hw2.2, if_true, size_mkB]
    by_cases h120 : (L.length : Int) > 120
    · rw [decide_eq_true h120, refused L (by
        rw [hw, Bool.true_and]
        cases hD : D true L with
        | false => rfl
        | true => have := (D_len L).1 hD; omega)]
      exact bad _
    · rw [decide_eq_false h120]
      refine Evl.succ ?_
      simp only [hyphen_Read.j0, size_mkB]
      refine Evl.neg (by simp) ?_
      refine hread_l L (by omega) _ _ ?_ L.length 0 [] 0 (by omega) (by omega) (by simp) rfl
      have hs := hshow_ev (noD L) (by omega) (pts L 0) (by have := pts_len L 0; omega)
      unfold showF at hs
      rw [if_pos hw, show_all L hne] at hs
      refine Evl.bind hs ?_
      unfold readR
      rw [hw, Bool.true_and]
      cases hD : D true L
      · simp only [Bool.false_eq_true, if_false]
        exact Evl.neg (by simp) (Evl.some _)
      · simp only [if_true]
        refine Evl.neg ?_ (Evl.some _)
        rw [toList_mkB]
        simpa using hne
/-! ### the document's Read -/
/-- Small letters and hyphens that stand right. -/
def E : Bool → List UInt8 → Bool
  | p, [] => !p
  | p, c :: l => if 97 ≤ c.toNat ∧ c.toNat ≤ 122 then E false l else if c = 45 then (if p = true then false else E true l) else false
theorem exc_l (M : List UInt8) (hM : M.length < 2000000) : ∀ (m i n : Nat) (p : Bool), i + m = M.length → n ≤ i → (p = true ↔ i = 0 ∨ (∃ h : i - 1 < M.length, 0 < i ∧ M[i - 1] = 45)) → (p = true → i < M.length ∨ n = 0) →
    Evl (fun k => frisketref09_Exception.l0 k (mkB M) (n : Int) (i : Int)) (E p (M.drop i) && decide (1 ≤ n + (noD (M.drop i)).length ∧ n + (noD (M.drop i)).length ≤ 60))
  | 0, i, n, p, e, hn, hp, hz => by
    refine Evl.succ ?_
    simp only [frisketref09_Exception.l0, size_mkB]
    refine Evl.neg (by omega) ?_
    rw [List.drop_eq_nil_of_le (by omega), E, noD, List.length_nil, Nat.add_zero]
    have key : (if (n : Int) ≥ 1 then some (decide ((n : Int) ≤ 60)) else some false) = some (!p && decide (1 ≤ n ∧ n ≤ 60)) := by
      cases hpp : p
      · rw [Bool.not_false, Bool.true_and]
        by_cases c : (n : Int) ≥ 1
        · rw [if_pos c]; congr 1; exact decide_eq_decide.2 (by omega)
        · rw [if_neg c]; congr 1; exact (decide_eq_false (by omega)).symm
      · have := hz hpp
        rw [if_neg (by omega)]
        rfl
    exact (Evl.some _).of_eq fun k => key
  | m + 1, i, n, p, e, hn, hp, hz => by
    have hi : i < M.length := by omega
    refine Evl.succ ?_
    simp only [frisketref09_Exception.l0, size_mkB, bt_mkB M i hi, small_ev, Option.bind_some]
    refine Evl.pos (by omega) (Evl.pos (by omega) ?_)
    rw [wn (by omega), wn (by omega), List.drop_eq_getElem_cons hi, E, noD]
    have hb : ((M[i].toNat : Int) = 45) ↔ M[i] = 45 := b_eq (n := 45) (by decide)
    refine Evl.ite (fun c => ?_) (fun c => ?_)
    · have hc := of_decide_eq_true c
      have hne : M[i] ≠ 45 := fun h => by rw [h] at hc; exact absurd hc.1 (by decide)
      rw [if_pos hc, if_neg hne, List.length_cons]
      have ih := exc_l M hM m (i + 1) (n + 1) false (by omega) (by omega) (by
        constructor
        · intro h; cases h
        · rintro (h | ⟨h, _, h2⟩)
          · omega
          · exact absurd h2 hne) (by intro h; cases h)
      rw [show n + ((noD (M.drop (i + 1))).length + 1) = n + 1 + (noD (M.drop (i + 1))).length by omega]
      exact ih
    · have hc : ¬ (97 ≤ M[i].toNat ∧ M[i].toNat ≤ 122) := fun h => c (decide_eq_true h)
      rw [if_neg hc]
      refine Evl.ite (fun c2 => ?_) (fun c2 => ?_)
      · have h45 := hb.1 c2
        rw [if_pos h45, if_pos h45]
        refine Evl.ite (fun c3 => ?_) (fun c3 => Evl.ite (fun c4 => ?_) (fun c4 => ?_))
        · rw [if_pos (hp.2 (Or.inl (by omega))), Bool.false_and]; exact Evl.some _
        · rw [w64 (by omega) (by omega)] at c4
          rw [List.drop_eq_nil_of_le (show M.length ≤ i + 1 by omega)]
          have : (if p = true then false else E true []) = false := by cases p <;> rfl
          rw [this, Bool.false_and]
          exact Evl.some _
        · rw [w64 (x := (M.length : Int) - 1) (by omega) (by omega)] at c4
          have e1 : wrap64 ((i : Int) - 1) = ((i - 1 : Nat) : Int) := by rw [w64 (by omega) (by omega)]; omega
          rw [e1, bt_mkB M (i - 1) (by omega)]
          have hb2 : ((M[i - 1].toNat : Int) = 45) ↔ M[i - 1] = 45 := b_eq (n := 45) (by decide)
          refine Evl.pos (by omega) (Evl.pos (by omega) (Evl.ite (fun c5 => ?_) (fun c5 => ?_)))
          · rw [if_pos (hp.2 (Or.inr ⟨by omega, by omega, hb2.1 c5⟩)), Bool.false_and]; exact Evl.some _
          · have hpf : ¬ p = true := fun h => by
              rcases hp.1 h with h1 | ⟨h1, _, h2⟩
              · omega
              · exact c5 (hb2.2 h2)
            rw [if_neg hpf]
            exact exc_l M hM m (i + 1) n true (by omega) (by omega) ⟨fun _ => Or.inr ⟨by omega, by omega, h45⟩, fun _ => rfl⟩ (fun _ => Or.inl (by omega))
      · rw [if_neg (fun h => c2 (hb.2 h)), Bool.false_and]
        exact Evl.some _
theorem E_low : ∀ (l : List UInt8) (p : Bool), E p (l.map low8) = ((noD l).all lt && D p l)
  | [], p => rfl
  | c :: l, p => by
    have hs := small_low c
    rw [List.map_cons, E, noD, D]
    by_cases h45 : c = 45
    · have h2 : low8 c = 45 := (low_dash c).2 h45
      rw [if_pos h45, if_pos h45, if_neg (by rw [h2]; decide), if_pos h2]
      cases p
      · simp only [Bool.false_eq_true, if_false]; exact E_low l true
      · simp
    · have h2 : low8 c ≠ 45 := fun h => h45 ((low_dash c).1 h)
      rw [if_neg h45, if_neg h45, if_neg h2, List.all_cons]
      by_cases h3 : 97 ≤ (low8 c).toNat ∧ (low8 c).toNat ≤ 122
      · rw [if_pos h3, E_low l false, ← hs, decide_eq_true h3, Bool.true_and]
      · rw [if_neg h3, ← hs, decide_eq_false h3, Bool.false_and, Bool.false_and]
theorem noD_low : ∀ l : List UInt8, (noD (l.map low8)).length = (noD l).length
  | [] => rfl
  | c :: l => by
    rw [List.map_cons, noD, noD]
    by_cases h45 : c = 45
    · rw [if_pos h45, if_pos ((low_dash c).2 h45)]; exact noD_low l
    · rw [if_neg h45, if_neg (fun h => h45 ((low_dash c).1 h)), List.length_cons, List.length_cons, noD_low l]
theorem bare_l (L : List UInt8) (hL : L.length < 2000000) : ∀ (m i : Nat) (w : List UInt8) (P : List Int), i + m = L.length → w.length ≤ i → P.length ≤ i →
    Evl (fun k => frisketref09_bare.l0 k (mkB L) (mkB w) P (i : Int)) (mkB (w ++ noD (L.drop i)), P ++ pts (L.drop i) (w.length : Int))
  | 0, i, w, P, e, hw, hP => by
    refine Evl.succ ?_
    simp only [frisketref09_bare.l0, size_mkB]
    refine Evl.neg (by omega) ?_
    rw [List.drop_eq_nil_of_le (by omega), noD, pts, List.append_nil, List.append_nil]
    exact Evl.some _
  | m + 1, i, w, P, e, hw, hP => by
    have hi : i < L.length := by omega
    refine Evl.succ ?_
    simp only [frisketref09_bare.l0, size_mkB, bt_mkB L i hi]
    refine Evl.pos (by omega) (Evl.pos (by omega) ?_)
    rw [wn (by omega), List.drop_eq_getElem_cons hi, noD, pts]
    have hb : ((L[i].toNat : Int) = 45) ↔ L[i] = 45 := b_eq (n := 45) (by decide)
    refine Evl.ite (fun c => ?_) (fun c => ?_)
    · rw [if_pos (hb.1 c), if_pos (hb.1 c)]
      refine Evl.pos (by omega) ?_
      have ih := bare_l L hL m (i + 1) w (P ++ [(w.length : Int)]) (by omega) (by omega) (by simp; omega)
      rw [List.append_assoc] at ih
      exact ih
    · rw [if_neg (fun h => c (hb.2 h)), if_neg (fun h => c (hb.2 h))]
      have e2 : (mkB L).extract ((i : Int)).toNat (((i + 1 : Nat) : Int)).toNat = mkB [L[i]] := by
        have := ext_drop (l := L) (i := i) (u := [L[i]]) (t := L.drop (i + 1)) (by rw [List.drop_eq_getElem_cons hi]; rfl)
        simpa using this
      refine Evl.pos (by omega) (Evl.pos (by omega) ?_)
      rw [e2, size_mkB, append_mkB]
      refine Evl.pos (by simp; omega) ?_
      have ih := bare_l L hL m (i + 1) (w ++ [L[i]]) P (by omega) (by simp; omega) (by omega)
      rw [List.append_assoc, List.length_append] at ih
      exact ih
theorem rread_ev (L : List UInt8) (hL : L.length ≤ 200) : Evl (fun k => frisketref09_Read.f k (mkB L)) (readR L) := by
  simp only [frisketref09_Read.f]
  refine Evl.bind (lower_ev L (by omega)) ?_
  have hx := exc_l (L.map low8) (by rw [List.length_map]; omega) (L.map low8).length 0 0 true (by omega) (by omega) ⟨fun _ => Or.inl rfl, fun _ => rfl⟩ (fun _ => Or.inr rfl)
  rw [List.drop_zero, E_low, noD_low, Nat.zero_add] at hx
  have hx2 : Evl (fun k => frisketref09_Exception.f k (mkB (L.map low8))) (isW (noD L) && D true L) := by
    simp only [frisketref09_Exception.f]
    have e : (isW (noD L) && D true L) = ((noD L).all lt && D true L && decide (1 ≤ (noD L).length ∧ (noD L).length ≤ 60)) := by
      unfold isW
      cases (noD L).all lt <;> cases D true L <;> simp
    rw [e]
    exact hx
  refine Evl.bind hx2 ?_
  unfold readR
  refine Evl.ite (fun c => ?_) (fun c => ?_)
  · rw [if_pos c]
    have hb := bare_l L (by omega) L.length 0 [] [] (by omega) (by simp) (by simp)
    rw [List.drop_zero, List.nil_append, List.nil_append] at hb
    refine Evl.bind (f := fun k => frisketref09_bare.f k (mkB L)) (v := (mkB (noD L), pts L 0)) ?_ (Evl.some _)
    simp only [frisketref09_bare.f]
    exact hb
  · rw [if_neg c]
    exact Evl.some _
/-! ### the law -/
theorem num_l (l : List Int) (hl : l.length < 1000) : ∀ (m i : Nat), i + m = l.length → Evl (fun k => frisketlaw09_numbers.l0 k l l (i : Int)) true
  | 0, i, h => by
    refine Evl.succ ?_
    simp only [frisketlaw09_numbers.l0]
    exact Evl.neg (by omega) (Evl.some _)
  | m + 1, i, h => by
    refine Evl.succ ?_
    simp only [frisketlaw09_numbers.l0]
    refine Evl.pos (by omega) (Evl.pos (by omega) (Evl.pos (by omega) (Evl.pos trivial ?_)))
    rw [wn (by omega)]
    exact num_l l hl m (i + 1) (by omega)
theorem num_ev (l : List Int) (hl : l.length < 1000) : Evl (fun k => frisketlaw09_numbers.f k l l) true := by
  simp only [frisketlaw09_numbers.f]
  exact Evl.pos trivial (num_l l hl l.length 0 (by omega))
set_option maxRecDepth 100000 in
theorem sane0 : frisketlaw09_sane.f 4000 = some true := by decide +kernel
theorem sane_ev : Evl (fun k => frisketlaw09_sane.f k) true := by
  have h : ∀ n, frisketlaw09_sane.f (4000 + n) = some true := by
    intro n
    induction n with
    | zero => exact sane0
    | succ n ih => exact frisketlaw09_sane.mono (4000 + n) _ ih
  refine ⟨4000, fun k hk => ?_⟩
  have := h (k - 4000)
  rw [show 4000 + (k - 4000) = k by omega] at this
  exact this
theorem shows_ev (a0 : ByteArray) (l1 : List Int) : Evl (fun k => frisketlaw09_HyphenShows.f k a0 l1) true := by
  have sane_ : Evl (fun k => frisketlaw09_HyphenShows.j0 k a0 l1 true) true := by
    refine Evl.succ ?_
    simp only [frisketlaw09_HyphenShows.j0, if_true]
    exact Evl.bind sane_ev (Evl.some _)
  simp only [frisketlaw09_HyphenShows.f]
  refine Evl.ite (fun _ => sane_) (fun h0 => ?_)
  by_cases h1 : (l1.length : Int) > 200
  · rw [decide_eq_true h1]; exact sane_
  · rw [decide_eq_false h1]
    obtain ⟨L, rfl⟩ : ∃ L, a0 = mkB L := ⟨_, mkB_data a0⟩
    rw [size_mkB] at h0
    refine Evl.succ ?_
    simp only [frisketlaw09_HyphenShows.j0]
    refine Evl.neg (by simp) ?_
    refine Evl.bind (hshow_ev L (by omega) l1 (by omega)) (Evl.bind (rshow_ev L (by omega) l1 (by omega)) (Evl.pos rfl (Evl.succ ?_)))
    simp only [frisketlaw09_HyphenShows.j1]
    refine Evl.neg (by simp) ?_
    refine Evl.bind (hread_ev L (by omega)) (Evl.bind (rread_ev L (by omega)) (Evl.pos rfl ?_))
    have hp : (readR L).2.1.length < 1000 := by
      unfold readR
      split
      · have := pts_len L 0
        show (pts L 0).length < 1000
        omega
      · simp
    exact Evl.bind (num_ev _ hp) (Evl.pos rfl (Evl.pos rfl (Evl.bind sane_ev (Evl.some _))))
end Go.Proofs.YtegcelmjejhnfaaDoor.Read9
