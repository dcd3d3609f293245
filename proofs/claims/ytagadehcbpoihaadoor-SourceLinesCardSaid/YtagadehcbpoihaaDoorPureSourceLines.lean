/- SourceLines, the plain law. -/
import Derived.Test.YtagadehcbpoihaaDoorQSlx2
import Derived.Test.YtagadehcbpoihaaDoorEvl
namespace Go.Proofs.YtagadehcbpoihaaDoor.Pure
open Go.RowKit Go.Proofs.YtagadehcbpoihaaDoor.QSl Go.Proofs.YtagadehcbpoihaaDoorW.PrintWords Go.Proofs.YtagadehcbpoihaaDoorW.PrintLast Go.Proofs.YtagadehcbpoihaaDoorN Go.Proofs.YtagadehcbpoihaaDoor.Evl Go.Proofs.YtagadehcbpoihaaDoor.Str Go.Proofs.YtagadehcbpoihaaDoor.Cut Go.Proofs.YtagadehcbpoihaaDoor.Lines5
set_option linter.unusedVariables false
set_option linter.unusedSimpArgs false
def lnB (n : Nat) (l : List UInt8) : List ByteArray := (lns n l).map mkB
theorem pieces_eq (l : List UInt8) : piecesL l = lnB (l.length + 1) l := by
  unfold piecesL lnB
  by_cases h : l = []
  · rw [if_pos h, h]; rfl
  · rw [if_neg h]
    have h1 := spl_trim (l.length + 1) l (Nat.lt_succ_self _) h (l.length + 1) (Nat.lt_succ_self _)
    have h2 : (trim l).length ≤ l.length := by
      unfold trim
      split
      · rw [List.length_dropLast]; omega
      · exact Nat.le_refl _
    have h3 : (trim l).count 10 ≤ l.length + 1 := by have := List.count_le_length (a := (10 : UInt8)) (l := trim l); omega
    rw [← spl_all (l.length + 1) (trim l) h3, h1]
theorem lns_len : ∀ (n : Nat) (l : List UInt8), (lns n l).length ≤ l.length := by
  intro n
  induction n with
  | zero => intro l; simp [lns]
  | succ n ih =>
    intro l
    cases hc : cutB 10 l with
    | none =>
      rw [lns_none hc]
      split
      · simp
      · rename_i h
        have := List.length_pos_iff.2 h
        simp only [List.length_cons, List.length_nil]
        omega
    | some pq =>
      obtain ⟨p, q⟩ := pq
      have := cut_len hc
      have := ih q
      rw [lns_some hc, List.length_cons]
      omega
/-- The document's loop: from is where a line began; p is what was read of it. -/
theorem ref_l (l : List UInt8) (hl : l.length < 1000000) : ∀ (m i j n : Nat) (xs : List ByteArray), j + m = l.length → i ≤ j → (∀ c ∈ (l.take j).drop i, c ≠ 10) → l.length < i + n → xs.length ≤ i → Evl (fun k => frisketref05_Lines.l0 k (mkB l) xs (i : Int) (j : Int)) (xs ++ lnB n (l.drop i))
  | 0, i, j, n, xs, e, hij, hp, hn, hx => by
    have hj : l.take j = l := List.take_of_length_le (by omega)
    rw [hj] at hp
    obtain ⟨n, rfl⟩ : ∃ k, n = k + 1 := ⟨n - 1, by omega⟩
    refine Evl.succ ?_
    simp only [frisketref05_Lines.l0, size_mkB]
    refine Evl.neg (by omega) ?_
    have hno : cutB 10 (l.drop i) = none := cut_no _ hp
    unfold lnB
    rw [lns_none hno]
    by_cases hi : i < l.length
    · have hne : l.drop i ≠ [] := by
        intro e2
        have := congrArg List.length e2
        rw [List.length_drop] at this
        simp only [List.length_nil] at this
        omega
      rw [if_neg hne, Int.toNat_natCast]
      have hex : (mkB l).extract i l.length = mkB (l.drop i) := by rw [extract_mkB, List.take_length]
      rw [hex]
      exact Evl.pos (by omega) (Evl.pos (by omega) (Evl.pos (by omega) (Evl.pos (by omega) (Evl.some _))))
    · rw [List.drop_eq_nil_of_le (by omega), if_pos rfl, List.map_nil, List.append_nil]
      exact Evl.neg (by omega) (Evl.some _)
  | m + 1, i, j, n, xs, e, hij, hp, hn, hx => by
    have hj : j < l.length := by omega
    have hb : ((l[j].toNat : Int) = 10) ↔ l[j] = 10 := b_eq (n := 10) (by decide)
    refine Evl.succ ?_
    simp only [frisketref05_Lines.l0, size_mkB, bt_mkB l j hj]
    rw [wn (by omega)]
    refine Evl.pos (by omega) (Evl.pos (by omega) (Evl.ite (fun c => ?_) (fun c => ?_)))
    · obtain ⟨n, rfl⟩ : ∃ k, n = k + 1 := ⟨n - 1, by omega⟩
      have hd : l.drop i = (l.take j).drop i ++ 10 :: l.drop (j + 1) := by
        have h1 : l = l.take j ++ l.drop j := (List.take_append_drop j l).symm
        have h2 : l.drop j = l[j] :: l.drop (j + 1) := List.drop_eq_getElem_cons hj
        rw [hb.1 c] at h2
        conv => lhs; rw [h1]
        rw [h2, List.drop_append_of_le_length (by rw [List.length_take]; omega)]
      have hcut : cutB 10 (l.drop i) = some ((l.take j).drop i, l.drop (j + 1)) := by rw [hd]; exact cut_of _ _ hp
      have hex : (mkB l).extract (i : Int).toNat (j : Int).toNat = mkB ((l.take j).drop i) := by rw [Int.toNat_natCast, Int.toNat_natCast, extract_mkB]
      rw [hex]
      have ih := ref_l l hl m (j + 1) (j + 1) n (xs ++ [mkB ((l.take j).drop i)]) (by omega) (Nat.le_refl _) (by
        intro c hc
        rw [List.drop_eq_nil_of_le (by rw [List.length_take]; omega)] at hc
        cases hc) (by omega) (by rw [List.length_append, List.length_cons, List.length_nil]; omega)
      have hv : xs ++ lnB (n + 1) (l.drop i) = (xs ++ [mkB ((l.take j).drop i)]) ++ lnB n (l.drop (j + 1)) := by
        unfold lnB
        rw [lns_some hcut, List.map_cons, List.append_assoc]
        rfl
      rw [hv]
      exact Evl.pos (by omega) (Evl.pos (by omega) (Evl.pos (by omega) (Evl.pos (by omega) ih)))
    · refine ref_l l hl m i (j + 1) n xs (by omega) (by omega) ?_ hn hx
      intro d hd
      rw [List.take_add_one, List.getElem?_eq_getElem hj] at hd
      rw [List.drop_append_of_le_length (by rw [List.length_take]; omega)] at hd
      rcases List.mem_append.1 hd with hd | hd
      · exact hp d hd
      · simp at hd
        rw [hd]
        exact fun e => c (hb.2 e)
theorem ref_ev (l : List UInt8) (hl : l.length < 1000000) : Evl (fun k => frisketref05_Lines.f k (mkB l)) (lnB (l.length + 1) l) := by
  have h := ref_l l hl l.length 0 0 (l.length + 1) [] (by omega) (Nat.le_refl _) (by intro c hc; simp at hc) (by omega) (Nat.le_refl _)
  rw [List.drop_zero, List.nil_append] at h
  exact h
theorem texts_l (x : List ByteArray) (hl : x.length < 10000000) : ∀ (m i : Nat), i + m = x.length → Evl (fun k => frisketlaw05_texts.l0 k x x (i : Int)) true
  | 0, i, e => by
    refine Evl.succ ?_
    simp only [frisketlaw05_texts.l0]
    exact Evl.neg (by omega) (Evl.some _)
  | m + 1, i, e => by
    have ih := texts_l x hl m (i + 1) (by omega)
    refine Evl.succ ?_
    simp only [frisketlaw05_texts.l0]
    rw [wn (by omega)]
    exact Evl.pos (by omega) (Evl.pos (by omega) (Evl.pos (by omega) (Evl.pos trivial ih)))
theorem texts_ev (x : List ByteArray) (hl : x.length < 10000000) : Evl (fun k => frisketlaw05_texts.f k x x) true := by
  unfold frisketlaw05_texts.f
  exact Evl.pos rfl (texts_l x hl x.length 0 (by omega))
theorem joined_app (a b : List (List UInt8)) : joined (a ++ b) = joined a ++ joined b := by simp [joined]
theorem joined_pre (L : List (List UInt8)) (i : Nat) : (joined (L.take i)).length ≤ (joined L).length := by
  have h := congrArg List.length (congrArg joined (List.take_append_drop i L))
  rw [joined_app, List.length_append] at h
  omega
theorem sane_ev {f : Nat → Bool → Option Bool} (h : ∀ k b, f k b = some b) : Evl (fun k => (frisketlaw05_sane.f).bind (f k)) true := by
  refine (Evl.some true).of_eq (fun k => ?_)
  show (some true).bind (f k) = some true
  rw [Option.bind_some, h]
theorem loop_l (l : List UInt8) (hl : l.length < 1000000) (L : List (List UInt8)) (hL : joined L = if l = [] ∨ l.getLast? = some 10 then l else l ++ [10]) (hn : L.length ≤ l.length) : ∀ (m i : Nat), i + m = L.length → Evl (fun k => frisketlaw05_SourceLines.l0 k (mkB l) (L.map mkB) (mkB (joined (L.take i))) (i : Int)) true
  | 0, i, e => by
    rw [List.take_of_length_le (by omega)]
    refine Evl.succ ?_
    simp only [frisketlaw05_SourceLines.l0, List.length_map, toList_mkB]
    refine Evl.neg (by omega) ?_
    by_cases hc : l = [] ∨ l.getLast? = some 10
    · rw [hL, if_pos hc]
      exact Evl.pos rfl (sane_ev fun _ _ => rfl)
    · have hne : l ≠ [] := fun e => hc (Or.inl e)
      have hpos := List.length_pos_iff.2 hne
      have hla : l.getLast? = some (l[l.length - 1]'(by omega)) := by rw [List.getLast?_eq_getElem?, List.getElem?_eq_getElem (by omega)]
      have h10 : l[l.length - 1]'(by omega) ≠ 10 := fun e => hc (Or.inr (by rw [hla, e]))
      have ew : wrap64 (((mkB l).size : Int) - 1) = ((l.length - 1 : Nat) : Int) := by rw [size_mkB, w64 (by omega) (by omega)]; omega
      have hb : ((((l[l.length - 1]'(by omega)) : UInt8).toNat : Int) = 10) ↔ (l[l.length - 1]'(by omega)) = 10 := b_eq (n := 10) (by decide)
      rw [hL, if_neg hc, ew, bt_mkB l (l.length - 1) (by omega)]
      clear ew
      refine Evl.neg (fun e => ?_) (Evl.pos (by rw [size_mkB]; omega) (Evl.pos ?_ (Evl.pos (by rw [size_mkB]; omega) (Evl.pos (by omega) (Evl.pos (by rw [size_mkB]; omega) (Evl.neg (fun e => h10 (hb.1 e)) (sane_ev fun _ _ => rfl)))))))
      · have := congrArg List.length e
        rw [List.length_append] at this
        simp only [List.length_cons, List.length_nil] at this
        omega
      · rw [show (⟨#[10]⟩ : ByteArray) = mkB [10] from rfl, append_mkB, toList_mkB]
  | m + 1, i, e => by
    have hi : i < L.length := by omega
    have hz : rdOf ByteArray.empty (L.map mkB) (i : Int) = mkB L[i] := by
      unfold rdOf
      rw [Int.toNat_natCast, List.getD_eq_getElem?_getD, List.getElem?_map, List.getElem?_eq_getElem hi, Option.map_some, Option.getD_some]
    have hj : joined (L.take (i + 1)) = joined (L.take i) ++ (L[i] ++ [10]) := by
      rw [List.take_add_one, List.getElem?_eq_getElem hi, joined_app]
      simp [joined]
    have h1 := joined_pre L (i + 1)
    have h2 : (joined L).length ≤ l.length + 1 := by
      rw [hL]
      split
      · omega
      · rw [List.length_append, List.length_cons, List.length_nil]; omega
    have h3 := congrArg List.length hj
    rw [List.length_append, List.length_append, List.length_cons, List.length_nil] at h3
    have ih := loop_l l hl L hL hn m (i + 1) (by omega)
    refine Evl.succ ?_
    simp only [frisketlaw05_SourceLines.l0, List.length_map]
    rw [wn (by omega), hz, show (⟨#[10]⟩ : ByteArray) = mkB [10] from rfl]
    simp only [append_mkB, size_mkB]
    rw [hj] at ih
    exact Evl.pos (by omega) (Evl.pos (by omega) (Evl.pos (by omega) (Evl.pos (by rw [List.length_append, List.length_cons, List.length_nil]; omega) ih)))
theorem SourceLines : frisketlaw05_SourceLines.Pure := by
  intro a0 h0
  refine Evl.out ?_
  obtain ⟨l, rfl⟩ : ∃ l, a0 = mkB l := ⟨_, mkB_data a0⟩
  unfold frisketlaw05_SourceLines.f
  rw [size_mkB]
  refine Evl.ite (fun _ => sane_ev fun _ _ => rfl) (fun c => ?_)
  have hl : l.length < 1000000 := by omega
  have hf : source_Lines.f (mkB l) = some (lnB (l.length + 1) l) := by
    unfold source_Lines.f
    rw [size_mkB, if_pos hl, data_mkB, pieces_eq]
  have hlen : (lnB (l.length + 1) l).length < 10000000 := by
    have := lns_len (l.length + 1) l
    unfold lnB
    rw [List.length_map]
    omega
  rw [hf]
  refine Evl.bind (Evl.some _) (Evl.bind (f := fun k => frisketref05_Lines.f k (mkB l)) (ref_ev l hl) (Evl.bind (f := fun k => frisketlaw05_texts.f k (lnB (l.length + 1) l) (lnB (l.length + 1) l)) (texts_ev _ hlen) (Evl.pos rfl ?_)))
  have h := loop_l l hl (lns (l.length + 1) l) (join_lns (l.length + 1) l (Nat.lt_succ_self _)) (lns_len _ _) (lns (l.length + 1) l).length 0 (by omega)
  rw [List.take_zero] at h
  exact h
end Go.Proofs.YtagadehcbpoihaaDoor.Pure
