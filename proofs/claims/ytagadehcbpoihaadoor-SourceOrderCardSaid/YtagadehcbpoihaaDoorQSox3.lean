/- A file's lines come in order: the law's walk, in the print's form. -/
import Derived.Test.YtagadehcbpoihaaDoorQSox2
import Derived.Test.YtagadehcbpoihaaDoorEvl
import Derived.Test.YtagadehcbpoihaaDoorFOrdSo
import Derived.Deep.RegionLaw
/- A file's lines come in order: what the walk asks holds. -/
/- The document's lines are the library's pieces. -/
namespace Go.Proofs.YtagadehcbpoihaaDoor.RefL
open Go.RowKit Go.Proofs.YtagadehcbpoihaaDoor.QSo Go.Proofs.YtagadehcbpoihaaDoorW.PrintWords Go.Proofs.YtagadehcbpoihaaDoorW.PrintLast Go.Proofs.YtagadehcbpoihaaDoorN Go.Proofs.YtagadehcbpoihaaDoor.Evl Go.Proofs.YtagadehcbpoihaaDoor.Str Go.Proofs.YtagadehcbpoihaaDoor.Cut Go.Proofs.YtagadehcbpoihaaDoor.Lines5 Go.Proofs.YtagadehcbpoihaaDoor.QSl
set_option linter.unusedVariables false
set_option linter.unusedSimpArgs false
def lnB (n : Nat) (l : List UInt8) : List ByteArray := (lns n l).map mkB
theorem pieces_eq (l : List UInt8) : piecesL l = lnB (l.length + 1) l := by
  unfold piecesL lnB
  by_cases h : l = []
  · rw [if_pos h, h]; rfl
  · rw [if_neg h]
    have h1 := spl_trim (l.length + 1) l (Nat.lt_succ_self _) h (l.length + 1) (Nat.lt_succ_self _)
    have h2 : (trim l).length ≤ l.length := by
      unfold trim
      split
      · rw [List.length_dropLast]; omega
      · exact Nat.le_refl _
    have h3 : (trim l).count 10 ≤ l.length + 1 := by have := List.count_le_length (a := (10 : UInt8)) (l := trim l); omega
    rw [← spl_all (l.length + 1) (trim l) h3, h1]
theorem lns_len : ∀ (n : Nat) (l : List UInt8), (lns n l).length ≤ l.length := by
  intro n
  induction n with
  | zero => intro l; simp [lns]
  | succ n ih =>
    intro l
    cases hc : cutB 10 l with
    | none =>
      rw [lns_none hc]
      split
      · simp
      · rename_i h
        have := List.length_pos_iff.2 h
        simp only [List.length_cons, List.length_nil]
        omega
    | some pq =>
      obtain ⟨p, q⟩ := pq
      have := cut_len hc
      have := ih q
      rw [lns_some hc, List.length_cons]
      omega
/-- The document's loop: from is where a line began; p is what was read of it. -/
theorem ref_l (l : List UInt8) (hl : l.length < 1000000) : ∀ (m i j n : Nat) (xs : List ByteArray), j + m = l.length → i ≤ j → (∀ c ∈ (l.take j).drop i, c ≠ 10) → l.length < i + n → xs.length ≤ i → Evl (fun k => frisketref05_Lines.l0 k (mkB l) xs (i : Int) (j : Int)) (xs ++ lnB n (l.drop i))
  | 0, i, j, n, xs, e, hij, hp, hn, hx => by
    have hj : l.take j = l := List.take_of_length_le (by omega)
    rw [hj] at hp
    obtain ⟨n, rfl⟩ : ∃ k, n = k + 1 := ⟨n - 1, by omega⟩
    refine Evl.succ ?_
    simp only [frisketref05_Lines.l0, size_mkB]
    refine Evl.neg (by omega) ?_
    have hno : cutB 10 (l.drop i) = none := cut_no _ hp
    unfold lnB
    rw [lns_none hno]
    by_cases hi : i < l.length
    · have hne : l.drop i ≠ [] := by
        intro e2
        have := congrArg List.length e2
        rw [List.length_drop] at this
        simp only [List.length_nil] at this
        omega
      rw [if_neg hne, Int.toNat_natCast]
      have hex : (mkB l).extract i l.length = mkB (l.drop i) := by rw [extract_mkB, List.take_length]
      rw [hex]
      exact Evl.pos (by omega) (Evl.pos (by omega) (Evl.pos (by omega) (Evl.pos (by omega) (Evl.some _))))
    · rw [List.drop_eq_nil_of_le (by omega), if_pos rfl, List.map_nil, List.append_nil]
      exact Evl.neg (by omega) (Evl.some _)
  | m + 1, i, j, n, xs, e, hij, hp, hn, hx => by
    have hj : j < l.length := by omega
    have hb : ((l[j].toNat : Int) = 10) ↔ l[j] = 10 := b_eq (n := 10) (by decide)
    refine Evl.succ ?_
    simp only [frisketref05_Lines.l0, size_mkB, bt_mkB l j hj]
    rw [wn (by omega)]
    refine Evl.pos (by omega) (Evl.pos (by omega) (Evl.ite (fun c => ?_) (fun c => ?_)))
    · obtain ⟨n, rfl⟩ : ∃ k, n = k + 1 := ⟨n - 1, by omega⟩
      have hd : l.drop i = (l.take j).drop i ++ 10 :: l.drop (j + 1) := by
        have h1 : l = l.take j ++ l.drop j := (List.take_append_drop j l).symm
        have h2 : l.drop j = l[j] :: l.drop (j + 1) := List.drop_eq_getElem_cons hj
        rw [hb.1 c] at h2
        conv => lhs; rw [h1]
        rw [h2, List.drop_append_of_le_length (by rw [List.length_take]; omega)]
      have hcut : cutB 10 (l.drop i) = some ((l.take j).drop i, l.drop (j + 1)) := by rw [hd]; exact cut_of _ _ hp
      have hex : (mkB l).extract (i : Int).toNat (j : Int).toNat = mkB ((l.take j).drop i) := by rw [Int.toNat_natCast, Int.toNat_natCast, extract_mkB]
      rw [hex]
      have ih := ref_l l hl m (j + 1) (j + 1) n (xs ++ [mkB ((l.take j).drop i)]) (by omega) (Nat.le_refl _) (by
        intro c hc
        rw [List.drop_eq_nil_of_le (by rw [List.length_take]; omega)] at hc
        cases hc) (by omega) (by rw [List.length_append, List.length_cons, List.length_nil]; omega)
      have hv : xs ++ lnB (n + 1) (l.drop i) = (xs ++ [mkB ((l.take j).drop i)]) ++ lnB n (l.drop (j + 1)) := by
        unfold lnB
        rw [lns_some hcut, List.map_cons, List.append_assoc]
        rfl
      rw [hv]
      exact Evl.pos (by omega) (Evl.pos (by omega) (Evl.pos (by omega) (Evl.pos (by omega) ih)))
    · refine ref_l l hl m i (j + 1) n xs (by omega) (by omega) ?_ hn hx
      intro d hd
      rw [List.take_add_one, List.getElem?_eq_getElem hj] at hd
      rw [List.drop_append_of_le_length (by rw [List.length_take]; omega)] at hd
      rcases List.mem_append.1 hd with hd | hd
      · exact hp d hd
      · simp at hd
        rw [hd]
        exact fun e => c (hb.2 e)
theorem ref_ev (l : List UInt8) (hl : l.length < 1000000) : Evl (fun k => frisketref05_Lines.f k (mkB l)) (lnB (l.length + 1) l) := by
  have h := ref_l l hl l.length 0 0 (l.length + 1) [] (by omega) (Nat.le_refl _) (by intro c hc; simp at hc) (by omega) (Nat.le_refl _)
  rw [List.drop_zero, List.nil_append] at h
  exact h
end Go.Proofs.YtagadehcbpoihaaDoor.RefL

namespace Go.Proofs.YtagadehcbpoihaaDoor.Raw5
open Go.RowKit Go.Proofs.YtagadehcbpoihaaDoorW.PrintWords Go.Proofs.YtagadehcbpoihaaDoorW.PrintLast Go.Proofs.YtagadehcbpoihaaDoorW.PrintMore Go.Proofs.YtagadehcbpoihaaDoorN Go.Proofs.YtagadehcbpoihaaDoor.Str Go.Proofs.YtagadehcbpoihaaDoor.QSo Go.Proofs.YtagadehcbpoihaaDoor.Lines5 Go.Proofs.YtagadehcbpoihaaDoor.RefL
set_option linter.unusedVariables false
set_option linter.unusedSimpArgs false
theorem text_l (ps : List ByteArray) (hx : ps.length ≤ 8001) : ∀ (n i : Nat), i + n = ps.length → ∃ xs b, source_text.l0 (n + 1) ((ps.take i).map mkL) ps (ps.length : Int) (i : Int) = some (xs, b) ∧ ((b = false ∧ xs = []) ∨ (b = true ∧ xs = ps.map mkL))
  | 0, i, hn => by
    rw [source_text.l0, if_neg (by omega)]
    exact ⟨_, _, rfl, Or.inr ⟨rfl, by rw [List.take_of_length_le (by omega)]⟩⟩
  | n + 1, i, hn => by
    have hi : i < ps.length := by omega
    rw [source_text.l0, if_pos (by omega), if_pos (by omega), if_pos (by omega)]
    by_cases h1 : ((rdOf ByteArray.empty ps (i : Int)).size : Int) > 2000
    · rw [if_pos h1]; exact ⟨_, _, rfl, Or.inl ⟨rfl, rfl⟩⟩
    · rw [if_neg h1]
      by_cases h2 : ((((ps.take i).map mkL).length : Nat) : Int) = 20000
      · rw [if_pos h2]; exact ⟨_, _, rfl, Or.inl ⟨rfl, rfl⟩⟩
      · have h3 : ((ps.take i).map mkL).length < 2199023255552 := by rw [List.length_map, List.length_take]; omega
        rw [if_neg h2, if_pos h3]
        have e : wrap64 ((i : Int) + 1) = ((i + 1 : Nat) : Int) := by unfold wrap64; omega
        have e2 : ((ps.take i).map mkL) ++ [(⟨rdOf ByteArray.empty ps (i : Int), false, 0, 0, ([] : List S89)⟩ : S34)] = (ps.take (i + 1)).map mkL := by
          rw [List.take_add_one, List.getElem?_eq_getElem hi, List.map_append]
          have e3 : rdOf ByteArray.empty ps (i : Int) = ps[i] := by simp [rdOf, hi]
          rw [e3]
          rfl
        rw [e, e2]
        exact text_l ps hx n (i + 1) (by omega)
theorem spl_piece (l : List UInt8) : (QSl.piecesL l).length ≤ l.length + 1 := by
  rw [pieces_eq]
  have := lns_len (l.length + 1) l
  unfold lnB
  rw [List.length_map]
  omega
theorem text_ok (s : ByteArray) (h : s.size < 8000) : ∃ k xs b, source_text.f k s = some (xs, b) ∧ ((b = false ∧ xs = []) ∨ (b = true ∧ xs = (QSl.piecesL s.data.toList).map mkL)) := by
  have hp := spl_piece s.data.toList
  have hs : s.data.toList.length = s.size := Array.length_toList
  obtain ⟨xs, b, hr, ho⟩ := text_l (QSl.piecesL s.data.toList) (by omega) _ 0 (Nat.zero_add _)
  refine ⟨(QSl.piecesL s.data.toList).length + 1, xs, b, ?_, ho⟩
  rw [source_text.f, source_Lines.f, QSl.source_Lines.f, if_pos (by omega)]
  exact hr
theorem good1_ok (x : S34) : ∃ b, source_good_1.f x.f0 x.f1 x.f2 x.f3 x.f4 = some b := by
  unfold source_good_1.f
  have hc : strings_Contains.f x.f0 ⟨#[10]⟩ = some (decide (0 ≤ Lib.indexByte x.f0.data.toList 10)) := rfl
  rw [hc]
  simp only [Option.bind_some]
  repeat' split
  all_goals exact ⟨_, rfl⟩
theorem idx_l (xs : List S34) (hx : xs.length ≤ 20000) : ∀ (n i : Nat), i + n = xs.length → ∃ r, api_Line_83.l0 (n + 1) xs (xs.length : Int) (i : Int) = some r
  | 0, i, hn => by
    rw [api_Line_83.l0, if_neg (by omega)]
    exact ⟨_, rfl⟩
  | n + 1, i, hn => by
    rw [api_Line_83.l0, if_pos (by omega), if_pos (by omega), if_pos (by omega)]
    obtain ⟨b, hb⟩ := good1_ok (rd_T34 xs (i : Int))
    rw [hb]
    simp only [Option.bind_some]
    cases b with
    | true => exact ⟨_, rfl⟩
    | false =>
      rw [if_neg (by simp)]
      have e : wrap64 ((i : Int) + 1) = ((i + 1 : Nat) : Int) := by unfold wrap64; omega
      rw [e]
      exact idx_l xs hx n (i + 1) (by omega)
theorem good_ok (xs : List S34) : ∃ k b, source_good.f k xs = some b := by
  by_cases h : (xs.length : Int) ≤ 20000
  · obtain ⟨r, hr⟩ := idx_l xs (by omega) _ 0 (Nat.zero_add _)
    refine ⟨xs.length + 1, !(decide (r ≥ 0)), ?_⟩
    rw [source_good.f, if_pos h, api_Line_62.f, api_Line_83.f]
    have hr : api_Line_83.l0 (xs.length + 1) xs (xs.length : Int) 0 = some r := hr
    rw [hr]
    rfl
  · exact ⟨0, _, by rw [source_good.f, if_neg h]⟩
theorem deed_ok (d : S45) (h2 : d.f2.size < 8000) (h3 : d.f3.length < 8000) (h4 : d.f4.length < 8000) (hl : ∀ x ∈ d.f3, x.f4.length < 8000 ∧ ∀ b ∈ x.f4, b.f6.length < 17592186044416) : DeedOk d := by
  refine ⟨?_, good_ok d.f3, ⟨by omega, fun x hx => ⟨by have := (hl x hx).1; omega, fun b hb => ?_⟩⟩, ?_⟩
  · obtain ⟨k, xs, b, h, ho⟩ := text_ok d.f2 h2
    have hp := spl_piece d.f2.data.toList
    have hs : d.f2.data.toList.length = d.f2.size := Array.length_toList
    refine ⟨k, xs, b, h, ?_⟩
    rcases ho with ⟨_, rfl⟩ | ⟨_, rfl⟩
    · exact ⟨fun x hx => (by cases hx), Nat.zero_le _⟩
    · refine ⟨fun x hx => ?_, by rw [List.length_map]; omega⟩
      obtain ⟨t, _, rfl⟩ := List.mem_map.1 hx
      exact ⟨Nat.zero_le _, fun b hb => by cases hb⟩
  · have := (hl x hx).2 b hb
    show slices_Clone_int_int.f b.f6 = some b.f6
    unfold slices_Clone_int_int.f
    rw [Option.bind_some, if_pos (by rw [List.length_nil]; omega)]
    rfl
  · unfold slices_Clone_string_string.f
    rw [Option.bind_some, if_pos (by rw [List.length_nil]; omega)]
    rfl
/-- A deed that is not too big. -/
def Small (d : S45) : Prop := d.f2.size < 8000 ∧ d.f3.length < 8000 ∧ d.f4.length < 8000 ∧ ∀ x ∈ d.f3, x.f4.length < 8000
/-- A deed as a machine has it. -/
def Fine (d : S45) : Prop := d.f2.size ≤ 140737488351232 ∧ d.f3.length ≤ 140737488351232 ∧ d.f4.length ≤ 140737488351232 ∧ ∀ x ∈ d.f3, x.f0.size ≤ 140737488351232 ∧ x.f4.length ≤ 140737488351232
def BigPost (ds : List S45) (x3 j : Nat) (r : Option Bool) : Prop := ∃ b, r = some b ∧ (b = false → x3 < 8000 ∧ ds.length ≤ 150 ∧ ∀ (q : Nat) (d : S45), j ≤ q → ds[q]? = some d → Small d)
theorem w_add (a b : Nat) (h : a + b ≤ 9000000000000000000) : wrap64 ((a : Int) + (b : Int)) = ((a + b : Nat) : Int) := by unfold wrap64; omega
theorem w_one (a : Nat) (h : a ≤ 9000000000000000000) : wrap64 ((a : Int) + 1) = ((a + 1 : Nat) : Int) := by unfold wrap64; omega
theorem BigPost.up {ds : List S45} {x3 x4 j : Nat} {r : Option Bool} (h : BigPost ds x4 j r) (hx : x3 ≤ x4) : BigPost ds x3 j r := by
  obtain ⟨b, hb, hp⟩ := h
  exact ⟨b, hb, fun e => ⟨by have := (hp e).1; omega, (hp e).2⟩⟩
theorem big_lines (ds : List S45) (hds : ds.length ≤ 140737488351232) (j : Nat) (d : S45) (hj : ds[j]? = some d) (hd : Fine d) (hn : ∀ x3 : Nat, x3 ≤ 1000000000000000 → ∃ k, BigPost ds x3 (j + 1) (frisketlaw05_big.l0 k ds (x3 : Int) ((j + 1 : Nat) : Int))) : ∀ (n i x3 : Nat), i + n = d.f3.length → x3 ≤ 1000000000000000 → d.f2.size ≤ x3 → d.f3.length ≤ x3 → d.f4.length ≤ x3 →
    (∀ (q : Nat) (x : S34), q < i → d.f3[q]? = some x → x.f4.length ≤ x3) → ∃ k, BigPost ds x3 j (frisketlaw05_big.l1 k ds (x3 : Int) (j : Int) (i : Int)) := by
  have hjl : j < ds.length := (List.getElem?_eq_some_iff.1 hj).1
  have hrd : rd_T45 ds (j : Int) = d := by
    show ds.getD (j : Int).toNat z45 = d
    rw [Int.toNat_natCast, List.getD_eq_getElem?_getD, hj]
    rfl
  have e3 := Aside0.mk (w_one j (by omega))
  have hend : ∀ x3 : Nat, x3 ≤ 1000000000000000 → d.f2.size ≤ x3 → d.f3.length ≤ x3 → d.f4.length ≤ x3 → (∀ x ∈ d.f3, x.f4.length ≤ x3) ∨ ¬ x3 < 8000 → ∃ k, BigPost ds x3 j (frisketlaw05_big.l0 k ds (x3 : Int) (wrap64 ((j : Int) + 1))) := by
    intro x3 hx h2 h3 h4 hall
    obtain ⟨k, b, hb, hp⟩ := hn x3 hx
    refine ⟨k, b, by rw [e3.out]; exact hb, fun e => ?_⟩
    obtain ⟨h5, h6, h7⟩ := hp e
    refine ⟨h5, h6, fun q y hjq hy => ?_⟩
    rcases Nat.lt_or_ge j q with h8 | h8
    · exact h7 q y (by omega) hy
    · obtain rfl : q = j := by omega
      obtain rfl := Option.some.inj (hj.symm.trans hy)
      rcases hall with hall | hall
      · exact ⟨by omega, by omega, by omega, fun x hxm => by have := hall x hxm; omega⟩
      · exact absurd h5 hall
  intro n
  induction n with
  | zero =>
    intro i x3 hin hx h2 h3 h4 hq
    obtain ⟨k, h⟩ := hend x3 hx h2 h3 h4 (Or.inl (fun x hxm => by
      obtain ⟨q, hq2⟩ := List.getElem?_of_mem hxm
      have := (List.getElem?_eq_some_iff.1 hq2).1
      exact hq q x (by omega) hq2))
    refine ⟨k + 1, ?_⟩
    rw [frisketlaw05_big.l1, if_pos (by omega), if_pos (by omega), hrd, if_neg (by omega)]
    exact h
  | succ n ih =>
    intro i x3 hin hx h2 h3 h4 hq
    have hi : i < d.f3.length := by omega
    by_cases h8 : (x3 : Int) < 8000
    · have e1 : rd_T34 d.f3 (i : Int) = d.f3[i] := by
        show d.f3.getD (i : Int).toNat z34 = d.f3[i]
        rw [Int.toNat_natCast, List.getD_eq_getElem?_getD, List.getElem?_eq_getElem hi]
        rfl
      have hb := hd.2.2.2 _ (List.getElem_mem hi)
      have e2 := Aside0.mk (show wrap64 ((x3 : Int) + wrap64 ((d.f3[i].f0.size : Int) + (d.f3[i].f4.length : Int))) = ((x3 + (d.f3[i].f0.size + d.f3[i].f4.length) : Nat) : Int) by rw [w_add _ _ (by omega), w_add _ _ (by omega)])
      have hil : i ≤ 140737488351232 := by have := hd.2.1; omega
      have e4 := Aside0.mk (w_one i (by omega))
      obtain ⟨k, h⟩ := ih (i + 1) (x3 + (d.f3[i].f0.size + d.f3[i].f4.length)) (by omega) (by omega) (by omega) (by omega) (by omega) (fun q x hqi hqx => by
        rcases Nat.lt_or_ge q i with h5 | h5
        · have := hq q x h5 hqx; omega
        · obtain rfl : q = i := by omega
          rw [List.getElem?_eq_getElem hi] at hqx
          obtain rfl := Option.some.inj hqx
          omega)
      refine ⟨k + 1, ?_⟩
      rw [frisketlaw05_big.l1, if_pos (by omega), if_pos (by omega), hrd, if_pos (by omega), if_pos h8, if_pos (by omega), e1, e2.out, e4.out]
      exact h.up (by omega)
    · obtain ⟨k, h⟩ := hend x3 hx h2 h3 h4 (Or.inr (by omega))
      refine ⟨k + 1, ?_⟩
      rw [frisketlaw05_big.l1, if_pos (by omega), if_pos (by omega), hrd, if_pos (by omega), if_neg h8]
      exact h
theorem big_all (ds : List S45) (hds : ds.length ≤ 140737488351232) (hf : ∀ d ∈ ds, Fine d) : ∀ (m j x3 : Nat), j + m = ds.length → x3 ≤ 1000000000000000 → ∃ k, BigPost ds x3 j (frisketlaw05_big.l0 k ds (x3 : Int) (j : Int)) := by
  intro m
  induction m with
  | zero =>
    intro j x3 hj hx
    refine ⟨2, ?_⟩
    rw [frisketlaw05_big.l0, if_neg (by omega), frisketlaw05_big.j1, if_neg (by simp)]
    by_cases h8 : (x3 : Int) ≥ 8000
    · rw [if_pos h8]; exact ⟨true, rfl, fun e => by cases e⟩
    · rw [if_neg h8]
      refine ⟨_, rfl, fun e => ⟨by omega, ?_, fun q d hq hd => ?_⟩⟩
      · have := of_decide_eq_false e; omega
      · have := (List.getElem?_eq_some_iff.1 hd).1; omega
  | succ m ih =>
    intro j x3 hj hx
    have hjl : j < ds.length := by omega
    by_cases h8 : (x3 : Int) < 8000
    · have hd := hf _ (List.getElem_mem hjl)
      have hrd : rd_T45 ds (j : Int) = ds[j] := by
        show ds.getD (j : Int).toNat z45 = ds[j]
        rw [Int.toNat_natCast, List.getD_eq_getElem?_getD, List.getElem?_eq_getElem hjl]
        rfl
      obtain ⟨h2, h3, h4, h5⟩ := id hd
      have e2 := Aside0.mk (show wrap64 ((x3 : Int) + (wrap64 ((wrap64 ((ds[j].f2.size : Int) + (ds[j].f3.length : Int))) + (ds[j].f4.length : Int)))) = ((x3 + (ds[j].f2.size + ds[j].f3.length + ds[j].f4.length) : Nat) : Int) by rw [w_add _ _ (by omega), w_add _ _ (by omega), w_add _ _ (by omega)])
      obtain ⟨k, h⟩ := big_lines ds hds j ds[j] (List.getElem?_eq_getElem hjl) hd (fun x3 hx => ih (j + 1) x3 (by omega) hx) ds[j].f3.length 0 (x3 + (ds[j].f2.size + ds[j].f3.length + ds[j].f4.length)) (by omega) (by omega) (by omega) (by omega) (by omega) (fun q x hq => absurd hq (Nat.not_lt_zero q))
      refine ⟨k + 2, ?_⟩
      rw [frisketlaw05_big.l0, if_pos (by omega), frisketlaw05_big.j1, if_pos (by simp [h8]), if_pos (by omega), if_pos (by omega), hrd, e2.out]
      exact h.up (by omega)
    · refine ⟨2, ?_⟩
      rw [frisketlaw05_big.l0, if_pos (by omega), frisketlaw05_big.j1, if_neg (by simp; omega), if_pos (by omega)]
      exact ⟨true, rfl, fun e => by cases e⟩
theorem order_ok (text : ByteArray) (ds : List S45) (hds : ds.length ≤ 140737488351232) (hf : ∀ d ∈ ds, Fine d) (hb : ∀ d ∈ ds, ∀ x ∈ d.f3, ∀ b ∈ x.f4, b.f6.length < 17592186044416) : OrderOk text ds true := by
  refine ⟨rfl, ?_⟩
  by_cases h3 : 3000 < text.size
  · exact Or.inl h3
  · obtain ⟨k, b, hk, hp⟩ := big_all ds hds hf ds.length 0 0 (Nat.zero_add _) (Nat.zero_le _)
    refine Or.inr ⟨k, b, hk, ?_⟩
    cases b with
    | true => exact Or.inl rfl
    | false =>
      obtain ⟨_, h150, hsm⟩ := hp rfl
      obtain ⟨k1, xs, tb, h1, ho⟩ := text_ok text (by omega)
      have hs : text.data.toList.length = text.size := Array.length_toList
      obtain ⟨kl, hl⟩ := ref_ev text.data.toList (by omega)
      have hl := hl kl (Nat.le_refl _)
      rw [← mkB_data] at hl
      have hpc := pieces_eq text.data.toList
      have hpl := spl_piece text.data.toList
      rw [hpc] at ho hpl
      refine Or.inr ⟨⟨k1, xs, tb, kl, _, h1, hl, by omega, fun e => ?_⟩, fun d hd => ?_, by omega⟩
      · rcases ho with ⟨h, _⟩ | ⟨_, h⟩
        · rw [h] at e; cases e
        · exact h
      · obtain ⟨q, hq⟩ := List.getElem?_of_mem hd
        obtain ⟨s2, s3, s4, s5⟩ := hsm q d (Nat.zero_le _) hq
        exact deed_ok d s2 s3 s4 (fun x hx => ⟨s5 x hx, hb d hd x hx⟩)
end Go.Proofs.YtagadehcbpoihaaDoor.Raw5

/- A file's lines come in order: the law's walk. -/
namespace Go.Proofs.YtagadehcbpoihaaDoor.Raw5
open Go.RowKit Go.Proofs.YtagadehcbpoihaaDoorW.PrintWords Go.Proofs.YtagadehcbpoihaaDoorW.PrintLast Go.Proofs.YtagadehcbpoihaaDoorW.PrintMore Go.Proofs.YtagadehcbpoihaaDoorN Go.Proofs.YtagadehcbpoihaaDoor.Str Go.Proofs.YtagadehcbpoihaaDoor.Sane5 Go.Proofs.YtagadehcbpoihaaDoor.QSo
set_option linter.unusedVariables false
set_option linter.unusedSimpArgs false
theorem add_fld (ad : Addr) (n k : Nat) (hk : 0 < k) : (⟨(ad.add n).block, (ad.add n).off + k, none⟩ : Addr) = ad.add (n + k) := by
  unfold Addr.add
  by_cases h : n = 0
  · subst h
    rw [if_pos rfl, if_neg (by omega), Nat.zero_add]
  · rw [if_neg h, if_neg (by omega)]
    simp [Nat.add_assoc]
theorem str_cell {w : World} {base n c g : Nat} {L : List ByteArray} (h : Kd.R Kd.string 9 w base (fun _ => True) (.slice (some ⟨g, 0, none⟩) n c) L) (p : Nat) (t : ByteArray) (hp : L[p]? = some t) : w.cell? ⟨g, p, none⟩ = some (.string t) := by
  obtain ⟨g2, hA, hc⟩ := str_at h p t hp
  injection hA with hA
  injection hA with hA _ _
  subst hA
  exact hc
set_option maxHeartbeats 16000000 in
set_option maxRecDepth 100000 in
theorem order_calls (text : ByteArray) (A1 : Option Addr) (c1 : Nat) (ds : List S45) (r : Bool) (w : World) (hr : Kd.C k45 w A1 ds.length ds) (hc : ds.length ≤ c1) (h : OrderOk text ds r) :
    Calls Tryd.prog 5 #[.string text, .slice A1 ds.length c1] w fun e w' => e = .returned (.bool r) ∧ Below w.heap.size w w' := by
  obtain ⟨rfl, h⟩ := h
  have hu34 := Tryd.underlying34
  have hu45 := Tryd.underlying45
  have HS := Aside0.mk (fun W => sane_calls W)
  have HR := Aside0.mk hr
  have HC := Aside0.mk hc
  by_cases h3 : 3000 < text.size
  · have c0 : ((3000 : Int) < (text.size : Int)) = True := eq_true (by omega)
    clear h h3 hr hc
    go_enter Tryd.func5, Tryd.ntmps5
    go_wp2_with (first | (go_at_call 8; refine (HS.out _).mono ?_; rintro e w2 ⟨rfl, hb2⟩; have B2 := Aside0.mk hb2; clear hb2))
    refine bodyPost_ret (results_tmp rfl _ _ _) rfl ?_
    exact ⟨rfl, B2.out⟩
  · rcases h with h | ⟨k, b, hb, h⟩
    · exact absurd h h3
    · have c0 : ((3000 : Int) < (text.size : Int)) = False := eq_false (by omega)
      have HG := Aside0.mk (frisketlaw05_big.calls k A1 c1 ds b w hr hc hb)
      cases b with
      | true =>
        clear h h3 hr hc hb
        go_enter Tryd.func5, Tryd.ntmps5
        go_wp2_with (first | (go_at_call 17; refine (HG.out).mono ?_; rintro e w1 ⟨rfl, hd⟩; have B1 := Aside0.mk hd.below; clear hd) | (go_at_call 8; refine (HS.out _).mono ?_; rintro e w2 ⟨rfl, hb2⟩; have B2 := Aside0.mk (B1.out.trans (hb2.mono B1.out.size)); clear hb2))
        refine bodyPost_ret (results_tmp rfl _ _ _) rfl ?_
        exact ⟨rfl, B2.out⟩
      | false =>
        obtain h | ⟨⟨k1, xs, tb, kl, L, ht, hl, hLl, hxs⟩, hds, hdl⟩ := h
        · cases h
        have HL := Aside0.mk (fun W => frisketref05_Lines.calls kl text L W hl)
        have hnf : source_named.f nf = some true := by
          have h1 := nf_ne
          unfold source_named.f
          rw [if_neg (by intro e; rw [e] at h1; cases h1)]
          rfl
        have HF := Aside0.mk (fun sb B W hS => file_any sb B [] (by decide) nf text k1 xs tb true ht hnf W hS)
        have HDS := Aside0.mk hds
        have HLL := Aside0.mk hLl
        have HDL := Aside0.mk hdl
        have HXS := Aside0.mk hxs
        clear h3 hr hc hb ht hl hds hLl hdl hxs hnf
        go_enter Tryd.func5, Tryd.ntmps5
        cases tb with
        | false =>
          go_wp2_with (first | (go_at_call 17; refine (HG.out).mono ?_; rintro e w1 ⟨rfl, hd⟩; have B1 := Aside0.mk hd.below; clear hd) | (go_at_call 12; refine (new_calls _).mono ?_; rintro e w2 ⟨rfl, rfl⟩; have B2 := Aside0.mk (B1.out.trans ((below_alloc (Below.refl w1.heap.size w1) (.cells #[.slice none 0 0, .bool true] 56)).mono B1.out.size)); have V2 := Aside0.mk (blk_new w1 (.cells #[.slice none 0 0, .bool true] 56))) | (go_at_call 11; refine (HL.out _).mono ?_; rintro e w3 ⟨v3, rfl, hr3, hb3⟩; obtain ⟨A3, c3, e3⟩ := Kd.R_slice hr3; subst e3; have B3 := Aside0.mk (B2.out.trans (hb3.mono B2.out.size)); have S3 := Aside0.mk (Stk.mk (sb := w1.heap.size) (B := w.heap.size) (rows := []) ⟨_, blk_below V2.out hb3, Kd.R_nil _ _ _ _ _⟩ (Nat.le_trans B2.out.size hb3.size) B1.out.size); clear hr3 hb3) | (go_at_call 18; refine (HF.out w1.heap.size w.heap.size _ S3.out).mono ?_; rintro e w4 hp4; have P4 := Aside0.mk hp4; have E4 : e = .returned (.int .i64 1) := (by rcases hp4.2 with ⟨_, h, _⟩ | ⟨h, _⟩ | ⟨h, _⟩; exact h; cases h; cases h); subst E4; clear hp4) | (go_at_call 8; refine (HS.out _).mono ?_; rintro e w5 ⟨rfl, hb5⟩; have B5 := Aside0.mk (B3.out.trans (P4.out.1.2.trans (hb5.mono (Nat.le_trans B3.out.size (P4.out.1.2).size)))); clear hb5))
          refine bodyPost_ret (results_tmp rfl _ _ _) rfl ?_
          exact ⟨rfl, B5.out⟩
        | true =>
          have hxe := HXS.out rfl
          subst hxe
          have hl : (L.map mkL).length = L.length := List.length_map _
          go_wp2_with (first | (go_at_call 17; refine (HG.out).mono ?_; rintro e w1 ⟨rfl, hd⟩; have B1 := Aside0.mk hd.below; clear hd) | (go_at_call 12; refine (new_calls _).mono ?_; rintro e w2 ⟨rfl, rfl⟩; have B2 := Aside0.mk (B1.out.trans ((below_alloc (Below.refl w1.heap.size w1) (.cells #[.slice none 0 0, .bool true] 56)).mono B1.out.size)); have V2 := Aside0.mk (blk_new w1 (.cells #[.slice none 0 0, .bool true] 56))) | (go_at_call 11; refine (HL.out _).mono ?_; rintro e w3 ⟨v3, rfl, hr3, hb3⟩; obtain ⟨A3, c3, e3⟩ := Kd.R_slice hr3; subst e3; have B3 := Aside0.mk (B2.out.trans (hb3.mono B2.out.size)); have S3 := Aside0.mk (Stk.mk (sb := w1.heap.size) (B := w.heap.size) (rows := []) ⟨_, blk_below V2.out hb3, Kd.R_nil _ _ _ _ _⟩ (Nat.le_trans B2.out.size hb3.size) B1.out.size); have RL := Aside0.mk (Kd.R_lower hr3 (Nat.zero_le _)); clear hr3 hb3) | (go_at_call 18; refine (HF.out w1.heap.size w.heap.size _ S3.out).mono ?_; rintro e w4 hp4; have P4 := Aside0.mk hp4; have E4 : e = .returned (.int .i64 0) := (by rcases hp4.2 with ⟨h, _⟩ | ⟨_, h, _⟩ | ⟨_, _, h, _⟩; cases h; exact absurd h (by decide); exact h); subst E4; clear hp4))
          obtain ⟨A, c, Aa, na, ca, hc, hs4, hR4, _⟩ : ∃ A c Aa na ca, L.length ≤ c ∧ Stk w1.heap.size w.heap.size ([FF A L.length c Aa na ca 0].map Fm.row) w4 ∧ Kd.R k34 34 w4 0 (fun _ => True) (.slice A L.length c) (L.map mkL) ∧ True := by
            rcases P4.out.2 with ⟨h, _⟩ | ⟨_, h, _⟩ | ⟨_, _, _, A, c, Aa, na, ca, h1, h2, h3, _⟩
            · cases h
            · exact absurd h (by decide)
            · rw [hl] at h1 h2 h3
              exact ⟨A, c, Aa, na, ca, h1, h2, Kd.R_lower h3 (Nat.zero_le _), trivial⟩
          have R4 := Aside0.mk hR4
          have O4 := Aside0.mk (OSt.mk hs4 (KX.refl _ _) (B3.out.trans P4.out.1.2) : OSt w w4 w1.heap.size [FF A L.length c Aa na ca 0] w4)
          have RS := Aside0.mk (R_KX RL.out (P4.out.1.1) (by decide))
          obtain ⟨sb, hsb⟩ : ∃ sb, w1.heap.size = sb := ⟨_, rfl⟩
          rw [hsb] at O4 ⊢
          clear hs4 hR4 hc hsb hl S3 RL P4 V2
          go_loopg [8, 9] (ds.length) (fun kq v8 v9 w' => Aside0 (kq ≤ ds.length) ∧ v9 = .int .i64 ((ds.length - kq : Nat) : Int) ∧ ∃ p : Nat, v8 = .int .i64 (p : Int) ∧ Aside0 (p ≤ L.length) ∧ Aside0 (OSt w w4 sb [FF A L.length c Aa na ca p] w'))
          case atStart => exact ⟨⟨Nat.le_refl _⟩, by rw [Nat.sub_self]; rfl, 0, rfl, ⟨Nat.zero_le _⟩, O4⟩
          case round =>
            obtain ⟨L5, rfl, p, rfl, P5, O5⟩ := hrel
            have fin : True := trivial
            cases gk with
            | zero =>
              rw [Nat.sub_zero]
              go_wp2
              go_loopg [8] (L.length - p) (fun kq v8 w' => Aside0 (kq ≤ L.length) ∧ v8 = .int .i64 ((L.length - kq : Nat) : Int) ∧ Aside0 (OSt w w4 sb [FF A L.length c Aa na ca (L.length - kq)] w'))
              case atStart => exact ⟨⟨by omega⟩, by have := P5.out; rw [show L.length - (L.length - p) = p by omega], by have := P5.out; rw [show L.length - (L.length - p) = p by omega]; exact O5⟩
              case round =>
                obtain ⟨L6, rfl, O6⟩ := hrel
                have hln5 : ∀ t md up dn Ab nb cb, ln5 t md up dn Ab nb cb = [.string t, .bool md, .int .i64 up, .int .i64 dn, .slice Ab nb cb] := fun _ _ _ _ _ _ _ => rfl
                have hln : ∀ x, ln x = [.string x, .bool false, .int .i64 0, .int .i64 0, .slice none 0 0] := fun _ => rfl
                cases gk with
                | zero =>
                  rw [Nat.sub_zero] at O6 ⊢
                  have HNE := Aside0.mk (next_end O6.out)
                  have HWS := Aside0.mk O6.out.hb.size
                  go_wp2_with (first | (go_at_call 16; refine (HNE.out).mono ?_; rintro e w7 ⟨rfl, hb7⟩; have B7 := Aside0.mk (hb7.trans ((below_alloc (Below.refl w7.heap.size w7) (.cells #[.string ⟨#[]⟩, .bool false, .int .i64 0, .int .i64 0, .slice none 0 0] 34)).mono hb7.size)); clear hb7) | (go_at_call 8; refine (HS.out _).mono ?_; rintro e w8 ⟨rfl, hb8⟩; have B8 := Aside0.mk (B7.out.trans (hb8.mono B7.out.size)); clear hb8))
                  refine bodyPost_ret (results_tmp rfl _ _ _) rfl ?_
                  exact ⟨rfl, B8.out⟩
                | succ q =>
                  obtain ⟨p2, hp2⟩ : ∃ p2, L.length - (q + 1) = p2 := ⟨_, rfl⟩
                  rw [hp2] at O6 ⊢
                  have HQ2 := Aside0.mk (show L.length = p2 + (q + 1) by have := L6.out; omega)
                  obtain ⟨t, ht⟩ : ∃ t, L[p2]? = some t := ⟨_, List.getElem?_eq_getElem (by have := HQ2.out; omega)⟩
                  have HNX := Aside0.mk (next_file O6.out R4.out t ht HLL.out)
                  obtain ⟨g3, hA3, _⟩ := str_at RS.out p2 t ht
                  subst hA3
                  have HQS := Aside0.mk (fun W (h : KX [56, 68] w4 W) => str_cell (R_KX RS.out h (by decide)) p2 t ht)
                  have c5 : ((p2 : Int) < (L.length : Int)) = True := eq_true (by have := HQ2.out; omega)
                  have hwp : wrap64 ((p2 : Int) + 1) = (p2 : Int) + 1 := by have := HQ2.out; have := HLL.out; unfold wrap64; omega
                  clear ht hp2
                  go_wp2_with (first | (go_at_call 16; refine (HNX.out).mono ?_; rintro e w10 ⟨⟨Ab, nb, cb, rfl⟩, ho⟩; have O10 := Aside0.mk ho; have qs : ∀ o, (w10.alloc o).cell? ⟨g3, p2, none⟩ = some (.string t) := (fun o => HQS.out _ (ho.alloc o).kx); clear ho))
                  go_region
                  go_wp2
                  go_roundg q
                  case measure => omega
                  case rel =>
                    have e9 : L.length - q = p2 + 1 := by have := HQ2.out; omega
                    exact ⟨⟨by have := HQ2.out; omega⟩, by rw [e9]; simp [hwp], by rw [e9]; exact ⟨(O10.out.alloc _).drew⟩⟩
            | succ j =>
              by_cases hp : p < L.length
              · obtain ⟨i, hi⟩ : ∃ i, ds.length - (j + 1) = i := ⟨_, rfl⟩
                rw [hi] at ⊢
                have HI := Aside0.mk (show ds.length = i + (j + 1) by have := L5.out; omega)
                obtain ⟨d, hd⟩ : ∃ d, ds[i]? = some d := ⟨_, List.getElem?_eq_getElem (by have := HI.out; omega)⟩
                have hCd := Kd.C_below HR.out O5.out.hb
                obtain ⟨ad, hA1, hcc⟩ := hCd.2.2 (by have := HI.out; omega)
                subst hA1
                obtain ⟨cl, hcl, hK, hcell⟩ := hcc i d hd
                obtain ⟨A6, c6, A7, c7, rfl, h6, g6, h7, g7⟩ := k45_open hK
                have hcell : ∀ q u, [Value.int .i64 d.f0, .string d.f1, .string d.f2, .slice A6 d.f3.length c6, .slice A7 d.f4.length c7, .int .i64 d.f5][q]? = some u → wr.cell? (ad.add (i * 6 + q)) = some u := hcell
                have d0 : wr.cell? (ad.add (i * 6)) = some (.int .i64 d.f0) := hcell 0 _ rfl
                have d1 : wr.cell? ⟨(ad.add (i * 6)).block, (ad.add (i * 6)).off + 1, none⟩ = some (.string d.f1) := by rw [add_fld _ _ _ (by decide)]; exact hcell 1 _ rfl
                have d2 : wr.cell? ⟨(ad.add (i * 6)).block, (ad.add (i * 6)).off + 2, none⟩ = some (.string d.f2) := by rw [add_fld _ _ _ (by decide)]; exact hcell 2 _ rfl
                have d3 : wr.cell? ⟨(ad.add (i * 6)).block, (ad.add (i * 6)).off + 3, none⟩ = some (.slice A6 d.f3.length c6) := by rw [add_fld _ _ _ (by decide)]; exact hcell 3 _ rfl
                have d4 : wr.cell? ⟨(ad.add (i * 6)).block, (ad.add (i * 6)).off + 4, none⟩ = some (.slice A7 d.f4.length c7) := by rw [add_fld _ _ _ (by decide)]; exact hcell 4 _ rfl
                have d5 : wr.cell? ⟨(ad.add (i * 6)).block, (ad.add (i * 6)).off + 5, none⟩ = some (.int .i64 d.f5) := by rw [add_fld _ _ _ (by decide)]; exact hcell 5 _ rfl
                have HK := Aside0.mk hK
                have HD := Aside0.mk (HDS.out d (List.mem_of_getElem? hd))
                have c1 : ((i : Int) < (ds.length : Int)) = True := eq_true (by have := HI.out; omega)
                have c2 : ((p : Int) < (L.length : Int)) = True := eq_true (by omega)
                have c3 : (i < ds.length) = True := eq_true (by have := HI.out; omega)
                have hw1 : wrap64 ((i : Int) + 1) = (i : Int) + 1 := by have := HI.out; have := HDL.out; unfold wrap64; omega
                have HP := Aside0.mk hp
                clear hi hd hCd hcc hcl hK hcell h6 g6 h7 g7 hp
                by_cases t0 : d.f0 < 0
                · have t0 : (d.f0 < 0) = True := eq_true t0
                  go_wp2
                  go_roundg j
                  case measure => omega
                  case rel => exact ⟨⟨by have := L5.out; omega⟩, by have := HI.out; rw [show ds.length - j = i + 1 by omega]; simp [hw1], p, rfl, P5, ⟨O5.out.alloc _⟩⟩
                by_cases t1 : 2 < d.f0
                · have t0 : (d.f0 < 0) = False := eq_false t0
                  have t1 : (2 < d.f0) = True := eq_true t1
                  go_wp2
                  go_roundg j
                  case measure => omega
                  case rel => exact ⟨⟨by have := L5.out; omega⟩, by have := HI.out; rw [show ds.length - j = i + 1 by omega]; simp [hw1], p, rfl, P5, ⟨O5.out.alloc _⟩⟩
                have T01 := Aside0.mk (show 0 ≤ d.f0 ∧ d.f0 ≤ 2 by omega)
                have t0 : (d.f0 < 0) = False := eq_false t0
                have t1 : (2 < d.f0) = False := eq_false t1
                by_cases t2 : (200 : Int) < (d.f2.size : Int)
                · have t2 : ((200 : Int) < (d.f2.size : Int)) = True := eq_true t2
                  go_wp2
                  go_roundg j
                  case measure => omega
                  case rel => exact ⟨⟨by have := L5.out; omega⟩, by have := HI.out; rw [show ds.length - j = i + 1 by omega]; simp [hw1], p, rfl, P5, ⟨O5.out.alloc _⟩⟩
                have t2 : ((200 : Int) < (d.f2.size : Int)) = False := eq_false t2
                by_cases t3 : (50 : Int) < (d.f3.length : Int)
                · have t3 : ((50 : Int) < (d.f3.length : Int)) = True := eq_true t3
                  go_wp2
                  go_roundg j
                  case measure => omega
                  case rel => exact ⟨⟨by have := L5.out; omega⟩, by have := HI.out; rw [show ds.length - j = i + 1 by omega]; simp [hw1], p, rfl, P5, ⟨O5.out.alloc _⟩⟩
                have t3 : ((50 : Int) < (d.f3.length : Int)) = False := eq_false t3
                obtain ⟨ok, hW⟩ := do_file (w := w) (w4 := w4) (sb := sb) (A := A) (m := L.length) (c := c) (Aa := Aa) (na := na) (ca := ca) (p := p) d HD.out T01.out.1 T01.out.2
                have HW := Aside0.mk (hW (wr.alloc (.cells [Value.int .i64 d.f0, .string d.f1, .string d.f2, .slice A6 d.f3.length c6, .slice A7 d.f4.length c7, .int .i64 d.f5].toArray 45)) _ (k45.K_below (below_alloc (Below.refl _ _) _) HK.out) (O5.out.alloc _))
                clear hW
                have hbx : bx = [.string ⟨#[]⟩, .bool false, .int .i64 0, .int .i64 0, .slice none 0 0] := rfl
                have hln5 : ∀ t md up dn Ab nb cb, ln5 t md up dn Ab nb cb = [.string t, .bool md, .int .i64 up, .int .i64 dn, .slice Ab nb cb] := fun _ _ _ _ _ _ _ => rfl
                cases ok with
                | false =>
                  have HW2 : Aside0 (Calls Tryd.prog 19 #[.pointer (some ⟨sb, 0, none⟩), .agg #[.int .i64 d.f0, .string d.f1, .string d.f2, .slice A6 d.f3.length c6, .slice A7 d.f4.length c7, .int .i64 d.f5]] (wr.alloc (.cells #[.int .i64 d.f0, .string d.f1, .string d.f2, .slice A6 d.f3.length c6, .slice A7 d.f4.length c7, .int .i64 d.f5] 45)) fun e w' => e = .returned (.tuple #[.agg bx.toArray, .int .i64 1]) ∧ OSt w w4 sb [FF A L.length c Aa na ca p] w') := ⟨HW.out⟩
                  clear HW
                  go_wp2_with (first | (go_at_call 19; refine (HW2.out).mono ?_; rintro e w7 ⟨rfl, ho⟩; have O7 := Aside0.mk ho; clear ho))
                  go_roundg j
                  case measure => omega
                  case rel => exact ⟨⟨by have := L5.out; omega⟩, by have := HI.out; rw [show ds.length - j = i + 1 by omega]; simp [hw1], p, rfl, P5, ⟨O7.out.alloc _⟩⟩
                | true =>
                  have HW2 : Aside0 (Calls Tryd.prog 19 #[.pointer (some ⟨sb, 0, none⟩), .agg #[.int .i64 d.f0, .string d.f1, .string d.f2, .slice A6 d.f3.length c6, .slice A7 d.f4.length c7, .int .i64 d.f5]] (wr.alloc (.cells #[.int .i64 d.f0, .string d.f1, .string d.f2, .slice A6 d.f3.length c6, .slice A7 d.f4.length c7, .int .i64 d.f5] 45)) fun e w' => e = .returned (.tuple #[.agg bx.toArray, .int .i64 0]) ∧ ∃ (k : Int) (nm : ByteArray) (xs : List S34) (A2 : Option Addr) (c2 : Nat) (Ab2 : Option Addr) (nb2 cb2 : Nat), OSt w w4 sb [FF A L.length c Aa na ca p, ⟨k, nm, A2, xs.length, c2, ((0 : Nat) : Int), Ab2, nb2, cb2⟩] w' ∧ Kd.R k34 34 w' 0 (fun _ => True) (.slice A2 xs.length c2) xs ∧ (∀ x ∈ xs, LineOk x) ∧ xs.length ≤ 1000000) := ⟨HW.out⟩
                  clear HW
                  go_wp2_with (first | (go_at_call 19; refine (HW2.out).mono ?_; rintro e w7 ⟨rfl, k, nm, xs, A2, c2, Ab2, nb2, cb2, ho, hR7, hlo, hxl⟩; have O7 := Aside0.mk ho; have R7 := Aside0.mk hR7; have LO := Aside0.mk hlo; have XL := Aside0.mk hxl; clear ho hR7 hlo hxl))
                  have XL2 := XL.out
                  go_loopg [8] (xs.length + 1) (fun kq v8 w' => (∃ a : Nat, Aside0 (kq = xs.length - a + 1 ∧ a ≤ xs.length) ∧ v8 = .int .i64 (p : Int) ∧ Aside0 (OSt w w4 sb [FF A L.length c Aa na ca p, ⟨k, nm, A2, xs.length, c2, (a : Int), Ab2, nb2, cb2⟩] w') ∧ Aside0 (Kd.R k34 34 w' 0 (fun _ => True) (.slice A2 xs.length c2) xs)) ∨ (Aside0 (kq = 0) ∧ v8 = .int .i64 ((p : Int) + 1) ∧ Aside0 (OSt w w4 sb [FF A L.length c Aa na ca (p + 1)] w')))
                  case atStart => exact Or.inl ⟨0, ⟨⟨rfl, Nat.zero_le _⟩⟩, rfl, ⟨O7.out.alloc _⟩, ⟨Kd.R_alloc R7.out _⟩⟩
                  case round =>
                    rcases hrel with ⟨a, KA, rfl, O9, R9⟩ | ⟨KZ, rfl, O9⟩
                    · have HD1 : Aside0 (Calls Tryd.prog 14 #[.pointer (some ⟨sb, 0, none⟩)] wr fun e w' => e = .returned (.int .i64 2) ∧ w' = wr) := ⟨depth_any sb w.heap.size _ wr O9.out.st⟩
                      by_cases ha : a < xs.length
                      · obtain ⟨x, hx⟩ : ∃ x, xs[a]? = some x := ⟨_, List.getElem?_eq_getElem ha⟩
                        have HNX := Aside0.mk (next_top O9.out R9.out x hx LO.out XL.out)
                        have HD3 : Aside0 (∀ W (h : OSt w w4 sb [FF A L.length c Aa na ca p, ⟨k, nm, A2, xs.length, c2, ((a + 1 : Nat) : Int), Ab2, nb2, cb2⟩] W), Calls Tryd.prog 14 #[.pointer (some ⟨sb, 0, none⟩)] W fun e w' => e = .returned (.int .i64 2) ∧ w' = W) := ⟨fun W h => depth_any sb w.heap.size _ W h.st⟩
                        have KB := Aside0.mk (show gk = (xs.length - (a + 1) + 1) + 1 ∧ a + 1 ≤ xs.length by have := KA.out; omega)
                        clear ha hx
                        go_wp2_with (first | (go_at_call 14; refine (HD1.out).mono ?_; rintro e w9 ⟨rfl, rfl⟩) | (go_at_call 16; refine (HNX.out).mono ?_; rintro e w10 ⟨⟨Ab, nb, cb, rfl⟩, ho, hr⟩; have O10 := Aside0.mk ho; have R10 := Aside0.mk hr; clear ho hr) | (go_at_call 14; refine (HD3.out _ (O10.out.alloc _)).mono ?_; rintro e w11 ⟨rfl, rfl⟩))
                        go_roundg (xs.length - (a + 1) + 1)
                        case measure => have := KB.out; omega
                        case rel => exact Or.inl ⟨a + 1, ⟨⟨rfl, KB.out.2⟩⟩, rfl, ⟨O10.out.alloc _⟩, ⟨Kd.R_alloc R10.out _⟩⟩
                      · have hae : a = xs.length := by have := KA.out; omega
                        subst hae
                        obtain ⟨t, ht⟩ : ∃ t, L[p]? = some t := ⟨_, List.getElem?_eq_getElem HP.out⟩
                        have HNX := Aside0.mk (next_over O9.out R4.out t ht HLL.out)
                        obtain ⟨g3, hA3, _⟩ := str_at RS.out p t ht
                        subst hA3
                        have HQS := Aside0.mk (fun W (h : KX [56, 68] w4 W) => str_cell (R_KX RS.out h (by decide)) p t ht)
                        have HD3 : Aside0 (∀ W (h : OSt w w4 sb [FF A L.length c Aa na ca (p + 1)] W), Calls Tryd.prog 14 #[.pointer (some ⟨sb, 0, none⟩)] W fun e w' => e = .returned (.int .i64 1) ∧ w' = W) := ⟨fun W h => depth_any sb w.heap.size _ W h.st⟩
                        have hwp : wrap64 ((p : Int) + 1) = (p : Int) + 1 := by have := HP.out; have := HLL.out; unfold wrap64; omega
                        have KB := Aside0.mk (show gk = 0 + 1 by have := KA.out; omega)
                        clear ha ht
                        go_wp2_with (first | (go_at_call 14; refine (HD1.out).mono ?_; rintro e w9 ⟨rfl, rfl⟩) | (go_at_call 16; refine (HNX.out).mono ?_; rintro e w10 ⟨⟨Ab, nb, cb, rfl⟩, ho⟩; have O10 := Aside0.mk ho; have qs : ∀ o, (w10.alloc o).cell? ⟨g3, p, none⟩ = some (.string t) := (fun o => HQS.out _ (ho.alloc o).kx); clear ho) | (go_at_call 14; refine (HD3.out _ (O10.out.alloc _)).mono ?_; rintro e w11 ⟨rfl, rfl⟩))
                        go_region
                        go_wp2
                        go_roundg 0
                        case measure => have := KB.out; omega
                        case rel => exact Or.inr ⟨⟨rfl⟩, by simp [hwp], ⟨(O10.out.alloc _).drew⟩⟩
                    · have HD1 : Aside0 (Calls Tryd.prog 14 #[.pointer (some ⟨sb, 0, none⟩)] wr fun e w' => e = .returned (.int .i64 1) ∧ w' = wr) := ⟨depth_any sb w.heap.size _ wr O9.out.st⟩
                      go_wp2_with (first | (go_at_call 14; refine (HD1.out).mono ?_; rintro e w9 ⟨rfl, rfl⟩))
                      go_roundg j
                      case measure => omega
                      case rel => exact ⟨⟨by have := L5.out; omega⟩, by have := HI.out; rw [show ds.length - j = i + 1 by omega]; simp [hw1], p + 1, rfl, ⟨HP.out⟩, O9⟩
              · have c2 : ((p : Int) < (L.length : Int)) = False := eq_false (by omega)
                obtain ⟨i, hi⟩ : ∃ i, ds.length - (j + 1) = i := ⟨_, rfl⟩
                rw [hi] at ⊢
                have c1 : ((i : Int) < (ds.length : Int)) = True := eq_true (by have := L5.out; omega)
                clear hi
                go_wp2
                go_loopg [8] (L.length - p) (fun kq v8 w' => Aside0 (kq ≤ L.length) ∧ v8 = .int .i64 ((L.length - kq : Nat) : Int) ∧ Aside0 (OSt w w4 sb [FF A L.length c Aa na ca (L.length - kq)] w'))
                case atStart => exact ⟨⟨by omega⟩, by have := P5.out; rw [show L.length - (L.length - p) = p by omega], by have := P5.out; rw [show L.length - (L.length - p) = p by omega]; exact O5⟩
                case round =>
                  obtain ⟨L6, rfl, O6⟩ := hrel
                  have hln5 : ∀ t md up dn Ab nb cb, ln5 t md up dn Ab nb cb = [.string t, .bool md, .int .i64 up, .int .i64 dn, .slice Ab nb cb] := fun _ _ _ _ _ _ _ => rfl
                  have hln : ∀ x, ln x = [.string x, .bool false, .int .i64 0, .int .i64 0, .slice none 0 0] := fun _ => rfl
                  cases gk with
                  | zero =>
                    rw [Nat.sub_zero] at O6 ⊢
                    have HNE := Aside0.mk (next_end O6.out)
                    have HWS := Aside0.mk O6.out.hb.size
                    go_wp2_with (first | (go_at_call 16; refine (HNE.out).mono ?_; rintro e w7 ⟨rfl, hb7⟩; have B7 := Aside0.mk (hb7.trans ((below_alloc (Below.refl w7.heap.size w7) (.cells #[.string ⟨#[]⟩, .bool false, .int .i64 0, .int .i64 0, .slice none 0 0] 34)).mono hb7.size)); clear hb7) | (go_at_call 8; refine (HS.out _).mono ?_; rintro e w8 ⟨rfl, hb8⟩; have B8 := Aside0.mk (B7.out.trans (hb8.mono B7.out.size)); clear hb8))
                    refine bodyPost_ret (results_tmp rfl _ _ _) rfl ?_
                    exact ⟨rfl, B8.out⟩
                  | succ q =>
                    obtain ⟨p2, hp2⟩ : ∃ p2, L.length - (q + 1) = p2 := ⟨_, rfl⟩
                    rw [hp2] at O6 ⊢
                    have HQ2 := Aside0.mk (show L.length = p2 + (q + 1) by have := L6.out; omega)
                    obtain ⟨t, ht⟩ : ∃ t, L[p2]? = some t := ⟨_, List.getElem?_eq_getElem (by have := HQ2.out; omega)⟩
                    have HNX := Aside0.mk (next_file O6.out R4.out t ht HLL.out)
                    obtain ⟨g3, hA3, _⟩ := str_at RS.out p2 t ht
                    subst hA3
                    have HQS := Aside0.mk (fun W (h : KX [56, 68] w4 W) => str_cell (R_KX RS.out h (by decide)) p2 t ht)
                    have c5 : ((p2 : Int) < (L.length : Int)) = True := eq_true (by have := HQ2.out; omega)
                    have hwp : wrap64 ((p2 : Int) + 1) = (p2 : Int) + 1 := by have := HQ2.out; have := HLL.out; unfold wrap64; omega
                    clear ht hp2
                    go_wp2_with (first | (go_at_call 16; refine (HNX.out).mono ?_; rintro e w10 ⟨⟨Ab, nb, cb, rfl⟩, ho⟩; have O10 := Aside0.mk ho; have qs : ∀ o, (w10.alloc o).cell? ⟨g3, p2, none⟩ = some (.string t) := (fun o => HQS.out _ (ho.alloc o).kx); clear ho))
                    go_region
                    go_wp2
                    go_roundg q
                    case measure => omega
                    case rel =>
                      have e9 : L.length - q = p2 + 1 := by have := HQ2.out; omega
                      exact ⟨⟨by have := HQ2.out; omega⟩, by rw [e9]; simp [hwp], by rw [e9]; exact ⟨(O10.out.alloc _).drew⟩⟩
end Go.Proofs.YtagadehcbpoihaaDoor.Raw5

namespace Go.Proofs.YtagadehcbpoihaaDoor.QSo
set_option linter.unusedVariables false
open Go.RowKit Go.Proofs.YtagadehcbpoihaaDoorW.PrintWords Go.Proofs.YtagadehcbpoihaaDoorW.PrintLast Go.Proofs.YtagadehcbpoihaaDoorW.PrintMore
theorem frisketlaw05_SourceOrder.calls (a0 : ByteArray) (A1 : Option Addr) (c1 : Nat) (l1 : List S45) (r : Bool) (w : World) (hr1 : Kd.C k45 w A1 l1.length l1) (hc1 : l1.length ≤ c1) (h : Raw5.OrderOk a0 l1 r) :
    Calls Tryd.prog 5 #[.string a0, .slice A1 l1.length c1] w fun e w' => e = .returned (.bool r) ∧ Below w.heap.size w w' :=
  Raw5.order_calls a0 A1 c1 l1 r w hr1 hc1 h
end Go.Proofs.YtagadehcbpoihaaDoor.QSo
