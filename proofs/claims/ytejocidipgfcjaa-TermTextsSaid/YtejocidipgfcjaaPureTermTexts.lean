import Derived.Test.YtejocidipgfcjaaRdTermTexts
import Derived.Test.YtejocidipgfcjaaCellQTermTexts
namespace Go.Proofs.Ytejocidipgfcjaa.PureTermTexts
open Go.RowKit Go.Proofs.YtejocidipgfcjaaR Go.Proofs.Ytejocidipgfcjaa.QTermTexts Go.Proofs.YtejocidipgfcjaaW.PrintWords Go.Proofs.YtejocidipgfcjaaW.PrintLast Go.Proofs.YtejocidipgfcjaaN Go.Proofs.Ytejocidipgfcjaa.QTermTextsCell

theorem toList_eq {a b : ByteArray} : a.toList = b.toList ↔ a = b := by
  constructor
  · intro h
    have e : (a == b) = true := by rw [beq_toListBytes]; exact beq_iff_eq.2 h
    exact (MapKept.bytes_beq a b).1 e
  · intro h; rw [h]
/-- The reference's search of the table. -/
theorem text_from (a0 : ByteArray) (t : List (ByteArray × ByteArray)) (ht : t.length ≤ 100) (d : Nat) : ∀ (k : Nat) (i : Nat), t.length - i = d → i ≤ t.length → d < k →
    frisketref31_Text.l0 k a0 (t.map (·.1)) (t.map (·.2)) (i : Int) = some (inTab a0 (t.drop i)) := by
  induction d with
  | zero =>
    intro k i h1 h2 hk
    obtain ⟨k, rfl⟩ : ∃ m, k = m + 1 := ⟨k - 1, by omega⟩
    obtain rfl : i = t.length := by omega
    simp only [frisketref31_Text.l0]
    rw [if_neg (by simp), List.drop_length]
    rfl
  | succ d ih =>
    intro k i h1 h2 hk
    obtain ⟨k, rfl⟩ : ∃ m, k = m + 1 := ⟨k - 1, by omega⟩
    have hi : i < t.length := by omega
    simp only [frisketref31_Text.l0]
    rw [if_pos (by simpa using hi), if_pos (by omega)]
    have e1 : rdOf ByteArray.empty (t.map (·.1)) (i : Int) = t[i].1 := by simp [rdOf, List.getD, hi]
    have e2 : rdOf ByteArray.empty (t.map (·.2)) (i : Int) = t[i].2 := by simp [rdOf, List.getD, hi]
    rw [e1, e2, List.drop_eq_getElem_cons hi]
    simp only [inTab]
    by_cases c : a0 = t[i].1
    · rw [if_pos (toList_eq.2 c.symm), if_pos (by simpa using hi), if_pos c]
    · rw [if_neg (fun h => c (toList_eq.1 h).symm), if_neg c]
      rw [w64 (by omega) (by omega)]
      have := ih k (i + 1) (by omega) (by omega) (by omega)
      simpa using this
theorem text_eq (a0 : ByteArray) : ∃ r, term_Text.f a0 = some r ∧ ∀ k, 20 ≤ k → frisketref31_Text.f k a0 = some r := by
  unfold term_Text.f frisketref31_Text.f
  by_cases c : (a0.size : Int) = 1
  · simp only [if_pos c]
    exact ⟨_, rfl, fun _ _ => rfl⟩
  · simp only [if_neg c]
    refine ⟨_, rfl, fun k hk => ?_⟩
    have := text_from a0 tab (by decide) tab.length k 0 (by omega) (by omega) (by have : tab.length = 17 := rfl; omega)
    exact this
theorem rd_bytes (a : ByteArray) (i : Int) (h : i < (a.size : Int)) (h0 : 0 ≤ i) : rd (bytesOf a) i = bt a i := by
  have hj : i.toNat < a.size := by omega
  unfold rd bytesOf bt
  rw [dif_pos hj]
  simp [List.getD, hj]
  rfl
theorem plain_from (a : ByteArray) (hs : a.size ≤ 100000) (d : Nat) : ∀ (k : Nat) (x : List Int) (i : Int), 0 ≤ i → i ≤ a.size → (a.size : Int) - i = d → d < k → x.length ≤ i →
    ∃ r, frisketref31_Plain.l0 k a x i = some r ∧ term_Plain.l0 k (bytesOf a) x i = some r := by
  induction d with
  | zero =>
    intro k x i h0 h1 hd hk hx
    obtain ⟨k, rfl⟩ : ∃ m, k = m + 1 := ⟨k - 1, by omega⟩
    refine ⟨strOfNums x, ?_, ?_⟩
    · simp only [frisketref31_Plain.l0]; rw [if_neg (by omega)]
    · simp only [term_Plain.l0]; rw [if_neg (by rw [bytesOf_length]; omega)]
  | succ d ih =>
    intro k x i h0 h1 hd hk hx
    obtain ⟨k, rfl⟩ : ∃ m, k = m + 1 := ⟨k - 1, by omega⟩
    have hi : i < (a.size : Int) := by omega
    simp only [frisketref31_Plain.l0, term_Plain.l0]
    have hi2 : i < ((bytesOf a).length : Int) := by rw [bytesOf_length]; omega
    simp only [if_pos hi, if_pos h0, if_pos hi2, rd_bytes a i hi h0, w64 (x := i + 1) (by omega) (by omega)]
    have push : ∃ r, frisketref31_Plain.l0 k a (x ++ [bt a i]) (i + 1) = some r ∧ term_Plain.l0 k (bytesOf a) (x ++ [bt a i]) (i + 1) = some r :=
      ih k (x ++ [bt a i]) (i + 1) (by omega) (by omega) (by omega) (by omega) (by simp; omega)
    have hlim : x.length < 140737488355328 := by omega
    by_cases c : bt a i = 8
    · rw [if_pos c, if_pos c]
      by_cases c2 : (x.length : Int) > 0
      · rw [if_pos c2, if_pos c2, w64 (by omega) (by omega), if_pos (by omega), if_pos (by omega)]
        rw [show ((x.length : Int) - 1).toNat = x.length - 1 by omega]
        exact ih k _ (i + 1) (by omega) (by omega) (by omega) (by omega) (by simp; omega)
      · rw [if_neg c2, if_neg c2]; simp only [if_pos hlim]
        exact push
    · rw [if_neg c, if_neg c]; simp only [if_pos hlim]
      exact push
theorem plain_eq (a : ByteArray) (hs : a.size ≤ 100000) : ∃ r, ∀ k, a.size + 1 ≤ k → term_Plain.f k a = some r ∧ frisketref31_Plain.f k a = some r := by
  obtain ⟨r, h1, h2⟩ := plain_from a hs a.size (a.size + 1) [] 0 (by omega) (by omega) (by omega) (by omega) (by simp)
  refine ⟨r, fun k hk => ⟨?_, ?_⟩⟩
  · have h3 : term_Plain.f (a.size + 1) a = some r := by
      unfold term_Plain.f
      rw [if_pos (by omega)]
      exact h2
    exact at_rounds (term_Plain.mono a) hk h3
  · exact at_rounds (frisketref31_Plain.mono a) hk h1
theorem end_true (k : Nat) (x0 x1 x7 : ByteArray) (h1 : x1.size ≤ 2000) (h7 : x7.size ≤ 2000) (hk : 3000 ≤ k) : frisketlaw31_TermTexts.j1 k x0 x1 x7 = some true := by
  obtain ⟨k, rfl⟩ : ∃ m, k = m + 1 := ⟨k - 1, by omega⟩
  obtain ⟨r0, e1, e2⟩ := text_eq x0
  obtain ⟨r1, e3⟩ := plain_eq x1 (by omega)
  obtain ⟨r2, e4⟩ := plain_eq x7 (by omega)
  have hs : frisketlaw31_sane.f k = some true := by
    obtain ⟨m, rfl⟩ : ∃ m, k = m + 1 := ⟨k - 1, by omega⟩
    exact sane_true m
  simp only [frisketlaw31_TermTexts.j1, e1, e2 k (by omega), (e3 k (by omega)).1, (e3 k (by omega)).2, (e4 k (by omega)).1, (e4 k (by omega)).2, hs, Option.bind_some, if_true]
theorem cut_size (m : Int) (h0 : 0 ≤ m) (h1 : m < 6) : ((⟨#[97, 98, 95, 8, 8, 45]⟩ : ByteArray).extract m.toNat (m + 1).toNat).size = 1 := by
  rw [ByteArray.size_extract]
  have : (⟨#[97, 98, 95, 8, 8, 45]⟩ : ByteArray).size = 6 := rfl
  omega
theorem build_true (x0 x1 : ByteArray) (x2 : List Int) (h1 : x1.size ≤ 2000) (d : Nat) : ∀ (k : Nat) (x7 : ByteArray) (i : Int), 0 ≤ i → i ≤ 80 → 80 - i = d → d + 3001 ≤ k → x7.size ≤ i →
    frisketlaw31_TermTexts.l0 k x0 x1 x2 x7 i = some true := by
  induction d with
  | zero =>
    intro k x7 i h0 hi hd hk hx
    obtain ⟨k, rfl⟩ : ∃ m, k = m + 1 := ⟨k - 1, by omega⟩
    simp only [frisketlaw31_TermTexts.l0]
    have he : frisketlaw31_TermTexts.j1 k x0 x1 x7 = some true := end_true k x0 x1 x7 h1 (by omega) (by omega)
    rw [he, if_neg (c := i < 80) (by omega)]
    split <;> rfl
  | succ d ih =>
    intro k x7 i h0 hi hd hk hx
    obtain ⟨k, rfl⟩ : ∃ m, k = m + 1 := ⟨k - 1, by omega⟩
    simp only [frisketlaw31_TermTexts.l0]
    by_cases c : i < (x2.length : Int)
    · rw [if_pos c, if_pos (by omega), if_pos h0]
      obtain ⟨e, l, u⟩ := cut (rd x2 i) 6 (by omega) (by omega)
      rw [e]
      generalize IntKind.u64.wrap (rd x2 i) % 6 = m at *
      have hc := cut_size m l u
      rw [w64 (x := m + 1) (by omega) (by omega), if_pos l, if_pos (by omega), if_pos (by omega), hc, if_pos (by omega), w64 (x := i + 1) (by omega) (by omega)]
      exact ih k _ (i + 1) (by omega) (by omega) (by omega) (by omega) (by rw [ByteArray.size_append, hc]; omega)
    · rw [if_neg c]
      exact end_true k x0 x1 x7 h1 (by omega) (by omega)
theorem TermTexts (a0 : ByteArray) (a1 : ByteArray) (l2 : List Int) (_ : R9.good a0) (_ : R9.good a1) (_ : R33.good l2) : ∃ k, frisketlaw31_TermTexts.f k a0 a1 l2 = some true := by
  refine ⟨4000, ?_⟩
  unfold frisketlaw31_TermTexts.f
  by_cases c : (a1.size : Int) > 2000
  · rw [if_pos c, sane_true 3999]
    rfl
  · rw [if_neg c]
    exact build_true a0 a1 l2 (by omega) 80 4000 ⟨#[]⟩ 0 (by omega) (by omega) (by omega) (by omega) (by decide)
end Go.Proofs.Ytejocidipgfcjaa.PureTermTexts
