/- The words and patterns that numbers make; Show's text read again. -/
import Derived.Test.YtegcelmjejhnfaaDoorQHyx7
import Derived.Test.YtegcelmjejhnfaaDoorVals9Hy
namespace Go.Proofs.YtegcelmjejhnfaaDoor.Made9
open Go.RowKit Go.Proofs.YtegcelmjejhnfaaDoor.QHy Go.Proofs.YtegcelmjejhnfaaDoorW.PrintWords Go.Proofs.YtegcelmjejhnfaaDoorW.PrintLast Go.Proofs.YtegcelmjejhnfaaDoorW.PrintMore Go.Proofs.YtegcelmjejhnfaaDoorN Go.Proofs.YtegcelmjejhnfaaDoor.Evl Go.Proofs.YtegcelmjejhnfaaDoor.Str Go.Proofs.YtegcelmjejhnfaaDoor.Words9 Go.Proofs.YtegcelmjejhnfaaDoor.Read9 Go.Proofs.YtegcelmjejhnfaaDoor.Vals9
set_option linter.unusedVariables false
theorem u64_range (x : Int) : 0 ≤ IntKind.u64.wrap x ∧ IntKind.u64.wrap x ≤ 18446744073709551615 := by
  have e : IntKind.u64.wrap x = x % 18446744073709551616 := by
    simp [IntKind.wrap, IntKind.signed, IntKind.bits]
  rw [e]
  omega
theorem u64_id {x : Int} (h0 : 0 ≤ x) (h1 : x ≤ 18446744073709551615) : IntKind.u64.wrap x = x := by
  have e : IntKind.u64.wrap x = x % 18446744073709551616 := by
    simp [IntKind.wrap, IntKind.signed, IntKind.bits]
  rw [e]
  omega
theorem tm_range {x : Int} (h : 0 ≤ x) (n : Int) (hn : 0 < n) : 0 ≤ Int.tmod x n ∧ Int.tmod x n < n := by
  rw [Int.tmod_eq_emod_of_nonneg h]
  exact ⟨Int.emod_nonneg _ (by omega), Int.emod_lt_of_pos _ hn⟩
/-- One byte cut out of a text. -/
theorem one_of (l : List UInt8) {i : Int} (h0 : 0 ≤ i) (h1 : i < (l.length : Int)) : ∃ c ∈ l, (mkB l).extract i.toNat (i + 1).toNat = mkB [c] := by
  have hi : i.toNat < l.length := by omega
  refine ⟨l[i.toNat], List.getElem_mem hi, ?_⟩
  have := ext_drop (l := l) (i := i.toNat) (u := [l[i.toNat]]) (t := l.drop (i.toNat + 1)) (by rw [List.drop_eq_getElem_cons hi]; rfl)
  rw [show (i + 1).toNat = i.toNat + 1 by omega]
  simpa using this
def abc15 : List UInt8 := [97, 98, 100, 101, 105, 108, 110, 111, 114, 115, 116, 117, 84, 69, 78]
def abc12 : List UInt8 := [97, 98, 100, 101, 105, 108, 110, 111, 114, 115, 116, 117]
theorem abc15_lt : abc15.all lt = true := by decide
theorem abc12_sm : ∀ c ∈ abc12, sm c = true ∧ dg c = false ∧ c ≠ 46 := by decide
def IsWord (r : ByteArray) : Prop := ∃ W, r = mkB W ∧ isW W = true
theorem word_end (s : List UInt8) (hs : s.all lt = true) (hl : s.length ≤ 60) : EvG (fun _ => if (mkB s).toList = ([] : List UInt8) then (some (⟨#[97]⟩ : ByteArray)) else (some (mkB s))) IsWord := by
  rw [toList_mkB]
  refine EvG.ite (fun c => ⟨_, Evl.some _, [97], rfl, by decide⟩) (fun c => ⟨_, Evl.some _, s, rfl, ?_⟩)
  unfold isW
  rw [hs, Bool.true_and]
  refine decide_eq_true ⟨?_, hl⟩
  cases s with
  | nil => exact absurd rfl c
  | cons => simp
theorem word_l (l0 : List Int) (hl : l0.length < 4611686018427387904) : ∀ (m i : Nat) (s : List UInt8), m = 60 - i → s.length = i → i ≤ 60 → s.all lt = true → EvG (fun k => frisketlaw09_Word.l0 k l0 (mkB s) (i : Int)) IsWord
  | 0, i, s, e, hs, hi, ha => by
    refine EvG.succ ?_
    simp only [frisketlaw09_Word.l0]
    refine EvG.ite (fun c => EvG.neg (by omega) ?_) (fun c => ?_)
    · exact word_end s ha (by omega)
    · exact word_end s ha (by omega)
  | m + 1, i, s, e, hs, hi, ha => by
    refine EvG.succ ?_
    simp only [frisketlaw09_Word.l0]
    refine EvG.ite (fun c => EvG.pos (by omega) ?_) (fun c => ?_)
    · obtain ⟨x, hx⟩ : ∃ x, wrap64 (Int.tmod (IntKind.u64.wrap (rd l0 (i : Int))) 15) = x := ⟨_, rfl⟩
      have hr : 0 ≤ x ∧ x < 15 := by
        have h := tm_range (u64_range (rd l0 (i : Int))).1 15 (by decide)
        rw [w64 (by omega) (by omega)] at hx
        rw [← hx]
        exact h
      simp only [hx]
      rw [w64 (x := x + 1) (by omega) (by omega)]
      obtain ⟨b, hb, eb⟩ := one_of abc15 hr.1 (by show x < ((15 : Nat) : Int); omega)
      have eb2 : (⟨#[97, 98, 100, 101, 105, 108, 110, 111, 114, 115, 116, 117, 84, 69, 78]⟩ : ByteArray).extract x.toNat (x + 1).toNat = mkB [b] := eb
      rw [eb2, append_mkB, wn (by omega), size_mkB, size_mkB]
      refine EvG.pos (by omega) (EvG.pos (by omega) (EvG.pos (by omega) (EvG.pos (by omega) (EvG.pos (by simp; omega) ?_))))
      exact word_l l0 hl m (i + 1) (s ++ [b]) (by omega) (by simp [hs]) (by omega) (by
        rw [List.all_append, ha, Bool.true_and, List.all_cons, List.all_eq_true.1 abc15_lt b hb]
        rfl)
    · exact word_end s ha (by omega)
theorem word_made (l0 : List Int) (hl : l0.length < 4611686018427387904) : EvG (fun k => frisketlaw09_Word.f k l0) IsWord := by
  simp only [frisketlaw09_Word.f]
  exact word_l l0 hl 60 0 [] rfl rfl (by omega) rfl
/-! ### patterns -/
/-- A text of which n letters have been read, and that may go on. -/
def Goes (s : List UInt8) (n : Nat) : Prop := ∃ t v, ∀ rest, rdL true (s ++ rest) [] [] 0 0 = rdL (decide (s = [])) rest t v 0 n
theorem goes_nil : Goes [] 0 := ⟨[], [], fun rest => rfl⟩
theorem goes_dot : Goes [46] 0 := ⟨[46], [0], fun rest => rfl⟩
theorem goes_letter {s : List UInt8} {n : Nat} (h : Goes s n) {c : UInt8} (hc : sm c = true ∧ dg c = false ∧ c ≠ 46) : Goes (s ++ [c]) (n + 1) := by
  obtain ⟨t, v, h⟩ := h
  refine ⟨t ++ [c], v ++ [0], fun rest => ?_⟩
  rw [List.append_assoc, h, decide_eq_false (by simp : ¬ s ++ [c] = [])]
  show rdL _ (c :: rest) t v 0 n = _
  rw [rdL, if_neg (by rw [hc.2.1]; simp), if_pos hc.1]
theorem goes_digit {s : List UInt8} {n : Nat} (h : Goes s n) {d c : UInt8} (hd : dg d = true) (hc : sm c = true ∧ dg c = false ∧ c ≠ 46) : Goes (s ++ [d, c]) (n + 1) := by
  obtain ⟨t, v, h⟩ := h
  refine ⟨t ++ [c], v ++ [(d.toNat : Int) - 48], fun rest => ?_⟩
  rw [List.append_assoc, h, decide_eq_false (by simp : ¬ s ++ [d, c] = [])]
  show rdL _ (d :: c :: rest) t v 0 n = _
  rw [rdL, if_pos hd, if_neg (by omega), rdL, if_neg (by rw [hc.2.1]; simp), if_pos hc.1]
theorem goes_end {s : List UInt8} {n : Nat} (h : Goes s n) (h1 : 1 ≤ n ∧ n ≤ 15) : okP s = true := by
  obtain ⟨t, v, h⟩ := h
  have := h []
  rw [List.append_nil] at this
  unfold okP rdp
  rw [this, rdL]
  exact decide_eq_true h1
theorem goes_end_dot {s : List UInt8} {n : Nat} (h : Goes s n) (h1 : 1 ≤ n ∧ n ≤ 15) : okP (s ++ [46]) = true := by
  obtain ⟨t, v, h⟩ := h
  unfold okP rdp
  rw [h [46], rdL, if_neg (by decide), if_neg (by decide), if_pos ⟨rfl, Or.inr rfl⟩, rdL]
  exact decide_eq_true h1
/-- A list of right patterns. -/
def Pats (r : List ByteArray) : Prop := ∃ P : List (List UInt8), r = P.map mkB ∧ P.length ≤ 40 ∧ P.all okP = true ∧ ∀ s ∈ P, s.length ≤ 20
theorem pats_app {P : List (List UInt8)} {s : List UInt8} (h2 : P.all okP = true) (h3 : ∀ s ∈ P, s.length ≤ 20) (hs : okP s = true) (hl : s.length ≤ 20) : (P ++ [s]).all okP = true ∧ ∀ s2 ∈ P ++ [s], s2.length ≤ 20 := by
  refine ⟨by rw [List.all_append, h2, Bool.true_and, List.all_cons, hs]; rfl, fun s2 hs2 => ?_⟩
  rcases List.mem_append.1 hs2 with h | h
  · exact h3 s2 h
  · rw [List.mem_singleton.1 h]; exact hl
theorem dig_str {x : Int} (h0 : 0 < x) (h1 : x < 10) : ∃ d : UInt8, dg d = true ∧ strOfNums [(IntKind.u64.wrap (48 + x)) % 256] = mkB [d] := by
  refine ⟨UInt8.ofNat (48 + x).toNat, ?_, ?_⟩
  · unfold dg
    rw [UInt8.toNat_ofNat']
    exact decide_eq_true (by omega)
  · rw [u64_id (by omega) (by omega), ← nums_str, List.map_cons, List.map_nil, UInt8.toNat_ofNat']
    congr 2
    omega
section
variable (l0 : List Int)
theorem pat_l1 (P : List (List UInt8)) (hPl : P.length < 100000) (i : Nat) (hi : i < 1000) (x5 : Int) (N : Nat) (hN : IntKind.u64.wrap (1 + Int.tmod x5 4) = (N : Int)) (hN4 : 1 ≤ N ∧ N ≤ 4)
    (next : ∀ s, okP s = true → s.length ≤ 20 → EvG (fun k => frisketlaw09_patterns.l0 k l0 ((P ++ [s]).map mkB) ((i + 1 : Nat) : Int)) Pats) :
    ∀ (m n : Nat) (s : List UInt8), n + m = N → Goes s n → s.length ≤ 1 + 2 * n → EvG (fun k => frisketlaw09_patterns.l1 k l0 (P.map mkB) (i : Int) x5 (mkB s) (n : Int)) Pats
  | 0, n, s, e, hg, hl => by
    refine EvG.succ ?_
    simp only [frisketlaw09_patterns.l1, List.length_map]
    rw [hN]
    refine EvG.neg (by omega) ?_
    rw [wn (by omega)]
    refine EvG.ite (fun c => EvG.pos (by rw [size_mkB]; omega) (EvG.pos (by omega) ?_)) (fun c => EvG.pos (by omega) ?_)
    · have h := next (s ++ [46]) (goes_end_dot hg (by omega)) (by simp; omega)
      rw [List.map_append] at h
      have ed : mkB s ++ (⟨#[46]⟩ : ByteArray) = mkB (s ++ [46]) := append_mkB s [46]
      rw [ed]
      exact h
    · have h := next s (goes_end hg (by omega)) (by omega)
      rw [List.map_append] at h
      exact h
  | m + 1, n, s, e, hg, hl => by
    refine EvG.succ ?_
    simp only [frisketlaw09_patterns.l1]
    rw [hN]
    refine EvG.pos (by omega) ?_
    obtain ⟨x, hx⟩ : ∃ x, Int.tmod (IntKind.u64.wrap ((Int.tmod (IntKind.u64.wrap (Int.tdiv x5 3)) 7) * (IntKind.u64.wrap ((n : Int) + 1)))) 10 = x := ⟨_, rfl⟩
    obtain ⟨y, hy⟩ : ∃ y, Int.tmod (IntKind.u64.wrap ((IntKind.u64.wrap (Int.tdiv x5 7)) + (IntKind.u64.wrap ((IntKind.u64.wrap ((n : Int) * (n : Int))) * 3)))) 12 = y := ⟨_, rfl⟩
    have hxr : 0 ≤ x ∧ x < 10 := by rw [← hx]; exact tm_range (u64_range _).1 10 (by decide)
    have hyr : 0 ≤ y ∧ y < 12 := by rw [← hy]; exact tm_range (u64_range _).1 12 (by decide)
    simp only [hx, hy]
    rw [u64_id (x := y + 1) (by omega) (by omega), u64_id (x := (n : Int) + 1) (by omega) (by omega), show (n : Int) + 1 = ((n + 1 : Nat) : Int) by omega]
    obtain ⟨c, hc, ec⟩ := one_of abc12 hyr.1 (by show y < ((12 : Nat) : Int); omega)
    have ec2 : (⟨#[97, 98, 100, 101, 105, 108, 110, 111, 114, 115, 116, 117]⟩ : ByteArray).extract y.toNat (y + 1).toNat = mkB [c] := ec
    rw [ec2]
    have hcc := abc12_sm c hc
    refine EvG.ite (fun h => ?_) (fun h => ?_)
    · obtain ⟨d, hd, ed⟩ := dig_str h hxr.2
      refine EvG.bind (Evl.some _) ?_
      rw [ed, append_mkB, append_mkB, List.append_assoc, size_mkB, size_mkB, size_mkB, size_mkB]
      refine EvG.pos (by simp; omega) (EvG.pos (by omega) (EvG.pos (by omega) (EvG.pos (by omega) (EvG.pos (by simp; omega) ?_))))
      exact pat_l1 P hPl i hi x5 N hN hN4 next m (n + 1) (s ++ [d, c]) (by omega) (goes_digit hg hd hcc) (by simp; omega)
    · rw [append_mkB, size_mkB, size_mkB]
      refine EvG.pos (by omega) (EvG.pos (by omega) (EvG.pos (by omega) (EvG.pos (by simp; omega) ?_)))
      exact pat_l1 P hPl i hi x5 N hN hN4 next m (n + 1) (s ++ [c]) (by omega) (goes_letter hg hcc) (by simp; omega)
theorem pat_l0 : ∀ (m i : Nat) (P : List (List UInt8)), m = 40 - i → i ≤ 40 → P.length = i → P.all okP = true → (∀ s ∈ P, s.length ≤ 20) → EvG (fun k => frisketlaw09_patterns.l0 k l0 (P.map mkB) (i : Int)) Pats := by
  intro m
  induction m with
  | zero =>
    intro i P e hi hl h2 h3
    have stop : EvG (fun k => frisketlaw09_patterns.j1 k l0 (P.map mkB) (i : Int) false) Pats := by
      refine EvG.succ ?_
      simp only [frisketlaw09_patterns.j1]
      exact EvG.neg (by simp) ⟨_, Evl.some _, P, rfl, by omega, h2, h3⟩
    refine EvG.succ ?_
    simp only [frisketlaw09_patterns.l0]
    rw [decide_eq_false (by omega : ¬ (i : Int) < 40)]
    exact EvG.ite (fun c => stop) (fun c => stop)
  | succ m ih =>
    intro i P e hi hl h2 h3
    have stop : EvG (fun k => frisketlaw09_patterns.j1 k l0 (P.map mkB) (i : Int) false) Pats := by
      refine EvG.succ ?_
      simp only [frisketlaw09_patterns.j1]
      exact EvG.neg (by simp) ⟨_, Evl.some _, P, rfl, by omega, h2, h3⟩
    refine EvG.succ ?_
    simp only [frisketlaw09_patterns.l0]
    rw [decide_eq_true (by omega : (i : Int) < 40)]
    refine EvG.ite (fun c => ?_) (fun c => stop)
    refine EvG.succ ?_
    simp only [frisketlaw09_patterns.j1, if_true]
    refine EvG.pos (by omega) (EvG.pos c ?_)
    obtain ⟨x5, h5⟩ : ∃ x, IntKind.u64.wrap (rd l0 (i : Int)) = x := ⟨_, rfl⟩
    have h5r : 0 ≤ x5 := by rw [← h5]; exact (u64_range _).1
    simp only [h5]
    have h4 := tm_range h5r 4 (by decide)
    obtain ⟨N, hN⟩ : ∃ N : Nat, 1 + Int.tmod x5 4 = (N : Int) := ⟨(1 + Int.tmod x5 4).toNat, by omega⟩
    have hN2 : IntKind.u64.wrap (1 + Int.tmod x5 4) = (N : Int) := by rw [u64_id (by omega) (by omega), hN]
    have next : ∀ s, okP s = true → s.length ≤ 20 → EvG (fun k => frisketlaw09_patterns.l0 k l0 ((P ++ [s]).map mkB) ((i + 1 : Nat) : Int)) Pats := fun s hs hsl =>
      ih (i + 1) (P ++ [s]) (by omega) (by omega) (by simp [hl]) (pats_app h2 h3 hs hsl).1 (pats_app h2 h3 hs hsl).2
    refine EvG.ite (fun c2 => ?_) (fun c2 => ?_)
    · refine EvG.succ ?_
      simp only [frisketlaw09_patterns.j2]
      exact pat_l1 l0 P (by omega) i (by omega) x5 N hN2 (by omega) next N 0 [46] (by omega) goes_dot (by simp)
    · refine EvG.succ ?_
      simp only [frisketlaw09_patterns.j2]
      exact pat_l1 l0 P (by omega) i (by omega) x5 N hN2 (by omega) next N 0 [] (by omega) goes_nil (by simp)
theorem patterns_made : EvG (fun k => frisketlaw09_patterns.f k l0) Pats := by
  simp only [frisketlaw09_patterns.f]
  exact pat_l0 l0 40 0 [] rfl (by omega) rfl rfl (by simp)
end
theorem pats_small {P : List (List UInt8)} (h : ∀ s ∈ P, s.length ≤ 20) : Small P := fun s hs => by have := h s hs; omega
end Go.Proofs.YtegcelmjejhnfaaDoor.Made9
