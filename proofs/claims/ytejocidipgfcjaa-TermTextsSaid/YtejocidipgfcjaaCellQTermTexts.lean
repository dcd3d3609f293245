/- What term.Cell computes, and that the fixed example holds (template: QTermTexts the printed texts' key). -/
import Derived.Test.YtejocidipgfcjaaQTermTextsx1
import Derived.Test.YtejocidipgfcjaaNum
namespace Go.Proofs.Ytejocidipgfcjaa.QTermTextsCell
open Go.RowKit Go.Proofs.Ytejocidipgfcjaa.QTermTexts Go.Proofs.YtejocidipgfcjaaW.PrintWords Go.Proofs.YtejocidipgfcjaaW.PrintLast Go.Proofs.YtejocidipgfcjaaW.PrintMore Go.Proofs.YtejocidipgfcjaaN

/-- near divides to the nearest: twice the product is at most half a step off. -/
theorem near_some (a b : Int) (hb : 1 ≤ b) (hb2 : b ≤ 1000) (ha : -100000000 ≤ a) (ha2 : a ≤ 100000000) :
    ∃ q, term_near.f a b = some q ∧ -b ≤ 2 * (q * b - a) ∧ 2 * (q * b - a) ≤ b := by
  have key : ∀ n d : Int, 0 < d → ∃ q, (if Int.tmod n d < 0 then Int.tdiv n d - 1 else Int.tdiv n d) = q ∧ d * q ≤ n ∧ n < d * q + d := by
    intro n d hd
    refine ⟨_, rfl, ?_⟩
    have e := Int.mul_tdiv_add_tmod n d
    have h1 := Int.tmod_lt_of_pos n hd
    have h2 : -d < Int.tmod n d := by
      rcases Int.le_total 0 n with hn | hn
      · have := Int.tmod_nonneg d hn; omega
      · have := Int.tmod_lt_of_pos (-n) hd
        rw [Int.neg_tmod] at this
        omega
    split
    · rw [Int.mul_sub]; omega
    · omega
  obtain ⟨q, hq, h1, h2⟩ := key (2 * a + b) (2 * b) (by omega)
  have hp : 2 * b * q = 2 * (q * b) := by rw [Int.mul_assoc, Int.mul_comm b q]
  have hqb : q * b ≤ 100001000 ∧ -100001000 ≤ q * b := by rw [hp] at h1 h2; omega
  have hql : q ≤ 100001000 ∧ -100001000 ≤ q := by
    rcases Int.le_total 0 q with h | h
    · constructor
      · have : q * 1 ≤ q * b := Int.mul_le_mul_of_nonneg_left hb h
        omega
      · omega
    · constructor
      · omega
      · have : -q * 1 ≤ -q * b := Int.mul_le_mul_of_nonneg_left hb (by omega)
        have e2 : -q * b = -(q * b) := Int.neg_mul q b
        omega
  unfold term_near.f
  rw [w64 (x := 2 * b) (by omega) (by omega), w64 (x := 2 * a) (by omega) (by omega), w64 (x := 2 * a + b) (by omega) (by omega)]
  rw [if_neg (by omega)]
  by_cases hm : Int.tmod (2 * a + b) (2 * b) < 0
  · rw [if_pos hm] at hq ⊢
    have e : Int.tdiv (2 * a + b) (2 * b) = q + 1 := by omega
    rw [e, w64 (x := q + 1) (by omega) (by omega), w64 (by omega) (by omega)]
    refine ⟨_, rfl, ?_⟩
    have : q + 1 - 1 = q := by omega
    rw [this]
    rw [hp] at h1 h2
    omega
  · rw [if_neg hm] at hq ⊢
    rw [hq, w64 (by omega) (by omega)]
    refine ⟨_, rfl, ?_⟩
    rw [hp] at h1 h2
    omega
theorem mx_le {a b c : Int} (h : a ≤ c) (k : b ≤ c) : mx a b ≤ c := by unfold mx; split <;> assumption
theorem le_mx {a b c : Int} (h : c ≤ a) : c ≤ mx a b := by unfold mx; split <;> omega
theorem mn_le {a b c : Int} (h : a ≤ c) : mn a b ≤ c := by unfold mn; split <;> omega
theorem le_mn {a b c : Int} (h : c ≤ a) (k : c ≤ b) : c ≤ mn a b := by unfold mn; split <;> assumption
theorem good_true {p q r s t : Int} (h1 : 1 ≤ p) (h2 : p ≤ 1000) (h3 : 1 ≤ q) (h4 : q ≤ 1000) (h5 : 1 ≤ r) (h6 : r ≤ 300) (h7 : -1 ≤ s) (h8 : s ≤ 99) (h9 : -1 ≤ t) (h10 : t ≤ 99) : term_good.f p q r s t = some true := by
  unfold term_good.f
  rw [if_pos (le_mn (le_mn h1 h3) h5), if_pos (mx_le h2 h4), if_pos h6, if_pos (le_mn h7 h9)]
  rw [decide_eq_true (mx_le h8 h10)]
theorem cell_some {p q r s t x y : Int} (h1 : 1 ≤ p) (h2 : p ≤ 1000) (h3 : 1 ≤ q) (h4 : q ≤ 1000) (h5 : 1 ≤ r) (h6 : r ≤ 300) (h7 : -1 ≤ s) (h8 : s ≤ 99) (h9 : -1 ≤ t) (h10 : t ≤ 99)
    (hx : -100000000 ≤ x) (hx2 : x ≤ 100000000) (hy : -100000000 ≤ y) (hy2 : y ≤ 100000000) :
    ∃ u v, (∀ k, term_Cell.f (k + 1) p q r s t x y = some (u, v, 0)) ∧ term_near.f x p = some u ∧ term_near.f y q = some v ∧ -p ≤ 2 * (u * p - x) ∧ 2 * (u * p - x) ≤ p ∧ -q ≤ 2 * (v * q - y) ∧ 2 * (v * q - y) ≤ q := by
  obtain ⟨u, hu, hu1, hu2⟩ := near_some x p h1 h2 hx hx2
  obtain ⟨v, hv, hv1, hv2⟩ := near_some y q h3 h4 hy hy2
  refine ⟨u, v, fun k => ?_, hu, hv, hu1, hu2, hv1, hv2⟩
  unfold term_Cell.f
  rw [good_true h1 h2 h3 h4 h5 h6 h7 h8 h9 h10]
  simp only [Option.bind_some, if_true]
  have hm : ¬ mx x y > 100000000 := by have := mx_le hx2 hy2; omega
  have hn : ¬ mn x y < -100000000 := by have := le_mn hx hy; omega
  rw [if_neg hm, decide_eq_false hn]
  simp only [term_Cell.j0, Bool.false_eq_true, if_false]
  rw [hu, hv]
  rfl
theorem sane_true (k : Nat) : frisketlaw31_sane.f (k + 1) = some true := by
  obtain ⟨u, v, h, hu, _, _, _, _, _⟩ := cell_some (p := 60) (q := 120) (r := 80) (s := -1) (t := -1) (x := 29) (y := 0) (by omega) (by omega) (by omega) (by omega) (by omega) (by omega) (by omega) (by omega) (by omega) (by omega) (by omega) (by omega) (by omega) (by omega)
  obtain ⟨u2, v2, h2, hu2, _, _, _, _, _⟩ := cell_some (p := 60) (q := 120) (r := 80) (s := -1) (t := -1) (x := 30) (y := 0) (by omega) (by omega) (by omega) (by omega) (by omega) (by omega) (by omega) (by omega) (by omega) (by omega) (by omega) (by omega) (by omega) (by omega)
  unfold frisketlaw31_sane.f
  rw [h k, h2 k]
  have e1 : u = 0 := by
    have : term_near.f 29 60 = some 0 := by unfold term_near.f wrap64; decide
    rw [this] at hu
    exact (Option.some.inj hu).symm
  have e2 : u2 = 1 := by
    have : term_near.f 30 60 = some 1 := by unfold term_near.f wrap64; decide
    rw [this] at hu2
    exact (Option.some.inj hu2).symm
  subst e1 e2
  rfl

end Go.Proofs.Ytejocidipgfcjaa.QTermTextsCell
