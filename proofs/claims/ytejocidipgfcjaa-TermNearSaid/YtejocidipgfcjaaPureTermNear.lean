import Derived.Test.YtejocidipgfcjaaPTermNearx1
namespace Go.Proofs.Ytejocidipgfcjaa.Pure
open Go.RowKit Go.Proofs.Ytejocidipgfcjaa.PTermNear Go.Proofs.YtejocidipgfcjaaW.PrintWords Go.Proofs.YtejocidipgfcjaaW.PrintLast

theorem w64 {x : Int} (h0 : -9223372036854775808 ≤ x) (h1 : x ≤ 9223372036854775807) : wrap64 x = x := by
  unfold wrap64
  omega
theorem u64_range (x : Int) : 0 ≤ IntKind.u64.wrap x ∧ IntKind.u64.wrap x < 18446744073709551616 := by
  have h : IntKind.u64.wrap x = x % 18446744073709551616 := by simp [IntKind.wrap, IntKind.signed, IntKind.bits]
  rw [h]
  omega
/-- What made takes of a number. -/
theorem cut (x : Int) (m : Int) (hm : 0 < m) (hb : m ≤ 1000000000) : wrap64 (Int.tmod (IntKind.u64.wrap x) m) = IntKind.u64.wrap x % m ∧ 0 ≤ IntKind.u64.wrap x % m ∧ IntKind.u64.wrap x % m < m := by
  have h := u64_range x
  have h0 := Int.emod_nonneg (IntKind.u64.wrap x) (show m ≠ 0 by omega)
  have h1 := Int.emod_lt_of_pos (IntKind.u64.wrap x) hm
  rw [Int.tmod_eq_emod_of_nonneg h.1, w64 (by omega) (by omega)]
  exact ⟨rfl, h0, h1⟩
theorem made_some (a b : Int) : ∃ p q r s t, frisketlaw31_made.f a b = some (p, q, r, s, t) ∧ 1 ≤ p ∧ p ≤ 100 ∧ 1 ≤ q ∧ q ≤ 200 ∧ 1 ≤ r ∧ r ≤ 90 ∧ -1 ≤ s ∧ s ≤ 2 ∧ -1 ≤ t ∧ t ≤ 2 := by
  obtain ⟨e1, l1, u1⟩ := cut a 100000 (by omega) (by omega)
  obtain ⟨e2, l2, u2⟩ := cut b 100000 (by omega) (by omega)
  unfold frisketlaw31_made.f
  rw [e1, e2]
  generalize IntKind.u64.wrap a % 100000 = x at *
  generalize IntKind.u64.wrap b % 100000 = y at *
  refine ⟨_, _, _, _, _, rfl, ?_⟩
  rw [Int.tmod_eq_emod_of_nonneg l1, Int.tmod_eq_emod_of_nonneg l2, Int.tdiv_eq_ediv_of_nonneg l1, Int.tdiv_eq_ediv_of_nonneg l1, Int.tdiv_eq_ediv_of_nonneg l2]
  rw [w64 (x := x / 100) (by omega) (by omega), w64 (x := x / 9000) (by omega) (by omega), w64 (x := y / 200) (by omega) (by omega)]
  rw [Int.tmod_eq_emod_of_nonneg (a := x / 100) (by omega), Int.tmod_eq_emod_of_nonneg (a := x / 9000) (by omega), Int.tmod_eq_emod_of_nonneg (a := y / 200) (by omega)]
  rw [w64 (by omega) (by omega), w64 (by omega) (by omega), w64 (by omega) (by omega), w64 (by omega) (by omega), w64 (by omega) (by omega)]
  omega
/-- near divides to the nearest: twice the product is at most half a step off. -/
theorem near_some (a b : Int) (hb : 1 ≤ b) (hb2 : b ≤ 1000) (ha : -100000000 ≤ a) (ha2 : a ≤ 100000000) :
    ∃ q, term_near.f a b = some q ∧ -b ≤ 2 * (q * b - a) ∧ 2 * (q * b - a) ≤ b := by
  have key : ∀ n d : Int, 0 < d → ∃ q, (if Int.tmod n d < 0 then Int.tdiv n d - 1 else Int.tdiv n d) = q ∧ d * q ≤ n ∧ n < d * q + d := by
    intro n d hd
    refine ⟨_, rfl, ?_⟩
    have e := Int.mul_tdiv_add_tmod n d
    have h1 := Int.tmod_lt_of_pos n hd
    have h2 : -d < Int.tmod n d := by
      rcases Int.le_total 0 n with hn | hn
      · have := Int.tmod_nonneg d hn; omega
      · have := Int.tmod_lt_of_pos (-n) hd
        rw [Int.neg_tmod] at this
        omega
    split
    · rw [Int.mul_sub]; omega
    · omega
  obtain ⟨q, hq, h1, h2⟩ := key (2 * a + b) (2 * b) (by omega)
  have hp : 2 * b * q = 2 * (q * b) := by rw [Int.mul_assoc, Int.mul_comm b q]
  have hqb : q * b ≤ 100001000 ∧ -100001000 ≤ q * b := by rw [hp] at h1 h2; omega
  have hql : q ≤ 100001000 ∧ -100001000 ≤ q := by
    rcases Int.le_total 0 q with h | h
    · constructor
      · have : q * 1 ≤ q * b := Int.mul_le_mul_of_nonneg_left hb h
        omega
      · omega
    · constructor
      · omega
      · have : -q * 1 ≤ -q * b := Int.mul_le_mul_of_nonneg_left hb (by omega)
        have e2 : -q * b = -(q * b) := Int.neg_mul q b
        omega
  unfold term_near.f
  rw [w64 (x := 2 * b) (by omega) (by omega), w64 (x := 2 * a) (by omega) (by omega), w64 (x := 2 * a + b) (by omega) (by omega)]
  rw [if_neg (by omega)]
  by_cases hm : Int.tmod (2 * a + b) (2 * b) < 0
  · rw [if_pos hm] at hq ⊢
    have e : Int.tdiv (2 * a + b) (2 * b) = q + 1 := by omega
    rw [e, w64 (x := q + 1) (by omega) (by omega), w64 (by omega) (by omega)]
    refine ⟨_, rfl, ?_⟩
    have : q + 1 - 1 = q := by omega
    rw [this]
    rw [hp] at h1 h2
    omega
  · rw [if_neg hm] at hq ⊢
    rw [hq, w64 (by omega) (by omega)]
    refine ⟨_, rfl, ?_⟩
    rw [hp] at h1 h2
    omega
theorem mx_le {a b c : Int} (h : a ≤ c) (k : b ≤ c) : mx a b ≤ c := by unfold mx; split <;> assumption
theorem le_mx {a b c : Int} (h : c ≤ a) : c ≤ mx a b := by unfold mx; split <;> omega
theorem mn_le {a b c : Int} (h : a ≤ c) : mn a b ≤ c := by unfold mn; split <;> omega
theorem le_mn {a b c : Int} (h : c ≤ a) (k : c ≤ b) : c ≤ mn a b := by unfold mn; split <;> assumption
theorem good_true {p q r s t : Int} (h1 : 1 ≤ p) (h2 : p ≤ 1000) (h3 : 1 ≤ q) (h4 : q ≤ 1000) (h5 : 1 ≤ r) (h6 : r ≤ 300) (h7 : -1 ≤ s) (h8 : s ≤ 99) (h9 : -1 ≤ t) (h10 : t ≤ 99) : term_good.f p q r s t = some true := by
  unfold term_good.f
  rw [if_pos (le_mn (le_mn h1 h3) h5), if_pos (mx_le h2 h4), if_pos h6, if_pos (le_mn h7 h9)]
  rw [decide_eq_true (mx_le h8 h10)]
theorem cell_some {p q r s t x y : Int} (h1 : 1 ≤ p) (h2 : p ≤ 1000) (h3 : 1 ≤ q) (h4 : q ≤ 1000) (h5 : 1 ≤ r) (h6 : r ≤ 300) (h7 : -1 ≤ s) (h8 : s ≤ 99) (h9 : -1 ≤ t) (h10 : t ≤ 99)
    (hx : -100000000 ≤ x) (hx2 : x ≤ 100000000) (hy : -100000000 ≤ y) (hy2 : y ≤ 100000000) :
    ∃ u v, (∀ k, term_Cell.f (k + 1) p q r s t x y = some (u, v, 0)) ∧ term_near.f x p = some u ∧ term_near.f y q = some v ∧ -p ≤ 2 * (u * p - x) ∧ 2 * (u * p - x) ≤ p ∧ -q ≤ 2 * (v * q - y) ∧ 2 * (v * q - y) ≤ q := by
  obtain ⟨u, hu, hu1, hu2⟩ := near_some x p h1 h2 hx hx2
  obtain ⟨v, hv, hv1, hv2⟩ := near_some y q h3 h4 hy hy2
  refine ⟨u, v, fun k => ?_, hu, hv, hu1, hu2, hv1, hv2⟩
  unfold term_Cell.f
  rw [good_true h1 h2 h3 h4 h5 h6 h7 h8 h9 h10]
  simp only [Option.bind_some, if_true]
  have hm : ¬ mx x y > 100000000 := by have := mx_le hx2 hy2; omega
  have hn : ¬ mn x y < -100000000 := by have := le_mn hx hy; omega
  rw [if_neg hm, decide_eq_false hn]
  simp only [term_Cell.j0, Bool.false_eq_true, if_false]
  rw [hu, hv]
  rfl
theorem sane_true (k : Nat) : frisketlaw31_sane.f (k + 1) = some true := by
  obtain ⟨u, v, h, hu, _, _, _, _, _⟩ := cell_some (p := 60) (q := 120) (r := 80) (s := -1) (t := -1) (x := 29) (y := 0) (by omega) (by omega) (by omega) (by omega) (by omega) (by omega) (by omega) (by omega) (by omega) (by omega) (by omega) (by omega) (by omega) (by omega)
  obtain ⟨u2, v2, h2, hu2, _, _, _, _, _⟩ := cell_some (p := 60) (q := 120) (r := 80) (s := -1) (t := -1) (x := 30) (y := 0) (by omega) (by omega) (by omega) (by omega) (by omega) (by omega) (by omega) (by omega) (by omega) (by omega) (by omega) (by omega) (by omega) (by omega)
  unfold frisketlaw31_sane.f
  rw [h k, h2 k]
  have e1 : u = 0 := by
    have : term_near.f 29 60 = some 0 := by unfold term_near.f wrap64; decide
    rw [this] at hu
    exact (Option.some.inj hu).symm
  have e2 : u2 = 1 := by
    have : term_near.f 30 60 = some 1 := by unfold term_near.f wrap64; decide
    rw [this] at hu2
    exact (Option.some.inj hu2).symm
  subst e1 e2
  rfl

theorem TermNear (a b c d : Int) : ∃ k, frisketlaw31_TermNear.f k a b c d = some true := by
  obtain ⟨p, q, r, s, t, hmade, p1, p2, q1, q2, r1, r2, s1, s2, t1, t2⟩ := made_some a b
  obtain ⟨e1, l1, u1⟩ := cut c 200000001 (by omega) (by omega)
  obtain ⟨e2, l2, u2⟩ := cut d 200000001 (by omega) (by omega)
  refine ⟨1, ?_⟩
  unfold frisketlaw31_TermNear.f
  rw [hmade, e1, e2]
  generalize IntKind.u64.wrap c % 200000001 = x at *
  generalize IntKind.u64.wrap d % 200000001 = y at *
  simp only [Option.bind_some]
  rw [w64 (x := x - 100000000) (by omega) (by omega), w64 (x := y - 100000000) (by omega) (by omega)]
  obtain ⟨u, v, h, _, _, h1, h2, h3, h4⟩ := cell_some (p := p) (q := q) (r := r) (s := s) (t := t) (x := x - 100000000) (y := y - 100000000) p1 (by omega) q1 (by omega) r1 (by omega) s1 (by omega) t1 (by omega) (by omega) (by omega) (by omega) (by omega)
  rw [h 0]
  simp only [Option.bind_some, if_true]
  rw [w64 (x := u * p) (by omega) (by omega), w64 (x := v * q) (by omega) (by omega), w64 (x := u * p - (x - 100000000)) (by omega) (by omega), w64 (x := v * q - (y - 100000000)) (by omega) (by omega),
    w64 (x := 2 * (u * p - (x - 100000000))) (by omega) (by omega), w64 (x := 2 * (v * q - (y - 100000000))) (by omega) (by omega), w64 (x := -p) (by omega) (by omega), w64 (x := -q) (by omega) (by omega)]
  rw [if_pos h2, if_pos h1, if_pos h4, if_pos h3, sane_true 0]
  rfl
end Go.Proofs.Ytejocidipgfcjaa.Pure
