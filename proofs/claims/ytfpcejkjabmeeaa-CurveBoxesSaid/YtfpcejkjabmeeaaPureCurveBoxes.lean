/- Of any points and numbers: the box, the root and the nearness are what the document says. No condition. -/
import Derived.Test.YtfpcejkjabmeeaaRdCurveBoxes
import Derived.Test.YtfpcejkjabmeeaaNum
namespace Go.Proofs.Ytfpcejkjabmeeaa.PureCurveBoxes
open Go.RowKit Go.Proofs.YtfpcejkjabmeeaaR Go.Proofs.Ytfpcejkjabmeeaa.QCurveBoxes Go.Proofs.YtfpcejkjabmeeaaW.PrintWords Go.Proofs.YtfpcejkjabmeeaaW.PrintLast Go.Proofs.YtfpcejkjabmeeaaW.PrintMore Go.Proofs.YtfpcejkjabmeeaaN

theorem sane_eq (k : Nat) : frisketlaw19_sane.f (k + 1) = some true := by
  have hv : curve_Valid.f 108 [3, 4] = some true := by decide
  unfold frisketlaw19_sane.f curve_Points.f
  rw [hv]
  simp only [Option.bind_some, if_true]
  rfl
/-! ### the box -/
theorem mn_self (x : Int) : mn x x = x := by rw [mn_eq]; omega
theorem mx_self (x : Int) : mx x x = x := by rw [mx_eq]; omega
theorem box_same (l : List S28) (hl : l.length ≤ 1000) (h0 : 0 < l.length) : ∀ (k : Nat) (i a b c d : Int), 1 ≤ i → curve_Box.l0 k l a b c d l (l.length : Int) i = frisketref19_Box.l0 k l a b c d i
  | 0, i, a, b, c, d, h => by rw [curve_Box.l0, frisketref19_Box.l0]
  | k + 1, i, a, b, c, d, h => by
    rw [curve_Box.l0, frisketref19_Box.l0]
    by_cases c1 : i < (l.length : Int)
    · have p0 : 0 ≤ i := by omega
      have n0 : ¬ i = 0 := by omega
      simp only [c1, p0, n0, if_true, if_false]
      rw [w64 (by omega) (by omega), box_same l hl h0 k (i + 1) _ _ _ _ (by omega)]
    · rw [if_neg c1, if_neg c1, decide_eq_true (by omega)]
theorem ref_some (l : List S28) (hl : l.length ≤ 1000) : ∀ (m k : Nat) (i a b c d : Int), i + m = (l.length : Int) → 0 ≤ i → m < k → ∃ B, frisketref19_Box.l0 k l a b c d i = some B
  | 0, k + 1, i, a, b, c, d, h1, h2, h3 => ⟨_, by rw [frisketref19_Box.l0, if_neg (by omega)]⟩
  | m + 1, k + 1, i, a, b, c, d, h1, h2, h3 => by
    rw [frisketref19_Box.l0, if_pos (by omega), if_pos (by omega), w64 (by omega) (by omega)]
    exact ref_some l hl m k (i + 1) _ _ _ _ (by omega) (by omega) (by omega)
theorem box_eq (l : List S28) (hl : l.length ≤ 1000) (k : Nat) (hk : 1002 ≤ k) : ∃ B, curve_Box.f k l = some B ∧ frisketref19_Box.f k l = some B := by
  obtain ⟨k, rfl⟩ : ∃ k', k = k' + 1 := ⟨k - 1, by omega⟩
  unfold curve_Box.f frisketref19_Box.f
  by_cases h0 : (l.length : Int) = 0
  · refine ⟨(0, 0, 0, 0, false), ?_, by rw [if_pos h0]⟩
    rw [curve_Box.l0, if_neg (by omega), decide_eq_false (by omega)]
  · rw [if_neg h0, if_pos (by omega), curve_Box.l0, if_pos (by omega), if_pos (by omega), if_pos (by omega), if_pos rfl, frisketref19_Box.l0, if_pos (by omega), if_pos (by omega), w64 (x := 0 + 1) (by omega) (by omega), box_same l hl (by omega) k _ _ _ _ _ (by omega)]
    obtain ⟨B, hB⟩ := ref_some l hl (l.length - 1) k (0 + 1) (mn (rd_T28 l 0).f0 (rd_T28 l 0).f0) (mn (rd_T28 l 0).f1 (rd_T28 l 0).f1) (mx (rd_T28 l 0).f0 (rd_T28 l 0).f0) (mx (rd_T28 l 0).f1 (rd_T28 l 0).f1) (by omega) (by omega) (by omega)
    exact ⟨B, hB, hB⟩
/-! ### the root -/
theorem mul_le {a b : Int} (h0 : 0 ≤ a) (h : a ≤ b) : a * a ≤ b * b := Int.mul_le_mul h h h0 (by omega)
structure Root (n r : Int) : Prop where
  r0 : 0 ≤ r
  r1 : r ≤ 3037000499
  lo : r * r ≤ n
  hi : n < (r + 1) * (r + 1)
theorem root_one {n r s : Int} (h : Root n r) (g : Root n s) : r = s := by
  have a1 : ¬ r < s := fun hlt => by
    have := mul_le (a := r + 1) (b := s) (by have := h.r0; omega) (by omega)
    have := h.hi
    have := g.lo
    omega
  have a2 : ¬ s < r := fun hlt => by
    have := mul_le (a := s + 1) (b := r) (by have := g.r0; omega) (by omega)
    have := g.hi
    have := h.lo
    omega
  omega
theorem isq_loop {n : Int} (hn : 0 < n) (hn2 : n ≤ 9223372036854775807) : ∀ (m k : Nat) (lo hi : Int), hi - lo ≤ 2 ^ m → m < k → 0 ≤ lo → lo < hi → hi ≤ 3037000500 → lo * lo ≤ n → n < hi * hi → ∃ r, curve_Isqrt.l0 k n lo hi = some r ∧ Root n r
  | m, 0, lo, hi, _, h, _, _, _, _, _ => by omega
  | m, k + 1, lo, hi, hm, hk, h0, h1, h2, h3, h4 => by
    rw [curve_Isqrt.l0, w64 (x := lo + 1) (by omega) (by omega), w64 (x := lo + hi) (by omega) (by omega), Int.tdiv_eq_ediv_of_nonneg (by omega)]
    by_cases c : lo + 1 < hi
    · have e1 : 1 ≤ (lo + hi) / 2 := by omega
      have e2 : (lo + hi) / 2 ≤ 3037000500 := by omega
      rw [if_pos c, w64 (x := (lo + hi) / 2) (by omega) (by omega), if_neg (by omega), Int.tdiv_eq_ediv_of_nonneg (by omega)]
      obtain ⟨q0, q1⟩ := ediv_in (a := n) (b := (lo + hi) / 2) (M := n) (by omega) (by omega) (by omega)
      rw [w64 (x := n / ((lo + hi) / 2)) (by omega) (by omega)]
      cases m with
      | zero => omega
      | succ m =>
        have hp : (2 : Int) ^ (m + 1) = 2 * 2 ^ m := by rw [Int.pow_succ]; omega
        rw [hp] at hm
        obtain ⟨M, hM⟩ : ∃ M : Int, 2 ^ m = M := ⟨_, rfl⟩
        rw [hM] at hm
        by_cases d : (lo + hi) / 2 ≤ n / ((lo + hi) / 2)
        · rw [if_pos d]
          rw [Int.le_ediv_iff_mul_le (by omega)] at d
          exact isq_loop hn hn2 m k _ hi (by rw [hM]; omega) (by omega) (by omega) (by omega) h2 d h4
        · rw [if_neg d]
          rw [Int.le_ediv_iff_mul_le (by omega)] at d
          exact isq_loop hn hn2 m k lo _ (by rw [hM]; omega) (by omega) h0 (by omega) (by omega) h3 (by omega)
    · rw [if_neg c]
      have : hi = lo + 1 := by omega
      subst this
      exact ⟨lo, rfl, h0, by omega, h3, h4⟩
theorem isq2_loop {n : Int} (hn : 0 < n) (hn2 : n ≤ 9223372036854775807) : ∀ (m k : Nat) (lo hi : Int), hi - lo < 2 ^ m → m < k → 0 ≤ lo → lo ≤ hi → hi ≤ 3037000499 → lo * lo ≤ n → n < (hi + 1) * (hi + 1) → ∃ r, frisketref19_Isqrt.l0 k n lo hi = some r ∧ Root n r
  | m, 0, lo, hi, _, h, _, _, _, _, _ => by omega
  | m, k + 1, lo, hi, hm, hk, h0, h1, h2, h3, h4 => by
    rw [frisketref19_Isqrt.l0, w64 (x := lo + hi) (by omega) (by omega), w64 (x := lo + hi + 1) (by omega) (by omega), Int.tdiv_eq_ediv_of_nonneg (by omega)]
    by_cases c : lo < hi
    · have e1 : 1 ≤ (lo + hi + 1) / 2 := by omega
      have e2 : (lo + hi + 1) / 2 ≤ 3037000499 := by omega
      have sq := mul_le (a := (lo + hi + 1) / 2) (b := 3037000499) (by omega) e2
      have sq0 := mul_le (a := 0) (b := (lo + hi + 1) / 2) (by omega) (by omega)
      rw [if_pos c, w64 (x := (lo + hi + 1) / 2) (by omega) (by omega), w64 (x := (lo + hi + 1) / 2 * ((lo + hi + 1) / 2)) (by omega) (by omega), w64 (x := (lo + hi + 1) / 2 - 1) (by omega) (by omega)]
      cases m with
      | zero => omega
      | succ m =>
        have hp : (2 : Int) ^ (m + 1) = 2 * 2 ^ m := by rw [Int.pow_succ]; omega
        rw [hp] at hm
        obtain ⟨M, hM⟩ : ∃ M : Int, 2 ^ m = M := ⟨_, rfl⟩
        rw [hM] at hm
        by_cases d : (lo + hi + 1) / 2 * ((lo + hi + 1) / 2) ≤ n
        · rw [if_pos d]
          exact isq2_loop hn hn2 m k _ hi (by rw [hM]; omega) (by omega) (by omega) (by omega) h2 d h4
        · rw [if_neg d]
          exact isq2_loop hn hn2 m k lo _ (by rw [hM]; omega) (by omega) h0 (by omega) (by omega) h3 (by rw [show (lo + hi + 1) / 2 - 1 + 1 = (lo + hi + 1) / 2 by omega]; omega)
    · rw [if_neg c]
      have : hi = lo := by omega
      subst this
      exact ⟨hi, rfl, h0, by omega, h3, h4⟩
theorem isq_eq {n : Int} (hn2 : n ≤ 9223372036854775807) (k : Nat) (hk : 40 ≤ k) : ∃ r, curve_Isqrt.f k n = some r ∧ frisketref19_Isqrt.f k n = some r ∧ (0 ≤ n → Root n r) := by
  unfold curve_Isqrt.f frisketref19_Isqrt.f
  by_cases c : n ≤ 0
  · rw [if_pos c, if_pos (by omega)]
    exact ⟨0, rfl, rfl, fun h => ⟨by omega, by omega, by omega, by omega⟩⟩
  · rw [if_neg c, if_neg (by omega)]
    obtain ⟨r, h1, R1⟩ := isq_loop (n := n) (by omega) hn2 32 k 0 3037000500 (by decide) (by omega) (by omega) (by omega) (by omega) (by omega) (by omega)
    obtain ⟨s, h2, R2⟩ := isq2_loop (n := n) (by omega) hn2 32 k 0 3037000499 (by decide) (by omega) (by omega) (by omega) (by omega) (by omega) (by omega)
    obtain rfl := root_one R1 R2
    exact ⟨r, h1, h2, fun _ => R1⟩
/-! ### nearness -/
def dst (a b : Int) : Int := if a > b then IntKind.u64.wrap (IntKind.u64.wrap a - IntKind.u64.wrap b) else IntKind.u64.wrap (IntKind.u64.wrap b - IntKind.u64.wrap a)
theorem dst_comm (a b : Int) : dst a b = dst b a := by
  unfold dst
  by_cases c : a > b
  · rw [if_pos c, if_neg (by omega)]
  · rw [if_neg c]
    by_cases d : b > a
    · rw [if_pos d]
    · obtain rfl : a = b := by omega
      rw [if_neg d]
theorem apart_eq (a b s : Int) : curve_apart.f a b s = some (decide (dst a b > IntKind.u64.wrap s)) := by
  unfold curve_apart.f dst
  split <;> rfl
theorem near_eq (a b s : Int) (hs : 0 ≤ s) : frisketref19_near.f a b s = some (decide (dst a b ≤ IntKind.u64.wrap s)) := by
  unfold frisketref19_near.f dst
  rw [if_neg (by omega)]
  split <;> rfl
def nearS (p0 p1 q0 q1 s : Int) : Bool := decide (0 ≤ s ∧ dst p0 q0 ≤ IntKind.u64.wrap s ∧ dst p1 q1 ≤ IntKind.u64.wrap s)
theorem Near_eq (p0 p1 q0 q1 s : Int) : curve_Near.f p0 p1 q0 q1 s = some (nearS p0 p1 q0 q1 s) := by
  unfold curve_Near.f nearS
  rw [apart_eq, apart_eq]
  simp only [Option.bind_some]
  by_cases h0 : s ≥ 0
  · rw [if_pos h0]
    by_cases h1 : dst p0 q0 > IntKind.u64.wrap s
    · rw [if_pos (by simpa using h1), decide_eq_false (by omega)]
    · rw [if_neg (by simpa using h1)]
      by_cases h2 : dst p1 q1 > IntKind.u64.wrap s
      · rw [decide_eq_true h2, decide_eq_false (by omega)]; rfl
      · rw [decide_eq_false h2, decide_eq_true (by omega)]; rfl
  · rw [if_neg h0, decide_eq_false (by omega)]
theorem Near2_eq (p0 p1 q0 q1 s : Int) : frisketref19_Near.f p0 p1 q0 q1 s = some (nearS p0 p1 q0 q1 s) := by
  unfold frisketref19_Near.f nearS
  by_cases h0 : 0 ≤ s
  · rw [near_eq _ _ _ h0, near_eq _ _ _ h0]
    simp only [Option.bind_some]
    by_cases h1 : dst p0 q0 ≤ IntKind.u64.wrap s
    · rw [if_pos (by simpa using h1)]
      by_cases h2 : dst p1 q1 ≤ IntKind.u64.wrap s
      · rw [decide_eq_true h2, decide_eq_true (by omega)]
      · rw [decide_eq_false h2, decide_eq_false (by omega)]
    · rw [if_neg (by simpa using h1), decide_eq_false (by omega)]
  · unfold frisketref19_near.f
    rw [if_pos (by omega), Option.bind_some, if_neg (by simp)]
    exact congrArg some (decide_eq_false (fun h => h0 h.1)).symm
theorem nearS_comm (p0 p1 q0 q1 s : Int) : nearS p0 p1 q0 q1 s = nearS q0 q1 p0 p1 s := by
  unfold nearS
  rw [dst_comm p0, dst_comm p1]
/-! ### the law -/
theorem end_eq (k : Nat) (hk : 40 ≤ k) (l : List S28) (n s i q0 q1 : Int) : frisketlaw19_CurveBoxes.j2 (k + 1) l n s i false q0 q1 = some true := by
  obtain ⟨e1, e2, e3⟩ := cut n 1000000000000 (by omega) (by omega)
  rw [frisketlaw19_CurveBoxes.j2, if_neg (by simp), e1]
  obtain ⟨m, hm⟩ : ∃ m, IntKind.u64.wrap n % 1000000000000 = m := ⟨_, rfl⟩
  rw [hm] at e2 e3 ⊢
  obtain ⟨r, h1, _, h3⟩ := isq_eq (n := m) (by omega) k hk
  have R := h3 e2
  have r0 := R.r0
  have hr : r ≤ 1000000 := by
    have a1 : ¬ 1000000 < r := fun h => by
      have := mul_le (a := 1000001) (b := r) (by omega) (by omega)
      have := R.lo
      omega
    omega
  have sq := mul_le (a := r + 1) (b := 1000001) (by omega) (by omega)
  have sq0 := mul_le (a := 0) (b := r + 1) (by omega) (by omega)
  have sq1 := mul_le (a := 0) (b := r) (by omega) (by omega)
  have sq2 := mul_le (a := r) (b := r + 1) (by omega) (by omega)
  rw [h1, Option.bind_some, w64 (x := r * r) (by omega) (by omega), w64 (x := r + 1) (by omega) (by omega), w64 (x := (r + 1) * (r + 1)) (by omega) (by omega), if_pos R.lo, if_pos R.hi]
  obtain ⟨k, rfl⟩ : ∃ k', k = k' + 1 := ⟨k - 1, by omega⟩
  rw [sane_eq]
  rfl
theorem loop_eq (l : List S28) (n s q0 q1 : Int) : ∀ (m k : Nat) (i : Int), i + m = 20 → 0 ≤ i → 40 + 2 * m + 2 ≤ k → frisketlaw19_CurveBoxes.l0 k l n s i q0 q1 = some true
  | m, 0, i, h1, h2, h3 => by omega
  | m, 1, i, h1, h2, h3 => by omega
  | m, k + 2, i, h1, h2, h3 => by
    rw [frisketlaw19_CurveBoxes.l0]
    by_cases c : i < (l.length : Int)
    · rw [if_pos c]
      by_cases d : i < 20
      · rw [decide_eq_true d, frisketlaw19_CurveBoxes.j2, if_pos rfl, if_pos h2, if_pos c, Near_eq, Option.bind_some, Near2_eq, Option.bind_some, if_neg (by simp), Near_eq, Option.bind_some, Option.bind_some, nearS_comm, if_neg (by simp), w64 (by omega) (by omega)]
        cases m with
        | zero => omega
        | succ m => exact loop_eq l n s q0 q1 m k (i + 1) (by omega) (by omega) (by omega)
      · rw [decide_eq_false d]
        exact end_eq k (by omega) l n s i q0 q1
    · rw [if_neg c]
      exact end_eq k (by omega) l n s i q0 q1
theorem CurveBoxes (y0_0 : List S28) (y0_1 : S28) (y0_2 : Int) (y0_3 : Int) (g0 : R37.good (y0_0, y0_1, y0_2, y0_3)) : ∃ k, frisketlaw19_CurveBoxes.f k y0_0 y0_1.f0 y0_1.f1 y0_2 y0_3 = some true := by
  have hn : (Lit.int .i64 y0_2).wf = true := g0.2.2.1
  rw [i64_wf] at hn
  refine ⟨2000 + 1, ?_⟩
  unfold frisketlaw19_CurveBoxes.f
  by_cases c : (y0_0.length : Int) > 1000
  · rw [if_pos c, sane_eq]
    rfl
  · rw [if_neg c]
    obtain ⟨⟨b0, b1, b2, b3, b4⟩, h1, h2⟩ := box_eq y0_0 (by omega) (2000 + 1) (by omega)
    obtain ⟨r, h3, h4, _⟩ := isq_eq (n := y0_2) hn.2 (2000 + 1) (by omega)
    rw [h1, h2, h3, h4]
    simp only [Option.bind_some, if_true, bne_self_eq_false, Bool.false_eq_true, if_false]
    rw [frisketlaw19_CurveBoxes.j0, if_neg (by simp)]
    exact loop_eq _ _ _ _ _ 20 2000 0 (by omega) (by omega) (by omega)
end Go.Proofs.Ytfpcejkjabmeeaa.PureCurveBoxes
