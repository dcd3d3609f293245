/- The points of a circle lie at most one unit and a half from their circle. No condition. -/
import Derived.Test.YtfpcejkjabmeeaaQCurveRoundx3
import Derived.Test.YtfpcejkjabmeeaaNum
namespace Go.Proofs.Ytfpcejkjabmeeaa.Pure
open Go.RowKit Go.Proofs.Ytfpcejkjabmeeaa.QCurveRound Go.Proofs.YtfpcejkjabmeeaaW.PrintWords Go.Proofs.YtfpcejkjabmeeaaW.PrintLast Go.Proofs.YtfpcejkjabmeeaaW.PrintMore Go.Proofs.YtfpcejkjabmeeaaN

theorem sane_eq (k : Nat) : frisketlaw19_sane.f (k + 1) = some true := by
  have hv : curve_Valid.f 108 [3, 4] = some true := by decide
  unfold frisketlaw19_sane.f curve_Points.f
  rw [hv]
  simp only [Option.bind_some, if_true]
  rfl
/-! ### the numbers -/
theorem sq_nonneg (x : Int) : 0 ≤ x * x := by
  rcases Int.le_total 0 x with h | h
  · exact Int.mul_nonneg h h
  · have := Int.mul_nonneg (show 0 ≤ -x by omega) (show 0 ≤ -x by omega)
    rw [Int.neg_mul_neg] at this
    exact this
theorem low {r X Y : Int} (hX : 0 ≤ X) (hY : 0 ≤ Y) (h : r * r < (X + 1) * (X + 1) + (Y + 1) * (Y + 1)) (hr : 2 ≤ r) : (2 * r - 3) * (2 * r - 3) ≤ 4 * (X * X + Y * Y) := by
  have e1 : (X + 1) * (X + 1) + (Y + 1) * (Y + 1) = (X * X + Y * Y) + 2 * (X + Y) + 2 := by grind
  have e2 : (2 * r - 3) * (2 * r - 3) = 4 * (r * r) - 12 * r + 9 := by grind
  have e3 := sq_nonneg (X - Y)
  have e4 : (X - Y) * (X - Y) = 2 * (X * X + Y * Y) - (X + Y) * (X + Y) := by grind
  have h1 : r * r < (X * X + Y * Y) + 2 * (X + Y) + 2 := by omega
  have h2 : (X + Y) * (X + Y) ≤ 2 * (X * X + Y * Y) := by omega
  rw [e2]
  by_cases c : 4 * (r * r) - 12 * r + 9 ≤ 4 * (X * X + Y * Y)
  · exact c
  · exfalso
    have a1 : 3 * r - 3 ≤ 2 * (X + Y) := by omega
    have a2 : (3 * r - 3) * (3 * r - 3) ≤ (2 * (X + Y)) * (2 * (X + Y)) := Int.mul_le_mul a1 a1 (by omega) (by omega)
    have a3 : (3 * r - 3) * (3 * r - 3) = 9 * (r * r) - 18 * r + 9 := by grind
    have a4 : (2 * (X + Y)) * (2 * (X + Y)) = 4 * ((X + Y) * (X + Y)) := by grind
    have a5 : 2 * 2 ≤ r * r := Int.mul_le_mul hr hr (by omega) (by omega)
    omega
/-- A place that lies near the circle of radius r around nought. -/
structure Ring (r x y : Int) : Prop where
  x0 : -r ≤ x
  x1 : x ≤ r
  y0 : -r ≤ y
  y1 : y ≤ r
  lo : max (2 * r - 3) 0 * max (2 * r - 3) 0 ≤ 4 * (x * x + y * y)
  hi : 4 * (x * x + y * y) ≤ (2 * r + 3) * (2 * r + 3)
theorem ring_of {r X Y : Int} (hr : 0 ≤ r) (hX : 0 ≤ X) (hY : 0 ≤ Y) (h1 : X * X + Y * Y ≤ r * r) (h2 : r * r < (X + 1) * (X + 1) + (Y + 1) * (Y + 1)) : Ring r X Y := by
  have sx := sq_nonneg X
  have sy := sq_nonneg Y
  have bx : X ≤ r := by
    have a : ¬ r < X := fun h => by
      have : (r + 1) * (r + 1) ≤ X * X := Int.mul_le_mul (by omega) (by omega) (by omega) (by omega)
      have e : (r + 1) * (r + 1) = r * r + 2 * r + 1 := by grind
      omega
    omega
  have byy : Y ≤ r := by
    have a : ¬ r < Y := fun h => by
      have : (r + 1) * (r + 1) ≤ Y * Y := Int.mul_le_mul (by omega) (by omega) (by omega) (by omega)
      have e : (r + 1) * (r + 1) = r * r + 2 * r + 1 := by grind
      omega
    omega
  refine ⟨by omega, bx, by omega, byy, ?_, ?_⟩
  · by_cases c : 2 ≤ r
    · rw [Int.max_eq_left (by omega)]
      exact low hX hY h2 c
    · rw [Int.max_eq_right (by omega)]
      omega
  · have e : (2 * r + 3) * (2 * r + 3) = 4 * (r * r) + 12 * r + 9 := by grind
    omega
theorem Ring.neg1 {r x y : Int} (h : Ring r x y) : Ring r (-x) y := ⟨by have := h.x1; omega, by have := h.x0; omega, h.y0, h.y1, by rw [Int.neg_mul_neg]; exact h.lo, by rw [Int.neg_mul_neg]; exact h.hi⟩
theorem Ring.neg2 {r x y : Int} (h : Ring r x y) : Ring r x (-y) := ⟨h.x0, h.x1, by have := h.y1; omega, by have := h.y0; omega, by rw [Int.neg_mul_neg]; exact h.lo, by rw [Int.neg_mul_neg]; exact h.hi⟩
theorem sq_le {a b : Int} (h0 : 0 ≤ a) (h : a ≤ b) : a * a ≤ b * b := Int.mul_le_mul h h h0 (by omega)
theorem sq_lt {a b : Int} (h0 : 0 ≤ a) (h : a < b) : a * a < b * b := by
  have h1 := sq_le (a := a + 1) (b := b) (by omega) (by omega)
  have e : (a + 1) * (a + 1) = a * a + 2 * a + 1 := by grind
  omega
/-- The quarter's place. -/
theorem quarter_ring {r n i : Int} (hr : 0 ≤ r) (hr2 : r ≤ 500000) (hn : 1 ≤ n) (hn2 : n ≤ 64) (h0 : 0 ≤ i) (h1 : i ≤ n) : den n i ≠ 0 ∧ Ring r (qX r n i) (qY r n i) := by
  have n2 := sq_le (a := n) (b := 64) (by omega) hn2
  have n1 := sq_le (a := 1) (b := n) (by omega) hn
  have i2 := sq_le h0 h1
  have i0 := sq_nonneg i
  obtain ⟨N, hN⟩ : ∃ N, n * n = N := ⟨_, rfl⟩
  obtain ⟨I, hI⟩ : ∃ I, i * i = I := ⟨_, rfl⟩
  obtain ⟨M, hM⟩ : ∃ M, n * i = M := ⟨_, rfl⟩
  have m0 : 0 ≤ M := by rw [← hM]; exact Int.mul_nonneg (by omega) h0
  have m1 : M ≤ N := by rw [← hM, ← hN]; exact Int.mul_le_mul_of_nonneg_left h1 (by omega)
  rw [hN] at n2 n1 i2
  rw [hI] at i2 i0
  have hD : den n i = N + I := by
    unfold den
    rw [hN, hI, w64 (x := N) (by omega) (by omega), w64 (x := I) (by omega) (by omega), w64 (by omega) (by omega)]
  have u0 : 0 ≤ r * (N - I) := Int.mul_nonneg hr (by omega)
  have u1 : r * (N - I) ≤ 500000 * 4096 := Int.mul_le_mul hr2 (by omega) (by omega) (by omega)
  have v0 : 0 ≤ 2 * (r * M) := by have := Int.mul_nonneg hr m0; omega
  have v1 : r * M ≤ 500000 * 4096 := Int.mul_le_mul hr2 (by omega) (by omega) (by omega)
  have w0 := Int.mul_nonneg hr (show 0 ≤ n by omega)
  have w1 : r * n ≤ 500000 * 64 := Int.mul_le_mul hr2 hn2 (by omega) (by omega)
  have eX : qX r n i = r * (N - I) / (N + I) := by
    obtain ⟨b1, b2⟩ := ediv_in (a := r * (N - I)) (b := N + I) (M := r * (N - I)) (by omega) (by omega) (by omega)
    unfold qX
    rw [hD, hN, hI, w64 (x := N) (by omega) (by omega), w64 (x := I) (by omega) (by omega), w64 (x := N - I) (by omega) (by omega), w64 (x := r * (N - I)) (by omega) (by omega), Int.tdiv_eq_ediv_of_nonneg u0, w64 (by omega) (by omega)]
  have eY : qY r n i = 2 * (r * M) / (N + I) := by
    obtain ⟨b1, b2⟩ := ediv_in (a := 2 * (r * M)) (b := N + I) (M := 2 * (r * M)) (by omega) (by omega) (by omega)
    have e1 : 2 * r * n = 2 * (r * n) := Int.mul_assoc _ _ _
    have e2 : 2 * (r * n) * i = 2 * (r * M) := by rw [← hM]; grind
    unfold qY
    rw [hD, w64 (x := 2 * r) (by omega) (by omega), e1, w64 (x := 2 * (r * n)) (by omega) (by omega), e2, w64 (x := 2 * (r * M)) (by omega) (by omega), Int.tdiv_eq_ediv_of_nonneg v0, w64 (by omega) (by omega)]
  refine ⟨by rw [hD]; omega, ?_⟩
  obtain ⟨D, hDD⟩ : ∃ D, N + I = D := ⟨_, rfl⟩
  obtain ⟨u, hu⟩ : ∃ u, r * (N - I) = u := ⟨_, rfl⟩
  obtain ⟨v, hv⟩ : ∃ v, 2 * (r * M) = v := ⟨_, rfl⟩
  have id : u * u + v * v = (r * D) * (r * D) := by rw [← hu, ← hv, ← hDD, ← hN, ← hI, ← hM]; grind
  rw [eX, eY, hDD, hu, hv]
  have dp : 0 < D := by omega
  obtain ⟨X, hX⟩ : ∃ X, u / D = X := ⟨_, rfl⟩
  obtain ⟨Y, hY⟩ : ∃ Y, v / D = Y := ⟨_, rfl⟩
  have X0 : 0 ≤ X := by rw [← hX]; exact Int.ediv_nonneg (by omega) (by omega)
  have Y0 : 0 ≤ Y := by rw [← hY]; exact Int.ediv_nonneg (by omega) (by omega)
  have x1 := Int.ediv_mul_le u (show D ≠ 0 by omega)
  have x2 := Int.lt_ediv_add_one_mul_self u dp
  have y1 := Int.ediv_mul_le v (show D ≠ 0 by omega)
  have y2 := Int.lt_ediv_add_one_mul_self v dp
  rw [hX] at x1 x2
  rw [hY] at y1 y2
  rw [hX, hY]
  have xs1 := sq_le (Int.mul_nonneg X0 (by omega)) x1
  have ys1 := sq_le (Int.mul_nonneg Y0 (by omega)) y1
  have xs2 := sq_lt (by omega) x2
  have ys2 := sq_lt (by omega) y2
  have dd : 0 < D * D := Int.mul_pos dp dp
  refine ring_of hr X0 Y0 ?_ ?_
  · have e : (X * D) * (X * D) + (Y * D) * (Y * D) = (X * X + Y * Y) * (D * D) := by grind
    have e2 : (r * D) * (r * D) = (r * r) * (D * D) := by grind
    exact Int.le_of_mul_le_mul_right (by omega) dd
  · have e : ((X + 1) * D) * ((X + 1) * D) + ((Y + 1) * D) * ((Y + 1) * D) = ((X + 1) * (X + 1) + (Y + 1) * (Y + 1)) * (D * D) := by grind
    have e2 : (r * D) * (r * D) = (r * r) * (D * D) := by grind
    exact Int.lt_of_mul_lt_mul_right (show r * r * (D * D) < ((X + 1) * (X + 1) + (Y + 1) * (Y + 1)) * (D * D) by omega) (show 0 ≤ D * D by omega)
/-! ### the points -/
def Near (r : Int) (p : S28) : Prop := ∃ x y, p = ⟨r + x, r + y⟩ ∧ Ring r x y
theorem wneg {r x : Int} (hr2 : r ≤ 500000) (h0 : -r ≤ x) (h1 : x ≤ r) : wrap64 (-x) = -x := w64 (by omega) (by omega)
theorem turn_near {r n i j : Int} (hr : 0 ≤ r) (hr2 : r ≤ 500000) (hn : 1 ≤ n) (hn2 : n ≤ 64) (h0 : 0 ≤ i) (h1 : i < n) (hj : j = 0 ∨ j = 1 ∨ j = 2 ∨ j = 3) : den n (argJ j n i) ≠ 0 ∧ Near r ⟨wrap64 (r + (turnAt r n r j i).f0), wrap64 (r + (turnAt r n r j i).f1)⟩ := by
  have hw : wrap64 (n - i) = n - i := w64 (by omega) (by omega)
  obtain ⟨d1, R1⟩ := quarter_ring hr hr2 hn hn2 h0 (show i ≤ n by omega)
  obtain ⟨d2, R2⟩ := quarter_ring hr hr2 hn hn2 (show 0 ≤ n - i by omega) (show n - i ≤ n by omega)
  have wr : ∀ {x : Int}, -r ≤ x → x ≤ r → wrap64 (r + x) = r + x := fun a b => w64 (by omega) (by omega)
  rcases hj with rfl | rfl | rfl | rfl
  · rw [argJ_0, turnAt_0]
    dsimp only
    rw [wneg hr2 R1.x0 R1.x1, wneg hr2 R1.y0 R1.y1, wr R1.neg1.x0 R1.neg1.x1, wr R1.neg2.y0 R1.neg2.y1]
    exact ⟨d1, _, _, rfl, R1.neg1.neg2⟩
  · rw [argJ_1, turnAt_1, hw]
    dsimp only
    rw [wneg hr2 R2.y0 R2.y1, wr R2.x0 R2.x1, wr R2.neg2.y0 R2.neg2.y1]
    exact ⟨d2, _, _, rfl, R2.neg2⟩
  · rw [argJ_2, turnAt_2]
    dsimp only
    rw [wr R1.x0 R1.x1, wr R1.y0 R1.y1]
    exact ⟨d1, _, _, rfl, R1⟩
  · rw [argJ_3, turnAt_3, hw]
    dsimp only
    rw [wneg hr2 R2.x0 R2.x1, wr R2.neg1.x0 R2.neg1.x1, wr R2.y0 R2.y1]
    exact ⟨d2, _, _, rfl, R2.neg1⟩
theorem in_near {r n j : Int} (hr : 0 ≤ r) (hr2 : r ≤ 500000) (hn : 1 ≤ n) (hn2 : n ≤ 64) (hj : j = 0 ∨ j = 1 ∨ j = 2 ∨ j = 3) : ∀ (m k : Nat) (i : Int) (xs : List S28), i + m = n → 0 ≤ i → m < k → xs.length + m ≤ 1000 → (∀ p ∈ xs, Near r p) → ∃ ys, inL k r n r j i xs = some ys ∧ ys.length = xs.length + m ∧ ∀ p ∈ ys, Near r p
  | m, 0, i, xs, _, _, h, _, _ => by omega
  | 0, k + 1, i, xs, h1, h2, _, h4, h5 => ⟨xs, by rw [inL, if_neg (by omega)], rfl, h5⟩
  | m + 1, k + 1, i, xs, h1, h2, h3, h4, h5 => by
    obtain ⟨d, N⟩ := turn_near (j := j) hr hr2 hn hn2 h2 (show i < n by omega) hj
    rw [inL, if_pos (by omega), if_pos d, if_pos (by omega), w64 (x := i + 1) (by omega) (by omega)]
    obtain ⟨ys, e, l, g⟩ := in_near hr hr2 hn hn2 hj m k (i + 1) (xs ++ [⟨wrap64 (r + (turnAt r n r j i).f0), wrap64 (r + (turnAt r n r j i).f1)⟩]) (by omega) (by omega) (by omega) (by rw [List.length_append]; simp only [List.length_cons, List.length_nil]; omega) (fun p hp => by
      rcases List.mem_append.1 hp with hp | hp
      · exact h5 p hp
      · obtain rfl := List.mem_singleton.1 hp
        exact N)
    exact ⟨ys, e, by rw [l, List.length_append]; simp only [List.length_cons, List.length_nil]; omega, g⟩
theorem oval_near {d n : Int} (h0 : 0 ≤ d) (h1 : d ≤ 1000000) (hn : 1 ≤ n) (hn2 : n ≤ 64) : ∃ ys, curve_ellipse.f d d n = some ys ∧ ys.length ≤ 1000 ∧ ∀ p ∈ ys, Near (d / 2) p := by
  have e : wrap64 (Int.tdiv d 2) = d / 2 := by rw [Int.tdiv_eq_ediv_of_nonneg h0, w64 (by omega) (by omega)]
  have hr : 0 ≤ d / 2 := by omega
  have hr2 : d / 2 ≤ 500000 := by omega
  unfold curve_ellipse.f
  rw [e]
  have hz : ([] : List S28).length = 0 := rfl
  obtain ⟨x0, e0, l0, g0⟩ := in_near (j := 0) hr hr2 hn hn2 (by omega) n.toNat inK 0 [] (by omega) (by omega) (by unfold inK; omega) (by omega) (by simp)
  obtain ⟨x1, e1, l1, g1⟩ := in_near (j := 1) hr hr2 hn hn2 (by omega) n.toNat inK 0 x0 (by omega) (by omega) (by unfold inK; omega) (by omega) g0
  obtain ⟨x2, e2, l2, g2⟩ := in_near (j := 2) hr hr2 hn hn2 (by omega) n.toNat inK 0 x1 (by omega) (by omega) (by unfold inK; omega) (by omega) g1
  obtain ⟨x3, e3, l3, g3⟩ := in_near (j := 3) hr hr2 hn hn2 (by omega) n.toNat inK 0 x2 (by omega) (by omega) (by unfold inK; omega) (by omega) g2
  have hl : x3.length = 4 * n.toNat := by omega
  have f0 : wrap64 (0 + 1) = 1 := w64 (by omega) (by omega)
  have f1 : wrap64 (1 + 1) = 2 := w64 (by omega) (by omega)
  have f2 : wrap64 (2 + 1) = 3 := w64 (by omega) (by omega)
  have f3 : wrap64 (3 + 1) = 4 := w64 (by omega) (by omega)
  have ho : outL 5 (d / 2) n (d / 2) 0 [] = some x3 := by
    rw [outL, if_pos (by omega), e0, Option.bind_some, f0, outL, if_pos (by omega), e1, Option.bind_some, f1, outL, if_pos (by omega), e2, Option.bind_some, f2, outL, if_pos (by omega), e3, Option.bind_some, f3, outL, if_neg (by omega)]
  rw [ho, Option.bind_some, if_pos (by omega), if_pos (by omega)]
  refine ⟨_, rfl, by rw [List.length_append]; simp only [List.length_cons, List.length_nil]; omega, fun p hp => ?_⟩
  rcases List.mem_append.1 hp with hp | hp
  · exact g3 p hp
  · obtain rfl := List.mem_singleton.1 hp
    refine g3 _ ?_
    unfold rd_T28
    cases x3 with
    | nil => simp at hl; omega
    | cons a t => simp
/-! ### the law -/
theorem near_rd {r : Int} {xs : List S28} (h : ∀ p ∈ xs, Near r p) (i : Int) (h0 : 0 ≤ i) (h1 : i < (xs.length : Int)) : Near r (rd_T28 xs i) := by
  refine h _ ?_
  unfold rd_T28
  rw [List.getD_eq_getElem?_getD, List.getElem?_eq_getElem (by omega)]
  exact List.getElem_mem _
theorem loop_eq {r : Int} (hr : 0 ≤ r) (hr2 : r ≤ 500000) (xs : List S28) (hx : ∀ p ∈ xs, Near r p) (hl : xs.length ≤ 1000) : ∀ (m k : Nat) (i : Int), i + m = xs.length → 0 ≤ i → m + 1 < k → frisketlaw19_CurveRound.l0 k xs r i = some true
  | m, 0, i, _, _, h => by omega
  | 0, k + 1, i, h1, h2, h3 => by
    obtain ⟨k, rfl⟩ : ∃ k', k = k' + 1 := ⟨k - 1, by omega⟩
    rw [frisketlaw19_CurveRound.l0, if_neg (by omega), sane_eq]
    rfl
  | m + 1, k + 1, i, h1, h2, h3 => by
    obtain ⟨x, y, e, R⟩ := near_rd hx i h2 (by omega)
    have a1 := R.x0
    have a2 := R.x1
    have a3 := R.y0
    have a4 := R.y1
    have sx := sq_nonneg x
    have sy := sq_nonneg y
    have bx : x * x ≤ 500000 * 500000 := by
      rcases Int.le_total 0 x with h | h
      · exact sq_le h (by omega)
      · have := sq_le (a := -x) (b := 500000) (by omega) (by omega)
        rw [Int.neg_mul_neg] at this
        exact this
    have byy : y * y ≤ 500000 * 500000 := by
      rcases Int.le_total 0 y with h | h
      · exact sq_le h (by omega)
      · have := sq_le (a := -y) (b := 500000) (by omega) (by omega)
        rw [Int.neg_mul_neg] at this
        exact this
    have c1 := sq_le (a := max (2 * r - 3) 0) (b := 1000003) (by omega) (by omega)
    have c2 := sq_le (a := 2 * r + 3) (b := 1000003) (by omega) (by omega)
    have c3 := sq_nonneg (max (2 * r - 3) 0)
    have c4 := sq_nonneg (2 * r + 3)
    have lo := R.lo
    have hi := R.hi
    rw [frisketlaw19_CurveRound.l0, if_pos (by omega), if_pos h2, e]
    dsimp only
    rw [show r + x - r = x by omega, show r + y - r = y by omega, w64 (x := x) (by omega) (by omega), w64 (x := y) (by omega) (by omega), w64 (x := x * x) (by omega) (by omega), w64 (x := y * y) (by omega) (by omega), w64 (x := x * x + y * y) (by omega) (by omega), w64 (x := 4 * (x * x + y * y)) (by omega) (by omega), w64 (x := 2 * r) (by omega) (by omega), w64 (x := 2 * r - 3) (by omega) (by omega), w64 (x := 2 * r + 3) (by omega) (by omega), mx_eq, w64 (x := max (2 * r - 3) 0 * max (2 * r - 3) 0) (by omega) (by omega), w64 (x := (2 * r + 3) * (2 * r + 3)) (by omega) (by omega), if_neg (by omega), if_neg (by omega), w64 (x := i + 1) (by omega) (by omega)]
    exact loop_eq hr hr2 xs hx hl m k (i + 1) (by omega) (by omega) (by omega)
theorem CurveRound : frisketlaw19_CurveRound.Pure := by
  intro a0 a1 _ _
  refine ⟨2000 + 1, ?_⟩
  obtain ⟨e1, p1, p2⟩ := cut a0 1000001 (by omega) (by omega)
  obtain ⟨e2, p3, p4⟩ := cut a1 64 (by omega) (by omega)
  unfold frisketlaw19_CurveRound.f
  rw [e1, e2]
  obtain ⟨d, hd⟩ : ∃ d, IntKind.u64.wrap a0 % 1000001 = d := ⟨_, rfl⟩
  obtain ⟨f, hf⟩ : ∃ f, IntKind.u64.wrap a1 % 64 = f := ⟨_, rfl⟩
  rw [hd] at p1 p2 ⊢
  rw [hf] at p3 p4 ⊢
  rw [w64 (x := 1 + f) (by omega) (by omega)]
  have hv : curve_Valid.f 99 [d] = some true := by
    unfold curve_Valid.f
    have b1 : [d].any bigP = false := by simp [bigP]; omega
    have b2 : [d].any negP = false := by simp [negP]; omega
    rw [if_pos (by simp), b1, b2]
    rfl
  obtain ⟨ys, he, hl, hx⟩ := oval_near (d := d) (n := 1 + f) p1 (by omega) (by omega) (by omega)
  have hp : curve_Points.f (2000 + 1) 99 [d] (1 + f) = some (ys, 0) := by
    unfold curve_Points.f
    rw [hv, Option.bind_some, if_pos rfl, if_neg (by omega), curve_Points.j0, decide_eq_false (by omega), if_neg (by simp), if_neg (by omega), if_pos rfl, if_pos (by simp)]
    show (curve_ellipse.f d d (1 + f)).bind _ = _
    rw [he]
    rfl
  rw [hp, Option.bind_some, if_pos rfl, Int.tdiv_eq_ediv_of_nonneg p1, w64 (x := d / 2) (by omega) (by omega)]
  exact loop_eq (by omega) (by omega) ys hx hl ys.length 2001 0 (by omega) (by omega) (by omega)
end Go.Proofs.Ytfpcejkjabmeeaa.Pure
