/- All points of a spline lie in the box of its corners, and those of an ellipse in its own: true at every input. No condition. -/
import Derived.Test.YtfpcejkjabmeeaaQCIx6
import Derived.Test.YtfpcejkjabmeeaaNum
import Derived.Test.YtfpcejkjabmeeaaEvl
namespace Go.Proofs.Ytfpcejkjabmeeaa.Pure
open Go.RowKit Go.Proofs.Ytfpcejkjabmeeaa.QCI Go.Proofs.YtfpcejkjabmeeaaW.PrintWords Go.Proofs.YtfpcejkjabmeeaaW.PrintLast Go.Proofs.YtfpcejkjabmeeaaW.PrintMore Go.Proofs.YtfpcejkjabmeeaaN Go.Proofs.Ytfpcejkjabmeeaa.Evl
set_option linter.unusedVariables false
theorem ediv_le' {u a D : Int} (hD : 0 < D) (h : u ≤ a * D) : u / D ≤ a := Int.ediv_le_of_le_mul hD h
theorem sqnn (x : Int) : 0 ≤ x * x := by
  rcases Int.le_total 0 x with h | h
  · exact Int.mul_nonneg h h
  · have := Int.mul_nonneg (a := -x) (b := -x) (by omega) (by omega)
    rwa [Int.neg_mul_neg] at this
theorem sqle {a b : Int} (h0 : 0 ≤ a) (h : a ≤ b) : a * a ≤ b * b := Int.mul_le_mul h h h0 (by omega)
/-- A quarter's place lies in its own box. -/
theorem quarter_in {a b n i : Int} (ha : 0 ≤ a) (ha2 : a ≤ 500000) (hb : 0 ≤ b) (hb2 : b ≤ 500000) (hn : 1 ≤ n) (hn2 : n ≤ 64) (h0 : 0 ≤ i) (h1 : i ≤ n) :
    den n i ≠ 0 ∧ (0 ≤ qX a n i ∧ qX a n i ≤ a) ∧ 0 ≤ qY b n i ∧ qY b n i ≤ b := by
  have n2 := sqle (a := n) (b := 64) (by omega) hn2
  have n1 := sqle (a := 1) (b := n) (by omega) hn
  have i2 := sqle h0 h1
  have i0 := sqnn i
  have d0 := sqnn (n - i)
  have de : (n - i) * (n - i) = n * n - 2 * (n * i) + i * i := by grind
  obtain ⟨N, hN⟩ : ∃ N, n * n = N := ⟨_, rfl⟩
  obtain ⟨I, hI⟩ : ∃ I, i * i = I := ⟨_, rfl⟩
  obtain ⟨M, hM⟩ : ∃ M, n * i = M := ⟨_, rfl⟩
  have m0 : 0 ≤ M := by rw [← hM]; exact Int.mul_nonneg (by omega) h0
  have m1 : M ≤ N := by rw [← hM, ← hN]; exact Int.mul_le_mul_of_nonneg_left h1 (by omega)
  rw [de, hN, hI, hM] at d0
  rw [hN] at n2 n1 i2
  rw [hI] at i2 i0
  have hD : den n i = N + I := by
    unfold den
    rw [hN, hI, w64 (x := N) (by omega) (by omega), w64 (x := I) (by omega) (by omega), w64 (by omega) (by omega)]
  have u0 : 0 ≤ a * (N - I) := Int.mul_nonneg ha (by omega)
  have u1 : a * (N - I) ≤ 500000 * 4096 := Int.mul_le_mul ha2 (by omega) (by omega) (by omega)
  have v0 : 0 ≤ 2 * (b * M) := by have := Int.mul_nonneg hb m0; omega
  have v1 : b * M ≤ 500000 * 4096 := Int.mul_le_mul hb2 (by omega) (by omega) (by omega)
  have w0 := Int.mul_nonneg hb (show 0 ≤ n by omega)
  have w1 : b * n ≤ 500000 * 64 := Int.mul_le_mul hb2 hn2 (by omega) (by omega)
  have x1 : a * (N - I) ≤ a * (N + I) := Int.mul_le_mul_of_nonneg_left (by omega) ha
  have y1 : 2 * (b * M) ≤ b * (N + I) := by
    have := Int.mul_le_mul_of_nonneg_left (show 2 * M ≤ N + I by omega) hb
    rw [show b * (2 * M) = 2 * (b * M) by grind] at this
    exact this
  have X0 := Int.ediv_nonneg u0 (show 0 ≤ N + I by omega)
  have Y0 := Int.ediv_nonneg v0 (show 0 ≤ N + I by omega)
  have X1 := ediv_le' (show 0 < N + I by omega) x1
  have Y1 := ediv_le' (show 0 < N + I by omega) y1
  have eX : qX a n i = a * (N - I) / (N + I) := by
    unfold qX
    rw [hD, hN, hI, w64 (x := N) (by omega) (by omega), w64 (x := I) (by omega) (by omega), w64 (x := N - I) (by omega) (by omega), w64 (x := a * (N - I)) (by omega) (by omega), Int.tdiv_eq_ediv_of_nonneg u0, w64 (by omega) (by omega)]
  have eY : qY b n i = 2 * (b * M) / (N + I) := by
    have e1 : 2 * b * n = 2 * (b * n) := Int.mul_assoc _ _ _
    have e2 : 2 * (b * n) * i = 2 * (b * M) := by rw [← hM]; grind
    unfold qY
    rw [hD, w64 (x := 2 * b) (by omega) (by omega), e1, w64 (x := 2 * (b * n)) (by omega) (by omega), e2, w64 (x := 2 * (b * M)) (by omega) (by omega), Int.tdiv_eq_ediv_of_nonneg v0, w64 (by omega) (by omega)]
  rw [eX, eY]
  exact ⟨by rw [hD]; omega, ⟨X0, X1⟩, Y0, Y1⟩
/-- In a box. -/
structure In (x0 y0 x1 y1 : Int) (p : S28) : Prop where
  a : x0 ≤ p.f0
  b : y0 ≤ p.f1
  c : p.f0 ≤ x1
  d : p.f1 ≤ y1
theorem turn_in {a b n i j : Int} (ha : 0 ≤ a) (ha2 : a ≤ 500000) (hb : 0 ≤ b) (hb2 : b ≤ 500000) (hn : 1 ≤ n) (hn2 : n ≤ 64) (h0 : 0 ≤ i) (h1 : i < n) (hj : j = 0 ∨ j = 1 ∨ j = 2 ∨ j = 3) :
    den n (argJ j n i) ≠ 0 ∧ In 0 0 (2 * a) (2 * b) ⟨wrap64 (a + (turnAt a n b j i).f0), wrap64 (b + (turnAt a n b j i).f1)⟩ := by
  have hw : wrap64 (n - i) = n - i := w64 (by omega) (by omega)
  obtain ⟨d1, X1, Y1⟩ := quarter_in ha ha2 hb hb2 hn hn2 h0 (show i ≤ n by omega)
  obtain ⟨d2, X2, Y2⟩ := quarter_in ha ha2 hb hb2 hn hn2 (show 0 ≤ n - i by omega) (show n - i ≤ n by omega)
  have wn : ∀ {x r : Int}, r ≤ 500000 → 0 ≤ x ∧ x ≤ r → wrap64 (-x) = -x := fun c d => w64 (by omega) (by omega)
  have wa : ∀ {r x : Int}, r ≤ 500000 → 0 ≤ x ∧ x ≤ r → wrap64 (r + x) = r + x := fun c d => w64 (by omega) (by omega)
  have wb : ∀ {r x : Int}, r ≤ 500000 → 0 ≤ x ∧ x ≤ r → wrap64 (r + -x) = r + -x := fun c d => w64 (by omega) (by omega)
  rcases hj with rfl | rfl | rfl | rfl
  · rw [argJ_0, turnAt_0]
    dsimp only
    rw [wn ha2 X1, wn hb2 Y1, wb ha2 X1, wb hb2 Y1]
    exact ⟨d1, by dsimp only; omega, by dsimp only; omega, by dsimp only; omega, by dsimp only; omega⟩
  · rw [argJ_1, turnAt_1, hw]
    dsimp only
    rw [wn hb2 Y2, wa ha2 X2, wb hb2 Y2]
    exact ⟨d2, by dsimp only; omega, by dsimp only; omega, by dsimp only; omega, by dsimp only; omega⟩
  · rw [argJ_2, turnAt_2]
    dsimp only
    rw [wa ha2 X1, wa hb2 Y1]
    exact ⟨d1, by dsimp only; omega, by dsimp only; omega, by dsimp only; omega, by dsimp only; omega⟩
  · rw [argJ_3, turnAt_3, hw]
    dsimp only
    rw [wn ha2 X2, wb ha2 X2, wa hb2 Y2]
    exact ⟨d2, by dsimp only; omega, by dsimp only; omega, by dsimp only; omega, by dsimp only; omega⟩
theorem in_in {a b n j : Int} (ha : 0 ≤ a) (ha2 : a ≤ 500000) (hb : 0 ≤ b) (hb2 : b ≤ 500000) (hn : 1 ≤ n) (hn2 : n ≤ 64) (hj : j = 0 ∨ j = 1 ∨ j = 2 ∨ j = 3) : ∀ (m k : Nat) (i : Int) (xs : List S28), i + m = n → 0 ≤ i → m < k → xs.length + m ≤ 1000 → (∀ p ∈ xs, In 0 0 (2 * a) (2 * b) p) → ∃ ys, inL k a n b j i xs = some ys ∧ ys.length = xs.length + m ∧ ∀ p ∈ ys, In 0 0 (2 * a) (2 * b) p
  | m, 0, i, xs, _, _, h, _, _ => by omega
  | 0, k + 1, i, xs, h1, h2, _, h4, h5 => ⟨xs, by rw [inL, if_neg (by omega)], rfl, h5⟩
  | m + 1, k + 1, i, xs, h1, h2, h3, h4, h5 => by
    obtain ⟨d, N⟩ := turn_in (j := j) ha ha2 hb hb2 hn hn2 h2 (show i < n by omega) hj
    rw [inL, if_pos (by omega), if_pos d, if_pos (by omega), w64 (x := i + 1) (by omega) (by omega)]
    obtain ⟨ys, e, l, g⟩ := in_in ha ha2 hb hb2 hn hn2 hj m k (i + 1) (xs ++ [⟨wrap64 (a + (turnAt a n b j i).f0), wrap64 (b + (turnAt a n b j i).f1)⟩]) (by omega) (by omega) (by omega) (by rw [List.length_append]; simp only [List.length_cons, List.length_nil]; omega) (fun p hp => by
      rcases List.mem_append.1 hp with hp | hp
      · exact h5 p hp
      · obtain rfl := List.mem_singleton.1 hp
        exact N)
    exact ⟨ys, e, by rw [l, List.length_append]; simp only [List.length_cons, List.length_nil]; omega, g⟩
theorem oval_in {d e n : Int} (h0 : 0 ≤ d) (h1 : d ≤ 1000000) (h2 : 0 ≤ e) (h3 : e ≤ 1000000) (hn : 1 ≤ n) (hn2 : n ≤ 64) : ∃ ys, curve_ellipse.f d e n = some ys ∧ ys.length ≤ 1000 ∧ 0 < ys.length ∧ ∀ p ∈ ys, In 0 0 d e p := by
  have ed : wrap64 (Int.tdiv d 2) = d / 2 := by rw [Int.tdiv_eq_ediv_of_nonneg h0, w64 (by omega) (by omega)]
  have ee : wrap64 (Int.tdiv e 2) = e / 2 := by rw [Int.tdiv_eq_ediv_of_nonneg h2, w64 (by omega) (by omega)]
  have ha : 0 ≤ d / 2 := by omega
  have ha2 : d / 2 ≤ 500000 := by omega
  have hb : 0 ≤ e / 2 := by omega
  have hb2 : e / 2 ≤ 500000 := by omega
  unfold curve_ellipse.f
  rw [ed, ee]
  have hz : ([] : List S28).length = 0 := rfl
  obtain ⟨x0, e0, l0, g0⟩ := in_in (j := 0) ha ha2 hb hb2 hn hn2 (by omega) n.toNat inK 0 [] (by omega) (by omega) (by unfold inK; omega) (by omega) (by simp)
  obtain ⟨x1, e1, l1, g1⟩ := in_in (j := 1) ha ha2 hb hb2 hn hn2 (by omega) n.toNat inK 0 x0 (by omega) (by omega) (by unfold inK; omega) (by omega) g0
  obtain ⟨x2, e2, l2, g2⟩ := in_in (j := 2) ha ha2 hb hb2 hn hn2 (by omega) n.toNat inK 0 x1 (by omega) (by omega) (by unfold inK; omega) (by omega) g1
  obtain ⟨x3, e3, l3, g3⟩ := in_in (j := 3) ha ha2 hb hb2 hn hn2 (by omega) n.toNat inK 0 x2 (by omega) (by omega) (by unfold inK; omega) (by omega) g2
  have hl : x3.length = 4 * n.toNat := by omega
  have f0 : wrap64 (0 + 1) = 1 := w64 (by omega) (by omega)
  have f1 : wrap64 (1 + 1) = 2 := w64 (by omega) (by omega)
  have f2 : wrap64 (2 + 1) = 3 := w64 (by omega) (by omega)
  have f3 : wrap64 (3 + 1) = 4 := w64 (by omega) (by omega)
  have ho : outL 5 (d / 2) n (e / 2) 0 [] = some x3 := by
    rw [outL, if_pos (by omega), e0, Option.bind_some, f0, outL, if_pos (by omega), e1, Option.bind_some, f1, outL, if_pos (by omega), e2, Option.bind_some, f2, outL, if_pos (by omega), e3, Option.bind_some, f3, outL, if_neg (by omega)]
  rw [ho, Option.bind_some, if_pos (by omega), if_pos (by omega)]
  have wide : ∀ p, In 0 0 (2 * (d / 2)) (2 * (e / 2)) p → In 0 0 d e p := fun p h => ⟨h.a, h.b, by have := h.c; omega, by have := h.d; omega⟩
  refine ⟨_, rfl, by rw [List.length_append]; simp only [List.length_cons, List.length_nil]; omega, by rw [List.length_append]; simp only [List.length_cons, List.length_nil]; omega, fun p hp => ?_⟩
  rcases List.mem_append.1 hp with hp | hp
  · exact wide p (g3 p hp)
  · obtain rfl := List.mem_singleton.1 hp
    refine wide _ (g3 _ ?_)
    unfold rd_T28
    cases x3 with
    | nil => simp at hl; omega
    | cons a t => simp
/-! ### splines -/
theorem mix_in {f i A B C m M : Int} (hf : 0 < f) (h0 : 0 ≤ i) (h1 : i ≤ f) (a0 : m ≤ A) (a1 : A ≤ M) (b0 : m ≤ B) (b1 : B ≤ M) (c0 : m ≤ C) (c1 : C ≤ M) :
    m * (f * f) ≤ (f - i) * (f - i) * A + 2 * i * (f - i) * B + i * i * C ∧ (f - i) * (f - i) * A + 2 * i * (f - i) * B + i * i * C ≤ M * (f * f) := by
  have p0 := sqnn (f - i)
  have p1 : 0 ≤ 2 * i * (f - i) := Int.mul_nonneg (by omega) (by omega)
  have p2 := sqnn i
  have s : (f - i) * (f - i) + 2 * i * (f - i) + i * i = f * f := by grind
  have q0 := Int.mul_le_mul_of_nonneg_left a0 p0
  have q1 := Int.mul_le_mul_of_nonneg_left a1 p0
  have q2 := Int.mul_le_mul_of_nonneg_left b0 p1
  have q3 := Int.mul_le_mul_of_nonneg_left b1 p1
  have q4 := Int.mul_le_mul_of_nonneg_left c0 p2
  have q5 := Int.mul_le_mul_of_nonneg_left c1 p2
  have e1 : m * (f * f) = (f - i) * (f - i) * m + 2 * i * (f - i) * m + i * i * m := by rw [← s]; grind
  have e2 : M * (f * f) = (f - i) * (f - i) * M + 2 * i * (f - i) * M + i * i * M := by rw [← s]; grind
  rw [e1, e2]
  constructor <;> omega
theorem floor_in {W D m M : Int} (hD : 0 < D) (h0 : m * D ≤ W) (h1 : W ≤ M * D) : m ≤ W / D ∧ W / D ≤ M := ⟨Int.le_ediv_of_mul_le hD h0, Int.ediv_le_of_le_mul hD h1⟩

def big : Int := 21000000
theorem floor_eq {x d : Int} (hd : 0 < d) (h0 : -4000000000000000000 ≤ x) (h1 : x ≤ 4000000000000000000) : QCp.curve_floor.f x d = some (x / d) := by
  obtain ⟨f1, f2⟩ := floor_of (a := x) hd
  obtain ⟨b0, b1⟩ := ediv_in (M := 4000000000000000000) hd (by omega) h1
  unfold QCp.curve_floor.f
  rw [if_neg (by omega)]
  by_cases hm : Int.tmod x d = 0
  · rw [if_pos hm, f2 (by omega), w64 (by omega) (by omega)]
  · rw [if_neg hm]
    by_cases hx : x < 0
    · have hneg : Int.tmod x d < 0 := by
        have := Int.tmod_nonneg d (show 0 ≤ -x by omega)
        rw [Int.neg_tmod] at this
        omega
      rw [if_pos (by rw [decide_eq_true hx, decide_eq_false (by omega)]; rfl), f1 hneg, w64 (x := x / d + 1) (by omega) (by omega), w64 (by omega) (by omega)]
      congr 1
      omega
    · have hpos : ¬ Int.tmod x d < 0 := by
        have := Int.tmod_nonneg d (show 0 ≤ x by omega)
        omega
      rw [if_neg (by rw [decide_eq_false hx, decide_eq_false (by omega)]; simp), f2 hpos, w64 (by omega) (by omega)]
theorem bnd {p a P M : Int} (p0 : 0 ≤ p) (p1 : p ≤ P) (hM : 0 ≤ M) (a0 : -M ≤ a) (a1 : a ≤ M) : -(P * M) ≤ p * a ∧ p * a ≤ P * M := by
  have h1 := Int.mul_le_mul_of_nonneg_left a1 p0
  have h2 := Int.mul_le_mul_of_nonneg_left a0 p0
  have h3 := Int.mul_le_mul_of_nonneg_right p1 hM
  rw [Int.mul_neg] at h2
  omega
/-- What the closure makes lies between its three numbers. -/
theorem mix_ev {f i A B C m M r : Int} (hf : 1 ≤ f) (hf2 : f ≤ 64) (h0 : 0 ≤ i) (h1 : i ≤ f) (hm : -big ≤ m) (hM : M ≤ big) (a0 : m ≤ A) (a1 : A ≤ M) (b0 : m ≤ B) (b1 : B ≤ M) (c0 : m ≤ C) (c1 : C ≤ M) :
    ∃ v, QCp.curve_floor.f (mixW f i A B C) (wrap64 (f * f)) = some v ∧ m ≤ v ∧ v ≤ M := by
  unfold big at hm hM
  have n2 := sqle (a := f) (b := 64) (by omega) hf2
  have n1 := sqle (a := 1) (b := f) (by omega) hf
  have d2 := sqle (a := f - i) (b := f) (by omega) (by omega)
  have d0 := sqnn (f - i)
  have i2 := sqle h0 h1
  have i0 := sqnn i
  obtain ⟨m1, m2⟩ := mix_in (f := f) (i := i) (by omega) h0 h1 a0 a1 b0 b1 c0 c1
  have e0 : 0 ≤ i * (f - i) := Int.mul_nonneg h0 (by omega)
  have e1 : i * (f - i) ≤ f * f := Int.mul_le_mul h1 (by omega) (by omega) (by omega)
  have ea : 2 * i * (f - i) = 2 * (i * (f - i)) := Int.mul_assoc _ _ _
  rw [ea] at m1 m2
  unfold mixW
  rw [w64 (x := f - i) (by omega) (by omega), w64 (x := 2 * i) (by omega) (by omega), ea]
  obtain ⟨D, hD⟩ : ∃ D, (f - i) * (f - i) = D := ⟨_, rfl⟩
  obtain ⟨E, hE⟩ : ∃ E, i * (f - i) = E := ⟨_, rfl⟩
  obtain ⟨I, hI⟩ : ∃ I, i * i = I := ⟨_, rfl⟩
  obtain ⟨F, hF⟩ : ∃ F, f * f = F := ⟨_, rfl⟩
  rw [hD] at d0 d2 m1 m2 ⊢
  rw [hE] at e0 e1 m1 m2 ⊢
  rw [hI] at i0 i2 m1 m2 ⊢
  rw [hF] at d2 i2 e1 n1 n2 m1 m2 ⊢
  obtain ⟨p0, p1⟩ := bnd (p := D) (a := A) (P := 4096) (M := 21000000) (by omega) (by omega) (by omega) (by omega) (by omega)
  obtain ⟨q0, q1⟩ := bnd (p := 2 * E) (a := B) (P := 8192) (M := 21000000) (by omega) (by omega) (by omega) (by omega) (by omega)
  obtain ⟨r0, r1⟩ := bnd (p := I) (a := C) (P := 4096) (M := 21000000) (by omega) (by omega) (by omega) (by omega) (by omega)
  obtain ⟨X, hX⟩ : ∃ X, D * A = X := ⟨_, rfl⟩
  obtain ⟨Y, hY⟩ : ∃ Y, 2 * E * B = Y := ⟨_, rfl⟩
  obtain ⟨Z, hZ⟩ : ∃ Z, I * C = Z := ⟨_, rfl⟩
  rw [hX] at p0 p1 m1 m2
  rw [hY] at q0 q1 m1 m2
  rw [hZ] at r0 r1 m1 m2
  rw [w64 (x := D) (by omega) (by omega), w64 (x := 2 * E) (by omega) (by omega), w64 (x := I) (by omega) (by omega), w64 (x := F) (by omega) (by omega), hX, hY, hZ, w64 (x := X) (by omega) (by omega), w64 (x := Y) (by omega) (by omega), w64 (x := Z) (by omega) (by omega), w64 (x := X + Y) (by omega) (by omega), w64 (x := X + Y + Z) (by omega) (by omega)]
  exact ⟨_, floor_eq (by omega) (by omega) (by omega), floor_in (by omega) m1 m2⟩
/-- A box that is not too large. -/
structure Box4 where
  a : Int
  b : Int
  c : Int
  d : Int
def InB (B : Box4) (p : S28) : Prop := In B.a B.b B.c B.d p
def Fair (B : Box4) : Prop := -big ≤ B.a ∧ -big ≤ B.b ∧ B.c ≤ big ∧ B.d ≤ big
theorem half_in {x y m M : Int} (hm : -big ≤ m) (hM : M ≤ big) (x0 : m ≤ x) (x1 : x ≤ M) (y0 : m ≤ y) (y1 : y ≤ M) : ∃ v, QCp.curve_floor.f (wrap64 (x + y)) 2 = some v ∧ m ≤ v ∧ v ≤ M := by
  unfold big at hm hM
  rw [w64 (by omega) (by omega)]
  exact ⟨_, floor_eq (by omega) (by omega) (by omega), by omega, by omega⟩
theorem middle_in {B : Box4} (F : Fair B) {p q : S28} (hp : InB B p) (hq : InB B q) : ∃ u v, QCp.curve_middle.f p.f0 p.f1 q.f0 q.f1 = some (u, v) ∧ InB B ⟨u, v⟩ := by
  obtain ⟨u, e1, u0, u1⟩ := half_in F.1 F.2.2.1 hp.a hp.c hq.a hq.c
  obtain ⟨v, e2, v0, v1⟩ := half_in F.2.1 F.2.2.2 hp.b hp.d hq.b hq.d
  refine ⟨u, v, ?_, u0, v0, u1, v1⟩
  unfold QCp.curve_middle.f
  rw [e1, Option.bind_some, e2, Option.bind_some]
theorem curve_mix {B : Box4} (F : Fair B) {f i : Int} (hf : 1 ≤ f) (hf2 : f ≤ 64) (h0 : 0 ≤ i) (h1 : i ≤ f) {p q r : S28} (hp : InB B p) (hq : InB B q) (hr : InB B r) :
    ∃ u v, curve_spline_1.f 0 f i p.f0 p.f1 q.f0 q.f1 r.f0 r.f1 = some u ∧ curve_spline_1.f 1 f i p.f0 p.f1 q.f0 q.f1 r.f0 r.f1 = some v ∧ InB B ⟨u, v⟩ := by
  obtain ⟨u, e1, u0, u1⟩ := mix_ev (r := 0) hf hf2 h0 h1 F.1 F.2.2.1 hp.a hp.c hq.a hq.c hr.a hr.c
  obtain ⟨v, e2, v0, v1⟩ := mix_ev (r := 0) hf hf2 h0 h1 F.2.1 F.2.2.2 hp.b hp.d hq.b hq.d hr.b hr.d
  refine ⟨u, v, ?_, ?_, u0, v0, u1, v1⟩
  · unfold curve_spline_1.f
    rw [if_pos rfl, e1]
  · unfold curve_spline_1.f
    rw [if_neg (by omega), if_pos rfl, e2]
theorem rd_in {B : Box4} {xs : List S28} (h : ∀ p ∈ xs, InB B p) (i : Int) (h0 : 0 ≤ i) (h1 : i < (xs.length : Int)) : InB B (rd_T28 xs i) := by
  refine h _ ?_
  unfold rd_T28
  rw [List.getD_eq_getElem?_getD, List.getElem?_eq_getElem (by omega)]
  exact List.getElem_mem _
theorem in_app {B : Box4} {xs : List S28} {p : S28} (h : ∀ p ∈ xs, InB B p) (hp : InB B p) : ∀ q ∈ xs ++ [p], InB B q := fun q hq => by
  rcases List.mem_append.mp hq with hq | hq
  · exact h q hq
  · rw [List.mem_singleton.mp hq]; exact hp
def Good (B : Box4) (xs : List S28) : Prop := (∀ p ∈ xs, InB B p) ∧ 0 < xs.length ∧ xs.length ≤ 100000
section
variable {B : Box4} (F : Fair B) {al : List S28} (ha : ∀ p ∈ al, InB B p) (hl : 3 ≤ al.length) (hl2 : al.length ≤ 100) {f : Int} (hf : 1 ≤ f) (hf2 : f ≤ 64)
include F hf hf2
theorem s2_ev {j : Int} {p q r : S28} (hp : InB B p) (hq : InB B q) (hr : InB B r) {G : List S28 → Prop} (n0 : Nat) (h : ∀ xs : List S28, (∀ p ∈ xs, InB B p) → 0 < xs.length → xs.length ≤ n0 + 64 → EvG (fun k => curve_spline.l1 k al xs (wrap64 (j + 1)) f) G) :
    ∀ (m : Nat) (i : Int) (xs : List S28), i + m = f + 1 → 1 ≤ i → (∀ p ∈ xs, InB B p) → 0 < xs.length → xs.length + 1 ≤ n0 + i → n0 ≤ 100000 → EvG (fun k => curve_spline.l2 k al xs j f p.f0 p.f1 q.f0 q.f1 r.f0 r.f1 i) G
  | 0, i, xs, hi, h1, hx, h2, h3, h4 => by
    refine EvG.succ ?_
    simp only [curve_spline.l2]
    exact EvG.neg (by omega) (h xs hx h2 (by omega))
  | m + 1, i, xs, hi, h1, hx, h2, h3, h4 => by
    obtain ⟨u, v, e1, e2, huv⟩ := curve_mix F hf hf2 (show 0 ≤ i by omega) (show i ≤ f by omega) hp hq hr
    refine EvG.succ ?_
    simp only [curve_spline.l2, e1, e2, Option.bind_some]
    refine EvG.pos (by omega) (EvG.pos (by omega) ?_)
    rw [w64 (x := i + 1) (by omega) (by omega)]
    exact s2_ev hp hq hr n0 h m (i + 1) (xs ++ [⟨u, v⟩]) (by omega) (by omega) (in_app hx huv) (by rw [List.length_append]; omega) (by rw [List.length_append]; simp only [List.length_cons, List.length_nil]; omega) h4
include ha hl hl2
theorem s1_ev : ∀ (m : Nat) (j : Int) (xs : List S28), j + 1 + m = (al.length : Int) → 1 ≤ j → (∀ p ∈ xs, InB B p) → 0 < xs.length → xs.length ≤ 2 + 64 * j.toNat → EvG (fun k => curve_spline.l1 k al xs j f) (Good B)
  | 0, j, xs, hj, h1, hx, h2, h3 => by
    refine EvG.succ ?_
    simp only [curve_spline.l1]
    rw [w64 (x := j + 1) (by omega) (by omega), w64 (x := (al.length : Int) - 1) (by omega) (by omega)]
    refine EvG.neg (by omega) (EvG.pos (by omega) (EvG.pos (by omega) (EvG.pos (by omega) (EvG.mk (Evl.some _) ?_))))
    have hr := rd_in ha ((al.length : Int) - 1) (by omega) (by omega)
    exact ⟨in_app hx hr, by rw [List.length_append]; omega, by rw [List.length_append]; simp only [List.length_cons, List.length_nil]; omega⟩
  | m + 1, j, xs, hj, h1, hx, h2, h3 => by
    refine EvG.succ ?_
    simp only [curve_spline.l1]
    rw [w64 (x := j + 1) (by omega) (by omega), w64 (x := j - 1) (by omega) (by omega)]
    have r0 := rd_in ha (j - 1) (by omega) (by omega)
    have r1 := rd_in ha j (by omega) (by omega)
    have r2 := rd_in ha (j + 1) (by omega) (by omega)
    obtain ⟨u1, v1, e1, i1⟩ := middle_in F r0 r1
    obtain ⟨u2, v2, e2, i2⟩ := middle_in F r1 r2
    simp only [e1, e2, Option.bind_some]
    refine EvG.pos (by omega) (EvG.pos (by omega) (EvG.pos (by omega) (EvG.pos (by omega) (EvG.pos (by omega) (EvG.pos (by omega) ?_)))))
    refine s2_ev F hf hf2 (p := ⟨u1, v1⟩) (q := rd_T28 al j) (r := ⟨u2, v2⟩) i1 r1 i2 xs.length (fun ys hy h4 h5 => ?_) f.toNat 1 xs (by omega) (by omega) hx h2 (by omega) (by omega)
    rw [w64 (x := j + 1) (by omega) (by omega)]
    exact s1_ev m (j + 1) ys (by omega) (by omega) hy h4 (by omega)
end
/-! ### the corners -/
def fair1 (x : Int) : Prop := -1000000 ≤ x ∧ x ≤ 1000000
theorem rd_mem {l : List Int} {i : Int} (h0 : 0 ≤ i) (h1 : i < (l.length : Int)) : rd l i ∈ l := by
  unfold rd
  rw [List.getD_eq_getElem?_getD, List.getElem?_eq_getElem (by omega)]
  exact List.getElem_mem _
/-- The corner that follows. -/
def nextC (n : List Int) (i : Int) (xs : List S28) : S28 := ⟨(rd_T28 xs ((xs.length : Int) - 1)).f0 + rd n i, (rd_T28 xs ((xs.length : Int) - 1)).f1 + rd n (i + 1)⟩
def corners (n : List Int) : Nat → Int → List S28 → List S28
  | 0, _, xs => xs
  | m + 1, i, xs => corners n m (i + 2) (xs ++ [nextC n i xs])
/-- Each lies as far off as its number allows. -/
def Near0 (xs : List S28) : Prop := ∀ p ∈ xs, -(1000000 * (xs.length : Int)) ≤ p.f0 ∧ p.f0 ≤ 1000000 * (xs.length : Int) ∧ -(1000000 * (xs.length : Int)) ≤ p.f1 ∧ p.f1 ≤ 1000000 * (xs.length : Int)
theorem near_rd {xs : List S28} (h : Near0 xs) (i : Int) (h0 : 0 ≤ i) (h1 : i < (xs.length : Int)) : -(1000000 * (xs.length : Int)) ≤ (rd_T28 xs i).f0 ∧ (rd_T28 xs i).f0 ≤ 1000000 * (xs.length : Int) ∧ -(1000000 * (xs.length : Int)) ≤ (rd_T28 xs i).f1 ∧ (rd_T28 xs i).f1 ≤ 1000000 * (xs.length : Int) := by
  refine h _ ?_
  unfold rd_T28
  rw [List.getD_eq_getElem?_getD, List.getElem?_eq_getElem (by omega)]
  exact List.getElem_mem _
theorem near_next {n : List Int} (hn : ∀ x ∈ n, fair1 x) {i : Int} (h0 : 0 ≤ i) (h1 : i + 1 < (n.length : Int)) {xs : List S28} (h : Near0 xs) (hp : 0 < xs.length) : Near0 (xs ++ [nextC n i xs]) := by
  have a := hn _ (rd_mem h0 (show i < (n.length : Int) by omega))
  have b := hn _ (rd_mem (show 0 ≤ i + 1 by omega) h1)
  have c := near_rd h ((xs.length : Int) - 1) (by omega) (by omega)
  unfold fair1 at a b
  intro p hp2
  rw [List.length_append]
  simp only [List.length_cons, List.length_nil]
  rcases List.mem_append.mp hp2 with hq | hq
  · have := h p hq
    omega
  · rw [List.mem_singleton.mp hq]
    simp only [nextC]
    omega
theorem corners_len (n : List Int) : ∀ (m : Nat) (i : Int) (xs : List S28), (corners n m i xs).length = xs.length + m
  | 0, _, _ => rfl
  | m + 1, i, xs => by rw [corners, corners_len n m, List.length_append]; simp only [List.length_cons, List.length_nil]; omega
theorem corners_near {n : List Int} (hn : ∀ x ∈ n, fair1 x) : ∀ (m : Nat) (i : Int) (xs : List S28), i + 2 * m = (n.length : Int) → 0 ≤ i → Near0 xs → 0 < xs.length → Near0 (corners n m i xs)
  | 0, _, _, _, _, h, _ => h
  | m + 1, i, xs, h1, h2, h, hp => by
    rw [corners]
    exact corners_near hn m (i + 2) _ (by omega) (by omega) (near_next hn h2 (by omega) h hp) (by rw [List.length_append]; omega)
def all_ (n : List Int) : List S28 := corners n (n.length / 2) 0 [⟨0, 0⟩]
section
variable {n : List Int} (hn : ∀ x ∈ n, fair1 x) (hlen : n.length ≤ 40) (hev : n.length % 2 = 0) (h2 : 2 ≤ n.length)
include hn hlen
/-- The spline's own corners. -/
theorem s0_ev {f : Int} {G : List S28 → Prop} (h : ∀ al : List S28, al = all_ n → al.length = n.length / 2 + 1 → EvG (fun k => if (al.length : Int) = 2 then some al else (if 0 < (al.length : Int) then (if 1 < (al.length : Int) then ((QCp.curve_middle.f ((rd_T28 al 0).f0) ((rd_T28 al 0).f1) ((rd_T28 al 1).f0) ((rd_T28 al 1).f1)).bind fun bt => (curve_spline.l1 k al (([(⟨(rd_T28 al 0).f0, (rd_T28 al 0).f1⟩ : S28), (⟨bt.1, bt.2⟩ : S28)] : List (S28))) 1 f)) else none) else none)) G) :
    ∀ (m : Nat) (i : Int) (xs : List S28), i + 2 * m = (n.length : Int) → 0 ≤ i → Near0 xs → 0 < xs.length → xs.length + m ≤ 100 → corners n m i xs = all_ n → xs.length + m = n.length / 2 + 1 → EvG (fun k => curve_spline.l0 k n xs i f) G
  | 0, i, xs, e1, h0, hN, hp, hb, hc, hq => by
    refine EvG.succ ?_
    simp only [curve_spline.l0]
    exact EvG.neg (by omega) (h xs hc (by omega))
  | m + 1, i, xs, e1, h0, hN, hp, hb, hc, hq => by
    have a := hn _ (rd_mem h0 (show i < (n.length : Int) by omega))
    have b := hn _ (rd_mem (show 0 ≤ i + 1 by omega) (show i + 1 < (n.length : Int) by omega))
    have c := near_rd hN ((xs.length : Int) - 1) (by omega) (by omega)
    unfold fair1 at a b
    refine EvG.succ ?_
    simp only [curve_spline.l0]
    rw [w64 (x := (xs.length : Int) - 1) (by omega) (by omega), w64 (x := i + 1) (by omega) (by omega), w64 (x := i + 2) (by omega) (by omega)]
    refine EvG.pos (by omega) (EvG.pos (by omega) (EvG.pos (by omega) (EvG.pos (by omega) (EvG.pos (by omega) (EvG.pos (by omega) ?_)))))
    simp only [QCp.curve_plus.f, Option.bind_some]
    rw [w64 (x := (rd_T28 xs ((xs.length : Int) - 1)).f0 + rd n i) (by omega) (by omega), w64 (x := (rd_T28 xs ((xs.length : Int) - 1)).f1 + rd n (i + 1)) (by omega) (by omega)]
    refine EvG.pos (by omega) ?_
    exact s0_ev h m (i + 2) (xs ++ [nextC n i xs]) (by omega) (by omega) (near_next hn h0 (by omega) hN hp) (by rw [List.length_append]; omega) (by rw [List.length_append]; simp only [List.length_cons, List.length_nil]; omega) hc (by rw [List.length_append]; simp only [List.length_cons, List.length_nil]; omega)
include hev
omit hn hlen hev in
theorem start_near : Near0 [(⟨0, 0⟩ : S28)] := by
  intro p hp
  rw [List.mem_singleton.mp hp]
  simp
include h2
theorem spline_ev {B : Box4} (F : Fair B) (hB : ∀ p ∈ all_ n, InB B p) {f : Int} (hf : 1 ≤ f) (hf2 : f ≤ 64) : EvG (fun k => curve_spline.f k n f) (Good B) := by
  simp only [curve_spline.f]
  refine s0_ev hn hlen (fun al ea la => ?_) (n.length / 2) 0 [⟨0, 0⟩] (by omega) (by omega) (start_near) (by simp) (by simp; omega) rfl (by simp; omega)
  have ha : ∀ p ∈ al, InB B p := by rw [ea]; exact hB
  by_cases h : (al.length : Int) = 2
  · exact EvG.pos h (EvG.mk (Evl.some _) ⟨ha, by omega, by omega⟩)
  · refine EvG.neg h (EvG.pos (by omega) (EvG.pos (by omega) ?_))
    have r0 := rd_in ha 0 (by omega) (by omega)
    have r1 := rd_in ha 1 (by omega) (by omega)
    obtain ⟨u, v, e, iv⟩ := middle_in F r0 r1
    simp only [e, Option.bind_some]
    refine s1_ev F ha (by omega) (by omega) hf hf2 (al.length - 2) 1 _ (by omega) (by omega) ?_ (by simp) (by simp)
    intro p hp
    rcases List.mem_cons.mp hp with rfl | hp
    · exact r0
    · rw [List.mem_singleton.mp hp]; exact iv
end
/-! ### boxes -/
theorem rbox_l (L : List S28) (hl : L.length ≤ 100000) {m M : Int} (hm : ∀ p ∈ L, m ≤ p.f0 ∧ p.f0 ≤ M ∧ m ≤ p.f1 ∧ p.f1 ≤ M) : ∀ (q : Nat) (i a b c d : Int), i + q = (L.length : Int) → 0 ≤ i → (m ≤ a ∧ m ≤ b ∧ c ≤ M ∧ d ≤ M) →
    EvG (fun k => frisketref19_Box.l0 k L a b c d i) (fun R => (∀ p ∈ L.drop i.toNat, InB ⟨R.1, R.2.1, R.2.2.1, R.2.2.2.1⟩ p) ∧ (R.1 ≤ a ∧ R.2.1 ≤ b ∧ c ≤ R.2.2.1 ∧ d ≤ R.2.2.2.1) ∧ (m ≤ R.1 ∧ m ≤ R.2.1 ∧ R.2.2.1 ≤ M ∧ R.2.2.2.1 ≤ M))
  | 0, i, a, b, c, d, hi, h0, hh => by
    refine EvG.succ ?_
    simp only [frisketref19_Box.l0]
    refine EvG.neg (by omega) (EvG.mk (Evl.some _) ⟨?_, ⟨by simp, by simp, by simp, by simp⟩, hh⟩)
    rw [List.drop_eq_nil_of_le (by omega)]
    simp
  | q + 1, i, a, b, c, d, hi, h0, hh => by
    refine EvG.succ ?_
    simp only [frisketref19_Box.l0, mn_eq, mx_eq]
    refine EvG.pos (by omega) (EvG.pos (by omega) ?_)
    rw [w64 (x := i + 1) (by omega) (by omega)]
    have hd : L.drop i.toNat = rd_T28 L i :: L.drop (i + 1).toNat := by
      have := drop_getD L i.toNat z28 (by omega)
      rw [show (i + 1).toNat = i.toNat + 1 by omega]
      rw [this]
      unfold rd_T28
      rw [show ((i.toNat : Int)).toNat = i.toNat by omega]
    have hmem := hm (rd_T28 L i) (by
      have : rd_T28 L i ∈ L.drop i.toNat := by rw [hd]; exact List.mem_cons_self
      exact List.mem_of_mem_drop this)
    obtain ⟨R, hR, g1, g2, g3⟩ := rbox_l L hl hm q (i + 1) (min a (rd_T28 L i).f0) (min b (rd_T28 L i).f1) (max c (rd_T28 L i).f0) (max d (rd_T28 L i).f1) (by omega) (by omega) (by omega)
    refine ⟨R, hR, ?_, by omega, g3⟩
    rw [hd]
    intro p hp
    rcases List.mem_cons.mp hp with rfl | hp
    · exact ⟨by show R.1 ≤ _; omega, by show R.2.1 ≤ _; omega, by show _ ≤ R.2.2.1; omega, by show _ ≤ R.2.2.2.1; omega⟩
    · exact g1 p hp
theorem rbox_ev (L : List S28) (hl : L.length ≤ 100000) (hp : 0 < L.length) {m M : Int} (hm : ∀ p ∈ L, m ≤ p.f0 ∧ p.f0 ≤ M ∧ m ≤ p.f1 ∧ p.f1 ≤ M) :
    EvG (fun k => frisketref19_Box.f k L) (fun R => (∀ p ∈ L, InB ⟨R.1, R.2.1, R.2.2.1, R.2.2.2.1⟩ p) ∧ (m ≤ R.1 ∧ m ≤ R.2.1 ∧ R.2.2.1 ≤ M ∧ R.2.2.2.1 ≤ M)) := by
  simp only [frisketref19_Box.f]
  refine EvG.neg (by omega) (EvG.pos (by omega) ?_)
  have h0 := hm (rd_T28 L 0) (by
    unfold rd_T28
    rw [List.getD_eq_getElem?_getD, List.getElem?_eq_getElem (by simpa using hp)]
    exact List.getElem_mem _)
  obtain ⟨R, hR, g1, g2, g3⟩ := rbox_l L hl hm L.length 0 (rd_T28 L 0).f0 (rd_T28 L 0).f1 (rd_T28 L 0).f0 (rd_T28 L 0).f1 (by omega) (by omega) (by omega)
  exact ⟨R, hR, g1, g3⟩
theorem box_l (B : Box4) (L : List S28) (hl : L.length ≤ 100000) (hp : 0 < L.length) (hin : ∀ p ∈ L, InB B p) : ∀ (q : Nat) (i a b c d : Int), i + q = (L.length : Int) → 0 ≤ i → (i = 0 ∨ B.a ≤ a ∧ B.b ≤ b ∧ c ≤ B.c ∧ d ≤ B.d) →
    EvG (fun k => curve_Box.l0 k L a b c d L (L.length : Int) i) (fun R => R.2.2.2.2 = true ∧ B.a ≤ R.1 ∧ B.b ≤ R.2.1 ∧ R.2.2.1 ≤ B.c ∧ R.2.2.2.1 ≤ B.d)
  | 0, i, a, b, c, d, hi, h0, hh => by
    refine EvG.succ ?_
    simp only [curve_Box.l0]
    refine EvG.neg (by omega) (EvG.mk (Evl.some _) ⟨decide_eq_true (by omega), ?_⟩)
    rcases hh with hh | hh
    · omega
    · exact hh
  | q + 1, i, a, b, c, d, hi, h0, hh => by
    refine EvG.succ ?_
    simp only [curve_Box.l0, mn_eq, mx_eq]
    refine EvG.pos (by omega) (EvG.pos (by omega) (EvG.pos (by omega) ?_))
    rw [w64 (x := i + 1) (by omega) (by omega)]
    have hr := rd_in hin i h0 (by omega)
    have := hr.a
    have := hr.b
    have := hr.c
    have := hr.d
    by_cases hz : i = 0
    · exact EvG.pos hz (box_l B L hl hp hin q (i + 1) _ _ _ _ (by omega) (by omega) (Or.inr (by omega)))
    · exact EvG.neg hz (box_l B L hl hp hin q (i + 1) _ _ _ _ (by omega) (by omega) (Or.inr (by omega)))
/-! ### the strokes -/
theorem nth_ev (l : List Int) (i n : Int) (h0 : 0 ≤ i) (h1 : 1 ≤ n) (h2 : n ≤ 1000000) : ∃ v, frisketlaw19_nth.f l i n = some v ∧ -n ≤ v ∧ v ≤ n := by
  unfold frisketlaw19_nth.f
  by_cases c : i < (l.length : Int)
  · rw [if_pos c, if_pos h0]
    have e : IntKind.u64.wrap (wrap64 (wrap64 (2 * n) + 1)) = 2 * n + 1 := by
      rw [w64 (x := 2 * n) (by omega) (by omega), w64 (by omega) (by omega), u64_eq]; omega
    rw [e, if_neg (by omega)]
    obtain ⟨e2, p1, p2⟩ := cut (rd l i) (2 * n + 1) (by omega) (by omega)
    rw [e2, w64 (by omega) (by omega)]
    exact ⟨_, rfl, by omega, by omega⟩
  · rw [if_neg c]
    exact ⟨0, rfl, by omega, by omega⟩
def GoodS (R : Int × List Int) : Prop := (R.1 = 126 ∧ (∀ x ∈ R.2, fair1 x) ∧ R.2.length ≤ 40 ∧ R.2.length % 2 = 0 ∧ 2 ≤ R.2.length) ∨ (∃ a b, R = (101, [a, b]) ∧ 0 ≤ a ∧ a ≤ 1000000 ∧ 0 ≤ b ∧ b ≤ 1000000) ∨ (R.1 ≠ 126 ∧ R.1 ≠ 101)
theorem stroke_l (l : List Int) (hl : l.length ≤ 4611686018427387904) {n : Int} (h1 : 1 ≤ n) (h2 : n ≤ 1000000) : ∀ (m : Nat) (i : Int) (xs : List Int), i + 2 * m = 41 → 3 ≤ i → (∀ x ∈ xs, fair1 x) → (xs.length : Int) = i - 1 →
    EvG (fun k => frisketlaw19_Stroke.l0 k l n xs i) GoodS
  | m, i, xs, hi, h3, hx, hlen => by
    have stop : EvG (fun k => frisketlaw19_Stroke.j2 k l n xs i false) GoodS := by
      refine EvG.succ ?_
      simp only [frisketlaw19_Stroke.j2]
      exact EvG.neg (by simp) (EvG.mk (Evl.some _) (Or.inl ⟨rfl, hx, by show xs.length ≤ 40; omega, by show xs.length % 2 = 0; omega, by show 2 ≤ xs.length; omega⟩))
    refine EvG.succ ?_
    simp only [frisketlaw19_Stroke.l0]
    rw [w64 (x := i + 1) (by omega) (by omega)]
    by_cases c : i + 1 < (l.length : Int)
    · refine EvG.pos c ?_
      match m with
      | 0 => rw [decide_eq_false (by omega)]; exact stop
      | m + 1 =>
        rw [decide_eq_true (show i < 40 by omega)]
        refine EvG.succ ?_
        obtain ⟨u, e1, u0, u1⟩ := nth_ev l i n (by omega) h1 h2
        obtain ⟨v, e2, v0, v1⟩ := nth_ev l (i + 1) n (by omega) h1 h2
        simp only [frisketlaw19_Stroke.j2]
        rw [w64 (x := i + 1) (by omega) (by omega), w64 (x := i + 2) (by omega) (by omega)]
        simp only [e1, e2, Option.bind_some]
        refine EvG.pos trivial (EvG.pos (by simp; omega) ?_)
        refine stroke_l l hl h1 h2 m (i + 2) (xs ++ [u, v]) (by omega) (by omega) ?_ (by rw [List.length_append]; simp only [List.length_cons, List.length_nil]; omega)
        intro x hx2
        rcases List.mem_append.mp hx2 with h | h
        · exact hx x h
        · rcases List.mem_cons.mp h with rfl | h
          · unfold fair1; omega
          · rw [List.mem_singleton.mp h]; unfold fair1; omega
    · exact EvG.neg c stop
theorem stroke_j (l : List Int) (hl : l.length ≤ 4611686018427387904) {n : Int} (h1 : 1 ≤ n) (h2 : n ≤ 1000000) : EvG (fun k => frisketlaw19_Stroke.j0 k l n) GoodS := by
  obtain ⟨t, e0, _, _⟩ := nth_ev l 0 10 (by omega) (by omega) (by omega)
  obtain ⟨a, e1, a0, a1⟩ := nth_ev l 1 n (by omega) h1 h2
  obtain ⟨b, e2, b0, b1⟩ := nth_ev l 2 n (by omega) h1 h2
  obtain ⟨c, e3, c0, c1⟩ := nth_ev l 3 n (by omega) h1 h2
  obtain ⟨d, e4, d0, d1⟩ := nth_ev l 4 n (by omega) h1 h2
  refine EvG.succ ?_
  simp only [frisketlaw19_Stroke.j0, e0, e1, e2, e3, e4, Option.bind_some]
  have no : ∀ R : Int × List Int, R.1 ≠ 126 → R.1 ≠ 101 → GoodS R := fun R h1 h2 => Or.inr (Or.inr ⟨h1, h2⟩)
  refine EvG.ite (fun _ => EvG.mk (Evl.some _) (no _ (by simp) (by simp))) (fun _ => EvG.ite (fun _ => EvG.mk (Evl.some _) (no _ (by simp) (by simp))) (fun _ => EvG.ite (fun _ => EvG.mk (Evl.some _) ?_) (fun _ => EvG.ite (fun _ => EvG.mk (Evl.some _) (no _ (by simp) (by simp))) (fun _ => ?_))))
  · rw [w64 (x := -a) (by omega) (by omega), w64 (x := -b) (by omega) (by omega), mx_eq, mx_eq]
    exact Or.inr (Or.inl ⟨_, _, rfl, by omega, by omega, by omega, by omega⟩)
  · refine stroke_l l hl h1 h2 19 3 [a, b] (by omega) (by omega) ?_ (by simp)
    intro x hx
    rcases List.mem_cons.mp hx with rfl | hx
    · unfold fair1; omega
    · rw [List.mem_singleton.mp hx]; unfold fair1; omega
theorem stroke_ev (l : List Int) (hl : l.length ≤ 4611686018427387904) : EvG (fun k => frisketlaw19_Stroke.f k l) GoodS := by
  obtain ⟨t, e0, _, _⟩ := nth_ev l 0 10 (by omega) (by omega) (by omega)
  simp only [frisketlaw19_Stroke.f, e0, Option.bind_some]
  exact EvG.ite (fun _ => stroke_j l hl (by omega) (by omega)) (fun _ => stroke_j l hl (by omega) (by omega))
/-! ### the law -/
theorem sane_ev : Evl (fun k => frisketlaw19_sane.f k) true := by
  refine Evl.succ (Evl.of_eq (Evl.some true) (fun k => ?_))
  have hv : curve_Valid.f 108 [3, 4] = some true := by decide
  unfold frisketlaw19_sane.f curve_Points.f
  rw [hv]
  simp only [Option.bind_some, if_true]
  rfl
/-- Behind the points and the corners. -/
def tail_ (k : Nat) (x7 x9 : List S28) : Option Bool := (frisketref19_Box.f k x9).bind fun bt258 => ((curve_Box.f k x7).bind fun bt263 => (if bt263.2.2.2.2 = true then (if bt263.1 ≥ (wrap64 (bt258.1 - 1)) then (if bt263.2.1 ≥ (wrap64 (bt258.2.1 - 1)) then (if bt263.2.2.1 ≤ bt258.2.2.1 then (if bt263.2.2.2.1 ≤ bt258.2.2.2.1 then ((frisketlaw19_sane.f k).bind fun t268 => (some t268)) else (none)) else (none)) else (none)) else (none)) else (none)))
theorem tail_ev {xs L : List S28} {R : Int × Int × Int × Int × Bool} (hR : Evl (fun k => frisketref19_Box.f k L) R) (hr : -big ≤ R.1 ∧ -big ≤ R.2.1 ∧ R.2.2.1 ≤ big ∧ R.2.2.2.1 ≤ big) (hr2 : R.1 ≤ big ∧ R.2.1 ≤ big) (g : Good ⟨R.1, R.2.1, R.2.2.1, R.2.2.2.1⟩ xs) : Evl (fun k => tail_ k xs L) true := by
  unfold big at hr hr2
  unfold tail_
  refine Evl.bind hR ?_
  obtain ⟨Q, hQ, q1, q2, q3, q4, q5⟩ := box_l _ xs g.2.2 g.2.1 g.1 xs.length 0 0 0 0 0 (by omega) (by omega) (Or.inl rfl)
  have hQ2 : Evl (fun k => curve_Box.f k xs) Q := by
    simp only [curve_Box.f]
    exact hQ
  rw [w64 (x := R.1 - 1) (by omega) (by omega), w64 (x := R.2.1 - 1) (by omega) (by omega)]
  dsimp only at q2 q3 q4 q5
  exact Evl.bind hQ2 (Evl.pos q1 (Evl.pos (by omega) (Evl.pos (by omega) (Evl.pos q4 (Evl.pos q5 (Evl.bind sane_ev (Evl.some _)))))))
theorem law_l {n : List Int} (hn : ∀ x ∈ n, fair1 x) (hlen : n.length ≤ 40) {xs : List S28} (h : Evl (fun k => tail_ k xs (all_ n)) true) :
    ∀ (m : Nat) (i : Int) (ys : List S28), i + 2 * m = (n.length : Int) → 0 ≤ i → Near0 ys → 0 < ys.length → ys.length + m ≤ 100 → corners n m i ys = all_ n → Evl (fun k => frisketlaw19_CurveInside.l0 k 126 n xs ys i) true
  | 0, i, ys, e1, h0, hN, hp, hb, hc => by
    rw [← hc] at h
    refine Evl.succ ?_
    simp only [frisketlaw19_CurveInside.l0]
    rw [w64 (x := i + 1) (by omega) (by omega)]
    exact Evl.neg (by omega) h
  | m + 1, i, ys, e1, h0, hN, hp, hb, hc => by
    have a := hn _ (rd_mem h0 (show i < (n.length : Int) by omega))
    have b := hn _ (rd_mem (show 0 ≤ i + 1 by omega) (show i + 1 < (n.length : Int) by omega))
    have c := near_rd hN ((ys.length : Int) - 1) (by omega) (by omega)
    unfold fair1 at a b
    refine Evl.succ ?_
    simp only [frisketlaw19_CurveInside.l0]
    rw [w64 (x := (ys.length : Int) - 1) (by omega) (by omega), w64 (x := i + 1) (by omega) (by omega), w64 (x := i + 2) (by omega) (by omega), w64 (x := (rd_T28 ys ((ys.length : Int) - 1)).f0 + rd n i) (by omega) (by omega), w64 (x := (rd_T28 ys ((ys.length : Int) - 1)).f1 + rd n (i + 1)) (by omega) (by omega)]
    refine Evl.pos (by omega) (Evl.pos trivial (Evl.pos (by omega) (Evl.pos (by omega) (Evl.pos (by omega) (Evl.pos (by omega) (Evl.pos (by omega) (Evl.pos (by omega) ?_)))))))
    exact law_l hn hlen h m (i + 2) (ys ++ [nextC n i ys]) (by omega) (by omega) (near_next hn h0 (by omega) hN hp) (by rw [List.length_append]; omega) (by rw [List.length_append]; simp only [List.length_cons, List.length_nil]; omega) hc
theorem law_e {n : List Int} {xs L : List S28} (h : Evl (fun k => tail_ k xs L) true) (hlen : n.length ≤ 40) : Evl (fun k => frisketlaw19_CurveInside.l0 k 101 n xs L 0) true := by
  refine Evl.succ ?_
  simp only [frisketlaw19_CurveInside.l0]
  rw [w64 (x := 0 + 1) (by omega) (by omega)]
  refine Evl.ite (fun _ => Evl.neg (by omega) h) (fun _ => h)
theorem law_ev (l0 : List Int) (a1 : Int) (hl : l0.length ≤ 4611686018427387904) : Evl (fun k => frisketlaw19_CurveInside.f k l0 a1) true := by
  obtain ⟨R, hR, g⟩ := stroke_ev l0 hl
  simp only [frisketlaw19_CurveInside.f]
  refine Evl.bind hR ?_
  obtain ⟨e2, p3, p4⟩ := cut a1 64 (by omega) (by omega)
  obtain ⟨f, hf⟩ : ∃ f, 1 + IntKind.u64.wrap a1 % 64 = f := ⟨_, rfl⟩
  have ef : wrap64 (1 + wrap64 (Int.tmod (IntKind.u64.wrap a1) 64)) = f := by rw [e2, w64 (by omega) (by omega), hf]
  have f1 : 1 ≤ f := by omega
  have f2 : f ≤ 64 := by omega
  rcases g with ⟨c, hn, h40, hev, h2⟩ | ⟨a, b, rfl, a0, a1_, b0, b1⟩ | ⟨c1, c2⟩
  · obtain ⟨x, n⟩ := R
    dsimp only at c hn h40 hev h2 ⊢
    subst c
    refine Evl.pos rfl (Evl.succ ?_)
    simp only [frisketlaw19_CurveInside.j0]
    rw [ef]
    refine Evl.neg (by simp) ?_
    have hN := corners_near hn (n.length / 2) 0 [⟨0, 0⟩] (by omega) (by omega) (start_near) (by simp)
    have hL := corners_len n (n.length / 2) 0 [⟨0, 0⟩]
    have hall : corners n (n.length / 2) 0 [⟨0, 0⟩] = all_ n := rfl
    rw [hall] at hN hL
    simp only [List.length_cons, List.length_nil] at hL
    obtain ⟨B, hB, b1, b2⟩ := rbox_ev (all_ n) (by omega) (by omega) (m := -big) (M := big) (fun p hp => by
      have := hN p hp
      unfold big
      omega)
    have first_in := b1 (rd_T28 (all_ n) 0) (by
      unfold rd_T28
      rw [List.getD_eq_getElem?_getD, List.getElem?_eq_getElem (show (0 : Int).toNat < (all_ n).length by simp; omega)]
      exact List.getElem_mem _)
    have i1 := first_in.a
    have i2 := first_in.b
    have i3 := first_in.c
    have i4 := first_in.d
    dsimp only at i1 i2 i3 i4
    obtain ⟨xs, hxs, gx⟩ := spline_ev hn h40 hev h2 (B := ⟨B.1, B.2.1, B.2.2.1, B.2.2.2.1⟩) b2 b1 f1 f2
    have hv : curve_Valid.f 126 n = some true := by
      unfold curve_Valid.f
      have hb : n.any bigP = false := by
        rw [List.any_eq_false]
        intro x hx
        have := hn x hx
        unfold fair1 at this
        simp [bigP]
        omega
      rw [if_pos (by omega), hb]
      simp only [Bool.false_eq_true, if_false]
      rw [if_neg (by omega), if_neg (by omega), if_neg (by omega), if_neg (by omega)]
      simp
      omega
    have hp : Evl (fun k => curve_Points.f k 126 n f) (xs, 0) := by
      simp only [curve_Points.f, hv, Option.bind_some]
      refine Evl.pos trivial (Evl.neg (by omega) ?_)
      rw [decide_eq_false (by omega)]
      refine Evl.succ ?_
      simp only [curve_Points.j0]
      refine Evl.neg (by simp) (Evl.neg (by omega) (Evl.neg (by omega) (Evl.neg (by omega) (Evl.neg (by omega) ?_))))
      exact Evl.bind hxs (Evl.some _)
    refine Evl.bind hp (Evl.pos rfl (Evl.neg (by omega) (Evl.succ ?_)))
    simp only [frisketlaw19_CurveInside.j1]
    exact law_l hn h40 (tail_ev hB b2 ⟨by omega, by omega⟩ gx) (n.length / 2) 0 [⟨0, 0⟩] (by omega) (by omega) (start_near) (by simp) (by simp; omega) rfl
  · refine Evl.neg (by simp) ?_
    rw [show (((101 : Int), [a, b]).1 != 101) = false from rfl]
    refine Evl.succ ?_
    simp only [frisketlaw19_CurveInside.j0]
    rw [ef]
    refine Evl.neg (by simp) ?_
    obtain ⟨xs, ex, l1, l2, gx⟩ := oval_in a0 a1_ b0 b1 f1 f2
    have hv : curve_Valid.f 101 [a, b] = some true := by
      unfold curve_Valid.f
      have hb : [a, b].any bigP = false := by simp [bigP]; omega
      have hb2 : [a, b].any negP = false := by simp [negP]; omega
      rw [if_pos (by simp), hb, hb2]
      rfl
    have hp : Evl (fun k => curve_Points.f k 101 [a, b] f) (xs, 0) := by
      simp only [curve_Points.f, hv, Option.bind_some]
      refine Evl.pos trivial (Evl.neg (by omega) ?_)
      rw [decide_eq_false (by omega)]
      refine Evl.succ ?_
      simp only [curve_Points.j0]
      refine Evl.neg (by simp) (Evl.neg (by omega) (Evl.neg (by omega) (Evl.pos trivial (Evl.pos (by simp) (Evl.pos (by simp) ?_)))))
      have e3 : curve_ellipse.f (rd [a, b] 0) (rd [a, b] 1) f = some xs := ex
      simp only [e3, Option.bind_some]
      exact Evl.some _
    obtain ⟨B, hB, q1, q2⟩ := rbox_ev [(⟨0, 0⟩ : S28), ⟨rd [a, b] 0, rd [a, b] 1⟩] (by simp) (by simp) (m := -big) (M := big) (fun p hp => by
      have ra : rd [a, b] 0 = a := rfl
      have rb : rd [a, b] 1 = b := rfl
      unfold big
      rcases List.mem_cons.mp hp with rfl | hp
      · simp
      · rw [List.mem_singleton.mp hp]
        simp only [ra, rb]
        omega)
    have c0 := q1 ⟨0, 0⟩ (by simp)
    have c1 := q1 ⟨rd [a, b] 0, rd [a, b] 1⟩ (by simp)
    have ra : rd [a, b] 0 = a := rfl
    have rb : rd [a, b] 1 = b := rfl
    rw [ra, rb] at c1
    have u1 := c0.a
    have u2 := c0.b
    have u3 := c1.c
    have u4 := c1.d
    dsimp only at u1 u2 u3 u4
    refine Evl.bind hp (Evl.pos rfl (Evl.pos trivial (Evl.pos (by simp) (Evl.pos (by simp) (Evl.succ ?_)))))
    simp only [frisketlaw19_CurveInside.j1]
    refine law_e (tail_ev hB q2 ⟨by unfold big; omega, by unfold big; omega⟩ ⟨fun p hp2 => ?_, l2, by omega⟩) (by simp)
    have := gx p hp2
    exact ⟨by have := this.a; show B.1 ≤ _; omega, by have := this.b; show B.2.1 ≤ _; omega, by have := this.c; show _ ≤ B.2.2.1; omega, by have := this.d; show _ ≤ B.2.2.2.1; omega⟩
  · refine Evl.neg c1 ?_
    rw [bne_iff_ne.mpr c2]
    refine Evl.succ ?_
    simp only [frisketlaw19_CurveInside.j0, if_true]
    exact Evl.bind sane_ev (Evl.some _)
theorem CurveInside : frisketlaw19_CurveInside.Pure := by
  intro l0 a1 h0 h1 _ _
  exact Evl.out (law_ev l0 a1 (by omega))
end Go.Proofs.Ytfpcejkjabmeeaa.Pure
