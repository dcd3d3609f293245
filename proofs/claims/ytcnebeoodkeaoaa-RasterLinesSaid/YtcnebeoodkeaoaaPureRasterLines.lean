/- A line of cells is the one the document tells, for any four numbers. No condition. -/
import Derived.Test.YtcnebeoodkeaoaaRdRasterLines
import Derived.Test.YtcnebeoodkeaoaaNum
namespace Go.Proofs.Ytcnebeoodkeaoaa.PureRasterLines
open Go.RowKit Go.Proofs.YtcnebeoodkeaoaaR Go.Proofs.Ytcnebeoodkeaoaa.QRasterLines Go.Proofs.YtcnebeoodkeaoaaW.PrintWords Go.Proofs.YtcnebeoodkeaoaaW.PrintLast Go.Proofs.YtcnebeoodkeaoaaW.PrintMore Go.Proofs.YtcnebeoodkeaoaaN

def G (s w h : Int) : Prop := 1 ≤ s ∧ s ≤ 1000 ∧ 1 ≤ w ∧ w ≤ 400 ∧ 1 ≤ h ∧ h ≤ 400
instance (s w h : Int) : Decidable (G s w h) := by unfold G; infer_instance
theorem good_eq (s w h : Int) : raster_good.f s w h = some (decide (G s w h)) := by
  unfold raster_good.f
  rw [mn_eq, mx_eq]
  repeat' split
  · refine some_dec (dec_true ?_); unfold G; omega
  all_goals (refine some_dec (not_false ?_); unfold G; omega)
theorem near_eq (a m : Int) (h : 0 ≤ m) (h2 : m ≤ 100000000) : frisketref30_near.f a m = some (decide (-m ≤ a ∧ a ≤ m)) := by
  unfold frisketref30_near.f
  rw [w64 (by omega) (by omega)]
  split
  · refine some_dec (dec_true ?_); omega
  · refine some_dec (not_false ?_); omega
theorem floor_eq {a b : Int} (hb : 0 < b) (h0 : -1000000000 ≤ a) (h1 : a ≤ 1000000000) : raster_floor.f a b = some (a / b) := by
  obtain ⟨e1, e2⟩ := floor_of (a := a) hb
  obtain ⟨l, u⟩ := ediv_in hb h0 h1
  unfold raster_floor.f
  rw [if_neg (by omega)]
  by_cases h : Int.tmod a b < 0
  · rw [if_pos h, e1 h, w64 (x := a / b + 1) (by omega) (by omega), w64 (by omega) (by omega)]
    congr 1; omega
  · rw [if_neg h, e2 h, w64 (by omega) (by omega)]
theorem floor2_eq {a b : Int} (hb : 0 < b) (h0 : -1000000000 ≤ a) (h1 : a ≤ 1000000000) : frisketref30_floor.f a b = some (a / b) := by
  obtain ⟨e1, e2⟩ := floor_of (a := a) hb
  obtain ⟨l, u⟩ := ediv_in hb h0 h1
  unfold frisketref30_floor.f
  rw [if_neg (by omega)]
  by_cases h : Int.tmod a b < 0
  · rw [if_neg (by omega)]
    have ha : a < 0 := by
      by_cases hn : 0 ≤ a
      · have := Int.tmod_nonneg b hn; omega
      · omega
    have hc : ((decide (a < 0)) != (decide (b < 0))) = true := by
      rw [decide_eq_true ha, decide_eq_false (by omega)]; rfl
    rw [if_pos hc, e1 h, w64 (x := a / b + 1) (by omega) (by omega), w64 (by omega) (by omega)]
    congr 1; omega
  · by_cases hz : Int.tmod a b = 0
    · rw [if_pos hz, e2 h, w64 (by omega) (by omega)]
    · rw [if_neg hz]
      have ha : ¬ a < 0 := by
        intro hn
        have := Int.tmod_nonneg b (show 0 ≤ -a by omega)
        rw [Int.neg_tmod] at this
        omega
      have hc : ¬ ((decide (a < 0)) != (decide (b < 0))) = true := by
        rw [decide_eq_false ha, decide_eq_false (show ¬ b < 0 by omega)]; simp
      rw [if_neg hc, e2 h, w64 (by omega) (by omega)]
/-- The cell of a place. -/
def cellOf (s x : Int) : Int := (x + s / 2) / s
theorem half {s w h : Int} (g : G s w h) : wrap64 (Int.tdiv s 2) = s / 2 := by
  unfold G at g
  rw [Int.tdiv_eq_ediv_of_nonneg (by omega), w64 (by omega) (by omega)]
theorem cell_eq {s w h x y : Int} (g : G s w h) (hx : -100000000 ≤ x ∧ x ≤ 100000000) (hy : -100000000 ≤ y ∧ y ≤ 100000000) : raster_Screen_cell.f s w h x y = some (cellOf s x, cellOf s y) := by
  have hh := half g
  unfold G at g
  unfold raster_Screen_cell.f cellOf
  rw [hh, w64 (by omega) (by omega), w64 (by omega) (by omega), floor_eq (by omega) (by omega) (by omega), floor_eq (by omega) (by omega) (by omega)]
  rfl
def inB (w h a b : Int) : Bool := decide (0 ≤ a ∧ a < w ∧ 0 ≤ b ∧ b < h)
theorem has_eq (s w h a b : Int) : raster_Screen_has.f s w h a b = some (inB w h a b) := by
  unfold raster_Screen_has.f inB
  rw [mn_eq]
  repeat' split
  · refine some_dec (dec_true ?_); omega
  all_goals (refine some_dec (not_false ?_); omega)
def ok (x y : Int) : Prop := (-100000000 ≤ x ∧ x ≤ 100000000) ∧ (-100000000 ≤ y ∧ y ≤ 100000000)
instance (x y : Int) : Decidable (ok x y) := by unfold ok; infer_instance
def CellS (s w h x y : Int) : Int × Int × Bool × Int := if G s w h ∧ ok x y then (cellOf s x, cellOf s y, inB w h (cellOf s x) (cellOf s y), 0) else (0, 0, false, 1)
theorem Cell_eq (k : Nat) (s w h x y : Int) : raster_Cell.f (k + 1) s w h x y = some (CellS s w h x y) := by
  unfold raster_Cell.f CellS
  rw [good_eq]
  simp only [Option.bind_some]
  by_cases g : G s w h
  · rw [decide_eq_true g, if_pos rfl, mx_eq, mn_eq]
    by_cases o : ok x y
    · have o2 := o
      unfold ok at o2
      rw [if_neg (by omega), decide_eq_false (by omega), if_pos ⟨g, o⟩]
      simp only [raster_Cell.j0, Bool.false_eq_true, if_false]
      rw [cell_eq g o2.1 o2.2]
      simp only [Option.bind_some, has_eq]
    · rw [if_neg (c := G s w h ∧ ok x y) (fun h => o h.2)]
      unfold ok at o
      by_cases c : max x y > 100000000
      · rw [if_pos c]
        simp only [raster_Cell.j0, if_true]
      · rw [if_neg c, decide_eq_true (by omega)]
        simp only [raster_Cell.j0, if_true]
  · rw [decide_eq_false g, if_neg (by simp), if_neg (fun h => g h.1)]
    simp only [raster_Cell.j0, if_true]
theorem sane_eq (k : Nat) : frisketlaw30_sane.f (k + 1) = some true := by
  unfold frisketlaw30_sane.f
  rw [Cell_eq]
  have : CellS 10 5 5 14 15 = (1, 2, true, 0) := by decide
  rw [this]
  rfl
/-- The cells of the line from i on, m of them. -/
def cellP (a0 a1 dx dy n i : Int) : S40 := ⟨a0 + (2 * i * dx + n) / (2 * n), a1 + (2 * i * dy + n) / (2 * n)⟩
def cellsFrom (f : Int → S40) : Nat → Int → List S40
  | 0, _ => []
  | m + 1, i => f i :: cellsFrom f m (i + 1)
theorem cells_len (f : Int → S40) : ∀ m i, (cellsFrom f m i).length = m
  | 0, _ => rfl
  | m + 1, i => by rw [cellsFrom, List.length_cons, cells_len f m]
theorem cells_get (f : Int → S40) (z : S40) : ∀ (m : Nat) (i : Int) (j : Nat), j < m → (cellsFrom f m i).getD j z = f (i + j)
  | 0, _, _, h => by omega
  | m + 1, i, 0, _ => by simp [cellsFrom]
  | m + 1, i, j + 1, h => by
    have := cells_get f z m (i + 1) j (by omega)
    rw [cellsFrom, List.getD_cons_succ, this]
    congr 1
    omega
theorem prod_in {i d n : Int} (h0 : 0 ≤ i) (h1 : i ≤ n) (hn : n ≤ 5000) (h2 : -n ≤ d) (h3 : d ≤ n) : -25000000 ≤ i * d ∧ i * d ≤ 25000000 := by
  have h4 : i * d ≤ i * n := Int.mul_le_mul_of_nonneg_left h3 h0
  have h5 : i * (-n) ≤ i * d := Int.mul_le_mul_of_nonneg_left h2 h0
  have h6 : i * n ≤ 5000 * n := Int.mul_le_mul_of_nonneg_right (by omega) (by omega)
  rw [Int.mul_neg] at h5
  omega
structure Line (a0 a1 dx dy n : Int) : Prop where
  a : -1000000 ≤ a0 ∧ a0 ≤ 1000000 ∧ -1000000 ≤ a1 ∧ a1 ≤ 1000000
  n0 : 0 < n
  n1 : n ≤ 5000
  x0 : -n ≤ dx
  x1 : dx ≤ n
  y0 : -n ≤ dy
  y1 : dy ≤ n
theorem num_eq {a0 a1 dx dy n i : Int} (L : Line a0 a1 dx dy n) (h0 : 0 ≤ i) (h1 : i ≤ n) : wrap64 (wrap64 (wrap64 (2 * i) * dx) + n) = 2 * i * dx + n ∧ wrap64 (wrap64 (wrap64 (2 * i) * dy) + n) = 2 * i * dy + n ∧ wrap64 (2 * n) = 2 * n ∧ -1000000000 ≤ 2 * i * dx + n ∧ 2 * i * dx + n ≤ 1000000000 ∧ -1000000000 ≤ 2 * i * dy + n ∧ 2 * i * dy + n ≤ 1000000000 := by
  have hx := prod_in h0 h1 L.n1 L.x0 L.x1
  have hy := prod_in h0 h1 L.n1 L.y0 L.y1
  have := L.n0
  have := L.n1
  rw [w64 (x := 2 * i) (by omega) (by omega), w64 (x := 2 * n) (by omega) (by omega), Int.mul_assoc, Int.mul_assoc, w64 (x := 2 * (i * dx)) (by omega) (by omega), w64 (x := 2 * (i * dy)) (by omega) (by omega), w64 (by omega) (by omega), w64 (by omega) (by omega)]
  omega
theorem q_in {a0 a1 dx dy n i : Int} (L : Line a0 a1 dx dy n) (h0 : 0 ≤ i) (h1 : i ≤ n) : -1000000000 ≤ (2 * i * dx + n) / (2 * n) ∧ (2 * i * dx + n) / (2 * n) ≤ 1000000000 ∧ -1000000000 ≤ (2 * i * dy + n) / (2 * n) ∧ (2 * i * dy + n) / (2 * n) ≤ 1000000000 := by
  obtain ⟨_, _, _, b1, b2, b3, b4⟩ := num_eq L h0 h1
  have := L.n0
  obtain ⟨e1, e2⟩ := ediv_in (b := 2 * n) (by omega) b1 b2
  obtain ⟨e3, e4⟩ := ediv_in (b := 2 * n) (by omega) b3 b4
  exact ⟨e1, e2, e3, e4⟩
theorem fl_eq (a b : Int) : QFl.raster_floor.f a b = raster_floor.f a b := rfl
theorem cellAt_eq {a0 a1 dx dy n i : Int} (L : Line a0 a1 dx dy n) (h0 : 0 ≤ i) (h1 : i ≤ n) : cellAt a0 a1 dx dy n i = some (cellP a0 a1 dx dy n i) := by
  obtain ⟨e1, e2, e3, b1, b2, b3, b4⟩ := num_eq L h0 h1
  obtain ⟨q1, q2, q3, q4⟩ := q_in L h0 h1
  have := L.n0
  have := L.a
  unfold cellAt cellP
  rw [e1, e2, e3, fl_eq, fl_eq, floor_eq (by omega) b1 b2, Option.bind_some, floor_eq (by omega) b3 b4, Option.bind_some, w64 (by omega) (by omega), w64 (by omega) (by omega)]
theorem lineL_eq {a0 a1 dx dy n : Int} (L : Line a0 a1 dx dy n) : ∀ (m k : Nat) (i : Int) (xs : List S40), i + m = n + 1 → 0 ≤ i → m < k → lineL k a0 a1 dx dy n i xs = some (xs ++ cellsFrom (cellP a0 a1 dx dy n) m i)
  | 0, k + 1, i, xs, h1, h2, _ => by
    have := L.n0
    have := L.n1
    rw [lineL, w64 (x := n + 1) (by omega) (by omega), if_neg (by omega), cellsFrom, List.append_nil]
  | m + 1, k + 1, i, xs, h1, h2, h3 => by
    have := L.n0
    have := L.n1
    rw [lineL, w64 (x := n + 1) (by omega) (by omega), if_pos (by omega), if_neg (by omega), cellAt_eq L h2 (by omega), Option.bind_some, w64 (by omega) (by omega), lineL_eq L m k (i + 1) _ (by omega) (by omega) (by omega), cellsFrom, List.append_assoc]
    rfl
theorem refL_eq {a0 a1 b0 b1 n : Int} (hb : -1000000 ≤ b0 ∧ b0 ≤ 1000000 ∧ -1000000 ≤ b1 ∧ b1 ≤ 1000000) (L : Line a0 a1 (b0 - a0) (b1 - a1) n) : ∀ (m k : Nat) (i : Int) (xs : List S40), i + m = n + 1 → 0 ≤ i → m < k → xs.length + m ≤ 100000 → frisketref30_line.l0 k a0 a1 b0 b1 n xs i = some (xs ++ cellsFrom (cellP a0 a1 (b0 - a0) (b1 - a1) n) m i)
  | 0, k + 1, i, xs, h1, h2, _, _ => by
    rw [frisketref30_line.l0, if_neg (by omega), cellsFrom, List.append_nil]
  | m + 1, k + 1, i, xs, h1, h2, h3, h4 => by
    have := L.n0
    have := L.n1
    have := L.a
    obtain ⟨e1, e2, e3, c1, c2, c3, c4⟩ := num_eq L h2 (show i ≤ n by omega)
    obtain ⟨q1, q2, q3, q4⟩ := q_in L h2 (show i ≤ n by omega)
    rw [frisketref30_line.l0, if_pos (by omega), w64 (x := b0 - a0) (by omega) (by omega), w64 (x := b1 - a1) (by omega) (by omega), e1, e2, e3, floor2_eq (by omega) c1 c2, Option.bind_some, floor2_eq (by omega) c3 c4, Option.bind_some, if_pos (by omega), w64 (x := i + 1) (by omega) (by omega), w64 (by omega) (by omega), w64 (by omega) (by omega), refL_eq hb L m k (i + 1) _ (by omega) (by omega) (by omega) (by rw [List.length_append]; simp only [List.length_cons, List.length_nil]; omega), cellsFrom, List.append_assoc]
    rfl
theorem step_in {A d e : Int} (hd : 0 < d) (h0 : -d ≤ e) (h1 : e ≤ d) : -1 ≤ (A + e) / d - A / d ∧ (A + e) / d - A / d ≤ 1 := by
  have u1 : (A + e) / d ≤ (A + 1 * d) / d := Int.ediv_le_ediv hd (by omega)
  have u2 : (A + (-1) * d) / d ≤ (A + e) / d := Int.ediv_le_ediv hd (by omega)
  rw [Int.add_mul_ediv_right A 1 (show d ≠ 0 by omega)] at u1
  rw [Int.add_mul_ediv_right A (-1) (show d ≠ 0 by omega)] at u2
  omega
structure Run (xs : List S40) (a0 a1 b0 b1 : Int) : Prop where
  len : 0 < xs.length ∧ xs.length ≤ 6000
  first : (rd_T40 xs 0).f0 = a0 ∧ (rd_T40 xs 0).f1 = a1
  last : (rd_T40 xs ((xs.length : Int) - 1)).f0 = b0 ∧ (rd_T40 xs ((xs.length : Int) - 1)).f1 = b1
  box : ∀ i : Int, 0 ≤ i → i < xs.length → (-2000000000 ≤ (rd_T40 xs i).f0 ∧ (rd_T40 xs i).f0 ≤ 2000000000) ∧ -2000000000 ≤ (rd_T40 xs i).f1 ∧ (rd_T40 xs i).f1 ≤ 2000000000
  near : ∀ i : Int, 0 < i → i < xs.length → (-1 ≤ (rd_T40 xs i).f0 - (rd_T40 xs (i - 1)).f0 ∧ (rd_T40 xs i).f0 - (rd_T40 xs (i - 1)).f0 ≤ 1) ∧ -1 ≤ (rd_T40 xs i).f1 - (rd_T40 xs (i - 1)).f1 ∧ (rd_T40 xs i).f1 - (rd_T40 xs (i - 1)).f1 ≤ 1
theorem loop_eq {x3 x4 x5 x6 : Int} {xs : List S40} (R : Run xs x3 x4 x5 x6) : ∀ (m k : Nat) (i : Int), i + m = xs.length → 0 ≤ i → m + 1 < k → frisketlaw30_RasterLines.l0 k x3 x4 x5 x6 xs 0 xs i = some true
  | 0, 0, i, h1, h2, h3 => by omega
  | 0, 1, i, h1, h2, h3 => by omega
  | 0, k + 2, i, h1, h2, h3 => by
    have := R.len
    rw [frisketlaw30_RasterLines.l0, if_neg (by omega), if_pos rfl, if_pos (by omega), R.first.1, R.first.2, if_pos (by simp), w64 (by omega) (by omega), if_pos (by omega), if_pos (by omega), R.last.1, R.last.2, if_pos (by simp), sane_eq]
    rfl
  | m + 1, 0, i, h1, h2, h3 => by omega
  | m + 1, k + 1, i, h1, h2, h3 => by
    have := R.len
    obtain ⟨b1, b2⟩ := R.box i h2 (by omega)
    rw [frisketlaw30_RasterLines.l0, if_pos (by omega), if_pos (by omega), if_pos (by omega), if_neg (by simp), w64 (x := i + 1) (by omega) (by omega), loop_eq R m k (i + 1) (by omega) (by omega) (by omega)]
    by_cases c : i > 0
    · obtain ⟨b3, b4⟩ := R.box (i - 1) (by omega) (by omega)
      obtain ⟨n1, n2⟩ := R.near i c (by omega)
      rw [if_pos c, w64 (x := i - 1) (by omega) (by omega), if_pos (by omega), if_pos (by omega), w64 (by omega) (by omega), w64 (by omega) (by omega), w64 (by omega) (by omega), w64 (by omega) (by omega), if_neg (by omega), if_neg (by omega), if_neg (by omega), if_neg (by omega)]
    · rw [if_neg c]
theorem empty_eq (x3 x4 x5 x6 : Int) (k : Nat) : frisketlaw30_RasterLines.l0 (k + 2) x3 x4 x5 x6 [] 1 [] 0 = some true := by
  rw [frisketlaw30_RasterLines.l0, if_neg (by simp), if_neg (by decide), sane_eq]
  rfl
def resL (a0 a1 b0 b1 n : Int) : List S40 := if n = 0 then [⟨a0, a1⟩] else cellsFrom (cellP a0 a1 (b0 - a0) (b1 - a1) n) (n.toNat + 1) 0
theorem run_line {a0 a1 b0 b1 n : Int} (L : Line a0 a1 (b0 - a0) (b1 - a1) n) : Run (cellsFrom (cellP a0 a1 (b0 - a0) (b1 - a1) n) (n.toNat + 1) 0) a0 a1 b0 b1 := by
  have h0 := L.n0
  have h1 := L.n1
  have ha := L.a
  have hg : ∀ i : Int, 0 ≤ i → i ≤ n → rd_T40 (cellsFrom (cellP a0 a1 (b0 - a0) (b1 - a1) n) (n.toNat + 1) 0) i = cellP a0 a1 (b0 - a0) (b1 - a1) n i := by
    intro i hi hn
    unfold rd_T40
    rw [cells_get _ _ _ _ _ (by omega)]
    congr 1
    omega
  have hz : n / (2 * n) = 0 := Int.ediv_eq_zero_of_lt (by omega) (by omega)
  have hq : ∀ d : Int, (2 * n * d + n) / (2 * n) = d := by
    intro d
    rw [Int.mul_comm (2 * n) d, Int.add_comm, Int.add_mul_ediv_right _ _ (by omega), hz]
    omega
  refine ⟨by rw [cells_len]; omega, ?_, ?_, ?_, ?_⟩
  · rw [hg 0 (by omega) (by omega)]
    unfold cellP
    simp only [Int.mul_zero, Int.zero_mul, Int.zero_add, hz, Int.add_zero, and_self]
  · rw [cells_len, show ((n.toNat + 1 : Nat) : Int) - 1 = n by omega, hg n (by omega) (by omega)]
    unfold cellP
    rw [hq, hq]
    exact ⟨by show a0 + (b0 - a0) = b0; omega, by show a1 + (b1 - a1) = b1; omega⟩
  · intro i hi hl
    rw [cells_len] at hl
    rw [hg i hi (by omega)]
    obtain ⟨q1, q2, q3, q4⟩ := q_in L hi (show i ≤ n by omega)
    unfold cellP
    exact ⟨by constructor <;> (dsimp only; omega), by constructor <;> (dsimp only; omega)⟩
  · intro i hi hl
    rw [cells_len] at hl
    rw [hg i (by omega) (by omega), hg (i - 1) (by omega) (by omega)]
    have e : ∀ d : Int, 2 * i * d + n = (2 * (i - 1) * d + n) + 2 * d := by
      intro d
      rw [show 2 * i = 2 * (i - 1) + 2 by omega, Int.add_mul]
      omega
    have s1 := step_in (A := 2 * (i - 1) * (b0 - a0) + n) (d := 2 * n) (e := 2 * (b0 - a0)) (by omega) (by have := L.x0; omega) (by have := L.x1; omega)
    have s2 := step_in (A := 2 * (i - 1) * (b1 - a1) + n) (d := 2 * n) (e := 2 * (b1 - a1)) (by omega) (by have := L.y0; omega) (by have := L.y1; omega)
    rw [← e] at s1 s2
    unfold cellP
    exact ⟨by constructor <;> (dsimp only; omega), by constructor <;> (dsimp only; omega)⟩
theorem run_dot {a0 a1 : Int} (h : -1000000 ≤ a0 ∧ a0 ≤ 1000000 ∧ -1000000 ≤ a1 ∧ a1 ≤ 1000000) : Run [⟨a0, a1⟩] a0 a1 a0 a1 := by
  refine ⟨by simp, ⟨rfl, rfl⟩, ⟨rfl, rfl⟩, ?_, ?_⟩
  · intro i h0 h1
    simp only [List.length_cons, List.length_nil] at h1
    obtain rfl : i = 0 := by omega
    show (-2000000000 ≤ a0 ∧ a0 ≤ 2000000000) ∧ -2000000000 ≤ a1 ∧ a1 ≤ 2000000000
    omega
  · intro i h0 h1
    simp only [List.length_cons, List.length_nil] at h1
    omega
def C (a0 a1 b0 b1 : Int) : Prop := (-1000000 ≤ a0 ∧ a0 ≤ 1000000) ∧ (-1000000 ≤ a1 ∧ a1 ≤ 1000000) ∧ (-1000000 ≤ b0 ∧ b0 ≤ 1000000) ∧ -1000000 ≤ b1 ∧ b1 ≤ 1000000
def far (a0 a1 b0 b1 : Int) : Int := max (max (b0 - a0) (a0 - b0)) (max (b1 - a1) (a1 - b1))
theorem line_of {a0 a1 b0 b1 : Int} (c : C a0 a1 b0 b1) (h : far a0 a1 b0 b1 ≤ 5000) (hz : far a0 a1 b0 b1 ≠ 0) : Line a0 a1 (b0 - a0) (b1 - a1) (far a0 a1 b0 b1) := by
  unfold C at c
  unfold far at h hz ⊢
  exact ⟨by omega, by omega, by omega, by omega, by omega, by omega, by omega⟩
theorem Line_eq {a0 a1 b0 b1 : Int} (c : C a0 a1 b0 b1) (h : far a0 a1 b0 b1 ≤ 5000) : raster_Line.f a0 a1 b0 b1 = some (resL a0 a1 b0 b1 (far a0 a1 b0 b1), 0) := by
  have c2 := c
  unfold C at c2
  have hd : dist (b0 - a0) (b1 - a1) = far a0 a1 b0 b1 := by
    unfold dist far
    rw [mx_eq, mx_eq, mx_eq, w64 (by omega) (by omega), w64 (by omega) (by omega)]
    omega
  unfold raster_Line.f
  simp only [mx_eq, mn_eq]
  rw [if_neg (by omega), if_neg (by omega), w64 (x := b0 - a0) (by omega) (by omega), w64 (x := b1 - a1) (by omega) (by omega), hd]
  by_cases hz : far a0 a1 b0 b1 = 0
  · rw [hz, resL, if_pos rfl, show lineK = 4000001 + 1 from rfl, lineL, w64 (x := 0 + 1) (by omega) (by omega), if_pos (by omega), if_pos rfl]
    rfl
  · have L := line_of c h hz
    rw [lineL_eq L ((far a0 a1 b0 b1).toNat + 1) lineK 0 [] (by have := L.n0; omega) (by omega) (by have := L.n1; unfold lineK; omega), resL, if_neg hz]
    rfl
theorem Line2_eq {a0 a1 b0 b1 : Int} (k : Nat) (hk : 6000 ≤ k) (c : C a0 a1 b0 b1) (h : far a0 a1 b0 b1 ≤ 5000) : frisketref30_Line.f k a0 a1 b0 b1 = some (resL a0 a1 b0 b1 (far a0 a1 b0 b1), 0) := by
  have c2 := c
  unfold C at c2
  have hd : mx (mx (wrap64 (b0 - a0)) (wrap64 (a0 - b0))) (mx (wrap64 (b1 - a1)) (wrap64 (a1 - b1))) = far a0 a1 b0 b1 := by
    unfold far
    rw [mx_eq, mx_eq, mx_eq, w64 (by omega) (by omega), w64 (by omega) (by omega), w64 (by omega) (by omega), w64 (by omega) (by omega)]
  unfold frisketref30_Line.f frisketref30_line.f
  rw [near_eq _ _ (by omega) (by omega), near_eq _ _ (by omega) (by omega), near_eq _ _ (by omega) (by omega), near_eq _ _ (by omega) (by omega)]
  simp only [Option.bind_some]
  rw [if_pos (by simp; omega), if_pos (by simp; omega), if_pos (by simp; omega), if_pos (by simp; omega), hd]
  by_cases hz : far a0 a1 b0 b1 = 0
  · rw [if_pos hz, hz, resL, if_pos rfl]
    rfl
  · have L := line_of c h hz
    rw [if_neg hz, refL_eq (by omega) L ((far a0 a1 b0 b1).toNat + 1) k 0 [] (by have := L.n0; omega) (by omega) (by have := L.n1; omega) (by have := L.n1; simp only [List.length_nil]; omega), resL, if_neg hz]
    rfl
theorem LineN {a0 a1 b0 b1 : Int} (c : ¬ C a0 a1 b0 b1) : raster_Line.f a0 a1 b0 b1 = some ([], 1) := by
  unfold C at c
  unfold raster_Line.f
  simp only [mx_eq, mn_eq]
  by_cases h : max (max (max a0 a1) b0) b1 > 1000000
  · rw [if_pos h]
  · rw [if_neg h, if_pos (by omega)]
theorem Line2N {a0 a1 b0 b1 : Int} (k : Nat) (c : ¬ C a0 a1 b0 b1) : frisketref30_Line.f k a0 a1 b0 b1 = some ([], 1) := by
  unfold C at c
  unfold frisketref30_Line.f
  rw [near_eq _ _ (by omega) (by omega), near_eq _ _ (by omega) (by omega), near_eq _ _ (by omega) (by omega), near_eq _ _ (by omega) (by omega)]
  simp only [Option.bind_some, decide_eq_true_eq]
  by_cases h1 : -1000000 ≤ a0 ∧ a0 ≤ 1000000
  · rw [if_pos h1]
    by_cases h2 : -1000000 ≤ a1 ∧ a1 ≤ 1000000
    · rw [if_pos h2]
      by_cases h3 : -1000000 ≤ b0 ∧ b0 ≤ 1000000
      · rw [if_pos h3, if_neg (fun h4 => c ⟨h1, h2, h3, h4⟩)]
      · rw [if_neg h3]
    · rw [if_neg h2]
  · rw [if_neg h1]
theorem j2_eq {a0 a1 b0 b1 : Int} (k : Nat) (hk : 7000 ≤ k) (h : C a0 a1 b0 b1 → far a0 a1 b0 b1 ≤ 5000) : frisketlaw30_RasterLines.j2 (k + 2) a0 a1 b0 b1 = some true := by
  rw [frisketlaw30_RasterLines.j2]
  by_cases c : C a0 a1 b0 b1
  · have hf := h c
    have R : Run (resL a0 a1 b0 b1 (far a0 a1 b0 b1)) a0 a1 b0 b1 := by
      unfold resL
      split
      · have hc := c
        rename_i hz
        unfold C at hc
        unfold far at hz
        obtain rfl : b0 = a0 := by omega
        obtain rfl : b1 = a1 := by omega
        exact run_dot (by omega)
      · exact run_line (line_of c hf (by assumption))
    rw [Line_eq c hf, Line2_eq _ (by omega) c hf]
    simp only [Option.bind_some, if_true]
    rw [frisketlaw30_RasterLines.j3, if_neg (by simp), loop_eq R _ _ 0 (Int.zero_add _) (by omega) (by have := R.len; omega)]
  · rw [LineN c, Line2N _ c]
    simp only [Option.bind_some, if_true]
    rw [frisketlaw30_RasterLines.j3, if_neg (by simp)]
    obtain ⟨k', rfl⟩ : ∃ k', k = k' + 2 := ⟨k - 2, by omega⟩
    exact empty_eq _ _ _ _ k'
theorem tm (x : Int) : -2000 < Int.tmod x 2000 ∧ Int.tmod x 2000 < 2000 := by
  have h1 := Int.tmod_lt_of_pos x (show (0 : Int) < 2000 by omega)
  have h2 := Int.tmod_lt_of_pos (-x) (show (0 : Int) < 2000 by omega)
  rw [Int.neg_tmod] at h2
  omega
theorem j1_eq {a0 a1 b0 b1 x : Int} (k : Nat) (hk : 7000 ≤ k) (h : C a0 a1 b0 b1 → x ≤ 5000 → far a0 a1 b0 b1 ≤ 5000) : frisketlaw30_RasterLines.j1 (k + 3) a0 a1 b0 b1 x = some true := by
  rw [frisketlaw30_RasterLines.j1]
  by_cases c : x > 5000
  · rw [if_pos c]
    have t1 := tm a0
    have t2 := tm a1
    have t3 := tm b0
    have t4 := tm b1
    exact j2_eq k hk (fun _ => by unfold far; omega)
  · rw [if_neg c]
    exact j2_eq k hk (fun hc => h hc (by omega))
theorem j0_eq {a0 a1 b0 b1 : Int} (k : Nat) (hk : 7000 ≤ k) (b : Bool) (hb : C a0 a1 b0 b1 → b = true) : frisketlaw30_RasterLines.j0 (k + 4) a0 a1 b0 b1 2000 b = some true := by
  rw [frisketlaw30_RasterLines.j0]
  by_cases c : b = true
  · rw [if_pos c]
    refine j1_eq k hk (fun hc hx => ?_)
    unfold C at hc
    rw [mx_eq, mx_eq, mx_eq, w64 (by omega) (by omega), w64 (by omega) (by omega), w64 (by omega) (by omega), w64 (by omega) (by omega)] at hx
    exact hx
  · rw [if_neg c]
    exact j1_eq k hk (fun hc _ => absurd (hb hc) c)
theorem RasterLines (x0_0 : Int) (x0_1 : Int) (x0_2 : Int) (x0_3 : Int) (_ : R36.good (x0_0, x0_1, x0_2, x0_3)) : ∃ k, frisketlaw30_RasterLines.f k x0_0 x0_1 x0_2 x0_3 = some true := by
  refine ⟨7000 + 4, ?_⟩
  unfold frisketlaw30_RasterLines.f
  have hn : ∀ x : Int, (-1000000 ≤ x ∧ x ≤ 1000000) → mx x (wrap64 (-x)) < 3000000 := by
    intro x hx
    rw [mx_eq, w64 (by omega) (by omega)]
    omega
  by_cases h0 : mx x0_0 (wrap64 (-x0_0)) < 3000000
  · rw [if_pos h0]
    by_cases h1 : mx x0_2 (wrap64 (-x0_2)) < 3000000
    · rw [if_pos h1]
      by_cases h2 : mx x0_1 (wrap64 (-x0_1)) < 3000000
      · rw [if_pos h2]
        exact j0_eq 7000 (Nat.le_refl _) _ (fun c => decide_eq_true (hn _ c.2.2.2))
      · rw [if_neg h2]
        exact j0_eq 7000 (Nat.le_refl _) _ (fun c => absurd (hn _ c.2.1) h2)
    · rw [if_neg h1]
      exact j0_eq 7000 (Nat.le_refl _) _ (fun c => absurd (hn _ c.2.2.1) h1)
  · rw [if_neg h0]
    exact j0_eq 7000 (Nat.le_refl _) _ (fun c => absurd (hn _ c.1) h0)
end Go.Proofs.Ytcnebeoodkeaoaa.PureRasterLines
