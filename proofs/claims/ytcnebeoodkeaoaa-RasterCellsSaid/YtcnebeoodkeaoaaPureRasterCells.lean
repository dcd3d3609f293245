import Derived.Test.YtcnebeoodkeaoaaRdRasterCells
import Derived.Test.YtcnebeoodkeaoaaNum
namespace Go.Proofs.Ytcnebeoodkeaoaa.PureRasterCells
open Go.RowKit Go.Proofs.YtcnebeoodkeaoaaR Go.Proofs.Ytcnebeoodkeaoaa.QRasterCells Go.Proofs.YtcnebeoodkeaoaaW.PrintWords Go.Proofs.YtcnebeoodkeaoaaW.PrintLast Go.Proofs.YtcnebeoodkeaoaaW.PrintMore Go.Proofs.YtcnebeoodkeaoaaN

def G (s w h : Int) : Prop := 1 ≤ s ∧ s ≤ 1000 ∧ 1 ≤ w ∧ w ≤ 400 ∧ 1 ≤ h ∧ h ≤ 400
instance (s w h : Int) : Decidable (G s w h) := by unfold G; infer_instance
theorem good_eq (s w h : Int) : raster_good.f s w h = some (decide (G s w h)) := by
  unfold raster_good.f
  rw [mn_eq, mx_eq]
  repeat' split
  · refine some_dec (dec_true ?_); unfold G; omega
  all_goals (refine some_dec (not_false ?_); unfold G; omega)
theorem isScreen_eq (s w h : Int) : frisketref30_isScreen.f s w h = some (decide (G s w h)) := by
  unfold frisketref30_isScreen.f
  repeat' split
  · refine some_dec (dec_true ?_); unfold G; omega
  all_goals (refine some_dec (not_false ?_); unfold G; omega)
theorem near_eq (a m : Int) (h : 0 ≤ m) (h2 : m ≤ 100000000) : frisketref30_near.f a m = some (decide (-m ≤ a ∧ a ≤ m)) := by
  unfold frisketref30_near.f
  rw [w64 (by omega) (by omega)]
  split
  · refine some_dec (dec_true ?_); omega
  · refine some_dec (not_false ?_); omega
theorem floor_eq {a b : Int} (hb : 0 < b) (h0 : -1000000000 ≤ a) (h1 : a ≤ 1000000000) : raster_floor.f a b = some (a / b) := by
  obtain ⟨e1, e2⟩ := floor_of (a := a) hb
  obtain ⟨l, u⟩ := ediv_in hb h0 h1
  unfold raster_floor.f
  rw [if_neg (by omega)]
  by_cases h : Int.tmod a b < 0
  · rw [if_pos h, e1 h, w64 (x := a / b + 1) (by omega) (by omega), w64 (by omega) (by omega)]
    congr 1; omega
  · rw [if_neg h, e2 h, w64 (by omega) (by omega)]
theorem floor2_eq {a b : Int} (hb : 0 < b) (h0 : -1000000000 ≤ a) (h1 : a ≤ 1000000000) : frisketref30_floor.f a b = some (a / b) := by
  obtain ⟨e1, e2⟩ := floor_of (a := a) hb
  obtain ⟨l, u⟩ := ediv_in hb h0 h1
  unfold frisketref30_floor.f
  rw [if_neg (by omega)]
  by_cases h : Int.tmod a b < 0
  · rw [if_neg (by omega)]
    have ha : a < 0 := by
      by_cases hn : 0 ≤ a
      · have := Int.tmod_nonneg b hn; omega
      · omega
    have hc : ((decide (a < 0)) != (decide (b < 0))) = true := by
      rw [decide_eq_true ha, decide_eq_false (by omega)]; rfl
    rw [if_pos hc, e1 h, w64 (x := a / b + 1) (by omega) (by omega), w64 (by omega) (by omega)]
    congr 1; omega
  · by_cases hz : Int.tmod a b = 0
    · rw [if_pos hz, e2 h, w64 (by omega) (by omega)]
    · rw [if_neg hz]
      have ha : ¬ a < 0 := by
        intro hn
        have := Int.tmod_nonneg b (show 0 ≤ -a by omega)
        rw [Int.neg_tmod] at this
        omega
      have hc : ¬ ((decide (a < 0)) != (decide (b < 0))) = true := by
        rw [decide_eq_false ha, decide_eq_false (show ¬ b < 0 by omega)]; simp
      rw [if_neg hc, e2 h, w64 (by omega) (by omega)]
/-- The cell of a place. -/
def cellOf (s x : Int) : Int := (x + s / 2) / s
theorem half {s w h : Int} (g : G s w h) : wrap64 (Int.tdiv s 2) = s / 2 := by
  unfold G at g
  rw [Int.tdiv_eq_ediv_of_nonneg (by omega), w64 (by omega) (by omega)]
theorem cell_eq {s w h x y : Int} (g : G s w h) (hx : -100000000 ≤ x ∧ x ≤ 100000000) (hy : -100000000 ≤ y ∧ y ≤ 100000000) : raster_Screen_cell.f s w h x y = some (cellOf s x, cellOf s y) := by
  have hh := half g
  unfold G at g
  unfold raster_Screen_cell.f cellOf
  rw [hh, w64 (by omega) (by omega), w64 (by omega) (by omega), floor_eq (by omega) (by omega) (by omega), floor_eq (by omega) (by omega) (by omega)]
  rfl
theorem cell2_eq {s w h x y : Int} (g : G s w h) (hx : -100000000 ≤ x ∧ x ≤ 100000000) (hy : -100000000 ≤ y ∧ y ≤ 100000000) : frisketref30_cell.f s w h x y = some (cellOf s x, cellOf s y) := by
  have hh := half g
  unfold G at g
  unfold frisketref30_cell.f cellOf
  rw [hh, w64 (by omega) (by omega), w64 (by omega) (by omega), floor2_eq (by omega) (by omega) (by omega), floor2_eq (by omega) (by omega) (by omega)]
  rfl
def inB (w h a b : Int) : Bool := decide (0 ≤ a ∧ a < w ∧ 0 ≤ b ∧ b < h)
theorem has_eq (s w h a b : Int) : raster_Screen_has.f s w h a b = some (inB w h a b) := by
  unfold raster_Screen_has.f inB
  rw [mn_eq]
  repeat' split
  · refine some_dec (dec_true ?_); omega
  all_goals (refine some_dec (not_false ?_); omega)
theorem inside_eq (s w h a b : Int) : frisketref30_inside.f s w h a b = some (inB w h a b) := by
  unfold frisketref30_inside.f inB
  repeat' split
  · refine some_dec (dec_true ?_); omega
  all_goals (refine some_dec (not_false ?_); omega)
def ok (x y : Int) : Prop := (-100000000 ≤ x ∧ x ≤ 100000000) ∧ (-100000000 ≤ y ∧ y ≤ 100000000)
instance (x y : Int) : Decidable (ok x y) := by unfold ok; infer_instance
def CellS (s w h x y : Int) : Int × Int × Bool × Int := if G s w h ∧ ok x y then (cellOf s x, cellOf s y, inB w h (cellOf s x) (cellOf s y), 0) else (0, 0, false, 1)
theorem Cell_eq (k : Nat) (s w h x y : Int) : raster_Cell.f (k + 1) s w h x y = some (CellS s w h x y) := by
  unfold raster_Cell.f CellS
  rw [good_eq]
  simp only [Option.bind_some]
  by_cases g : G s w h
  · rw [decide_eq_true g, if_pos rfl, mx_eq, mn_eq]
    by_cases o : ok x y
    · have o2 := o
      unfold ok at o2
      rw [if_neg (by omega), decide_eq_false (by omega), if_pos ⟨g, o⟩]
      simp only [raster_Cell.j0, Bool.false_eq_true, if_false]
      rw [cell_eq g o2.1 o2.2]
      simp only [Option.bind_some, has_eq]
    · rw [if_neg (c := G s w h ∧ ok x y) (fun h => o h.2)]
      unfold ok at o
      by_cases c : max x y > 100000000
      · rw [if_pos c]
        simp only [raster_Cell.j0, if_true]
      · rw [if_neg c, decide_eq_true (by omega)]
        simp only [raster_Cell.j0, if_true]
  · rw [decide_eq_false g, if_neg (by simp), if_neg (fun h => g h.1)]
    simp only [raster_Cell.j0, if_true]
theorem Cell2_eq (k : Nat) (s w h x y : Int) : frisketref30_Cell.f (k + 1) s w h x y = some (CellS s w h x y) := by
  unfold frisketref30_Cell.f CellS
  rw [isScreen_eq, near_eq _ _ (by omega) (by omega), near_eq _ _ (by omega) (by omega)]
  simp only [Option.bind_some]
  by_cases g : G s w h
  · rw [decide_eq_true g, if_pos rfl]
    by_cases o1 : -100000000 ≤ x ∧ x ≤ 100000000
    · rw [decide_eq_true o1, if_pos rfl]
      by_cases o2 : -100000000 ≤ y ∧ y ≤ 100000000
      · rw [decide_eq_true o2, if_pos ⟨g, o1, o2⟩]
        simp only [frisketref30_Cell.j0, Bool.not_true, Bool.false_eq_true, if_false]
        rw [cell2_eq g o1 o2]
        simp only [Option.bind_some, inside_eq]
      · rw [decide_eq_false o2, if_neg (fun h => o2 h.2.2)]
        simp only [frisketref30_Cell.j0, Bool.not_false, if_true]
    · rw [decide_eq_false o1, if_neg (by simp), if_neg (fun h => o1 h.2.1)]
      simp only [frisketref30_Cell.j0, if_true]
  · rw [decide_eq_false g, if_neg (by simp), if_neg (fun h => g h.1)]
    simp only [frisketref30_Cell.j0, if_true]
def BackS (s w h x y : Int) : Int × Int × Int := if G s w h ∧ (-1000000 ≤ x ∧ x ≤ 1000000) ∧ (-1000000 ≤ y ∧ y ≤ 1000000) then (wrap64 (x * s), wrap64 (y * s), 0) else (0, 0, 1)
theorem Back_eq (s w h x y : Int) : raster_Back.f s w h x y = some (BackS s w h x y) := by
  unfold raster_Back.f BackS
  rw [good_eq]
  simp only [Option.bind_some]
  by_cases g : G s w h
  · rw [decide_eq_true g, if_pos rfl, mx_eq, mn_eq]
    by_cases c : max x y > 1000000
    · rw [if_pos c, if_neg (by omega)]
    · rw [if_neg c]
      by_cases d : min x y < -1000000
      · rw [if_pos d, if_neg (by omega)]
      · rw [if_neg d, if_pos ⟨g, by omega, by omega⟩]
  · rw [decide_eq_false g, if_neg (by simp), if_neg (fun h => g h.1)]
theorem Back2_eq (s w h x y : Int) : frisketref30_Back.f s w h x y = some (BackS s w h x y) := by
  unfold frisketref30_Back.f BackS
  rw [isScreen_eq, near_eq _ _ (by omega) (by omega), near_eq _ _ (by omega) (by omega)]
  simp only [Option.bind_some]
  by_cases g : G s w h <;> by_cases o1 : -1000000 ≤ x ∧ x ≤ 1000000 <;> by_cases o2 : -1000000 ≤ y ∧ y ≤ 1000000 <;> simp only [g, o1, o2, decide_true, decide_false, if_true, and_self, and_true, and_false, Bool.false_eq_true, if_false]
theorem sane_eq (k : Nat) : frisketlaw30_sane.f (k + 1) = some true := by
  unfold frisketlaw30_sane.f
  rw [Cell_eq]
  have : CellS 10 5 5 14 15 = (1, 2, true, 0) := by decide
  rw [this]
  rfl
theorem mid {s x : Int} (h1 : 1 ≤ s) : 2 * (cellOf s x * s - x) ≤ s ∧ 2 * (x - cellOf s x * s) ≤ s := by
  unfold cellOf
  have h2 := Int.ediv_mul_le (x + s / 2) (show s ≠ 0 by omega)
  have h3 := Int.lt_ediv_add_one_mul_self (x + s / 2) (show 0 < s by omega)
  rw [Int.add_mul] at h3
  omega
theorem RasterCells (x0_0 : Int) (x0_1 : Int) (x0_2 : Int) (a1 : Int) (a2 : Int) (_ : R23.good (x0_0, x0_1, x0_2)) (_ : R3.good a1) (_ : R3.good a2) : ∃ k, frisketlaw30_RasterCells.f k x0_0 x0_1 x0_2 a1 a2 = some true := by
  refine ⟨9, ?_⟩
  unfold frisketlaw30_RasterCells.f frisketlaw30_as.f
  rw [Cell_eq]
  simp only [Option.bind_some, Cell2_eq, if_true, bne_self_eq_false, Bool.false_eq_true, if_false]
  simp only [frisketlaw30_RasterCells.j0, Bool.false_eq_true, if_false, Back_eq, Back2_eq, frisketlaw30_as.f, Option.bind_some, if_true, bne_self_eq_false]
  simp only [frisketlaw30_RasterCells.j1, Bool.false_eq_true, if_false]
  have hs : ∀ k p q r s t u v, frisketlaw30_RasterCells.j2 (k + 2) p q r s true t u v = some true := by
    intro k p q r s t u v
    simp only [frisketlaw30_RasterCells.j2, if_true, sane_eq, Option.bind_some]
  unfold CellS
  by_cases g : G x0_0 x0_1 x0_2 ∧ ok a1 a2
  · rw [if_pos g]
    simp only [if_true]
    have g1 := g.1
    have g2 := g.2
    unfold G at g1
    unfold ok at g2
    split
    · exact hs _ _ _ _ _ _ _ _
    split
    · exact hs _ _ _ _ _ _ _ _
    split
    · exact hs _ _ _ _ _ _ _ _
    rename_i h1 h2 h3
    by_cases h4 : cellOf x0_0 a2 < -1000000
    · rw [decide_eq_true h4]
      exact hs _ _ _ _ _ _ _ _
    · rw [decide_eq_false h4]
      simp only [frisketlaw30_RasterCells.j2, Bool.false_eq_true, if_false, Back_eq, Option.bind_some]
      have hB : BackS x0_0 x0_1 x0_2 (cellOf x0_0 a1) (cellOf x0_0 a2) = (wrap64 (cellOf x0_0 a1 * x0_0), wrap64 (cellOf x0_0 a2 * x0_0), 0) := by
        unfold BackS
        rw [if_pos ⟨g.1, by omega, by omega⟩]
      rw [hB]
      simp only [if_true]
      obtain ⟨m1, m2⟩ := mid (s := x0_0) (x := a1) g1.1
      obtain ⟨m3, m4⟩ := mid (s := x0_0) (x := a2) g1.1
      rw [w64 (x := cellOf x0_0 a1 * x0_0) (by omega) (by omega), w64 (x := cellOf x0_0 a2 * x0_0) (by omega) (by omega)]
      rw [w64 (x := cellOf x0_0 a1 * x0_0 - a1) (by omega) (by omega), w64 (x := cellOf x0_0 a2 * x0_0 - a2) (by omega) (by omega), w64 (x := a1 - cellOf x0_0 a1 * x0_0) (by omega) (by omega), w64 (x := a2 - cellOf x0_0 a2 * x0_0) (by omega) (by omega)]
      rw [w64 (x := 2 * (cellOf x0_0 a1 * x0_0 - a1)) (by omega) (by omega), w64 (x := 2 * (cellOf x0_0 a2 * x0_0 - a2)) (by omega) (by omega), w64 (x := 2 * (a1 - cellOf x0_0 a1 * x0_0)) (by omega) (by omega), w64 (x := 2 * (a2 - cellOf x0_0 a2 * x0_0)) (by omega) (by omega)]
      rw [if_pos m1, if_pos m2, if_pos m3, if_pos m4, sane_eq]
      rfl
  · rw [if_neg g]
    rw [if_neg (by decide)]
    exact hs _ _ _ _ _ _ _ _
end Go.Proofs.Ytcnebeoodkeaoaa.PureRasterCells
