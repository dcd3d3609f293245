-- Written by a program of this session (myprint.py) out of the translation; Lean checks it.
import Derived.Test.YtcnebeoodkeaoaaQRasterLinesx0
import Derived.Test.YtcnebeoodkeaoaaQRasterLinesx1
import Derived.Test.YtcnebeoodkeaoaaQRasterLinesx2
import Derived.Test.YtcnebeoodkeaoaaQRasterLinesx3
import Derived.Test.YtcnebeoodkeaoaaFRasterLines
import Derived.Test.YtcnebeoodkeaoaaArrEq
namespace Go.Proofs.Ytcnebeoodkeaoaa.QRasterLines
open Go.RowKit Go.Proofs.YtcnebeoodkeaoaaW.PrintWords Go.Proofs.YtcnebeoodkeaoaaW.PrintLast Go.Proofs.YtcnebeoodkeaoaaW.PrintMore
attribute [local go_sem] max2_int min2_int max_two min_two max_three min_three max_four min_four   -- for this text's walks alone
set_option linter.unusedVariables false
set_option linter.unusedSimpArgs false

attribute [local go_sem high] eqA40
/-! ### frisketlaw30_RasterLines: function 4 -/
mutual
def frisketlaw30_RasterLines.j0 : Nat → Int → Int → Int → Int → Int → Bool → Option (Bool)
  | 0, _, _, _, _, _, _ => none
  | k + 1, x3, x4, x5, x6, x7, x46 => if x46 = true then (frisketlaw30_RasterLines.j1 k x3 x4 x5 x6 (mx (mx (wrap64 (x5 - x3)) (wrap64 (x3 - x5))) (mx (wrap64 (x6 - x4)) (wrap64 (x4 - x6))))) else (frisketlaw30_RasterLines.j1 k x3 x4 x5 x6 x7)
def frisketlaw30_RasterLines.j1 : Nat → Int → Int → Int → Int → Int → Option (Bool)
  | 0, _, _, _, _, _ => none
  | k + 1, x3, x4, x5, x6, x7 => if x7 > 5000 then (frisketlaw30_RasterLines.j2 k (Int.tmod x3 2000) (Int.tmod x4 2000) (Int.tmod x5 2000) (Int.tmod x6 2000)) else (frisketlaw30_RasterLines.j2 k x3 x4 x5 x6)
def frisketlaw30_RasterLines.j2 : Nat → Int → Int → Int → Int → Option (Bool)
  | 0, _, _, _, _ => none
  | k + 1, x3, x4, x5, x6 => (raster_Line.f x3 x4 x5 x6).bind fun bt134 => ((frisketref30_Line.f k x3 x4 x5 x6).bind fun bt138 => (if bt134.2 = bt138.2 then (frisketlaw30_RasterLines.j3 k x3 x4 x5 x6 bt134.1 bt134.2 bt138.1 ((bt134.1.length : Int) != (bt138.1.length : Int))) else (frisketlaw30_RasterLines.j3 k x3 x4 x5 x6 bt134.1 bt134.2 bt138.1 true)))
def frisketlaw30_RasterLines.j3 : Nat → Int → Int → Int → Int → List (S40) → Int → List (S40) → Bool → Option (Bool)
  | 0, _, _, _, _, _, _, _, _ => none
  | k + 1, x3, x4, x5, x6, x8, x9, x10, x97 => if x97 = true then (none) else (frisketlaw30_RasterLines.l0 k x3 x4 x5 x6 x8 x9 x10 0)
def frisketlaw30_RasterLines.l0 : Nat → Int → Int → Int → Int → List (S40) → Int → List (S40) → Int → Option (Bool)
  | 0, _, _, _, _, _, _, _, _ => none
  | k + 1, x3, x4, x5, x6, x8, x9, x10, x12 => if x12 < (x8.length : Int) then (if 0 ≤ x12 then (if x12 < (x10.length : Int) then (if (!(((rd_T40 x8 x12).f0) == ((rd_T40 x10 x12).f0)) || (!(((rd_T40 x8 x12).f1) == ((rd_T40 x10 x12).f1)))) = true then (none) else (if x12 > 0 then (if 0 ≤ (wrap64 (x12 - 1)) then (if (wrap64 (x12 - 1)) < (x8.length : Int) then (if (wrap64 (((rd_T40 x8 x12).f0) - ((rd_T40 x8 (wrap64 (x12 - 1))).f0))) > 1 then (none) else (if (wrap64 (((rd_T40 x8 (wrap64 (x12 - 1))).f0) - ((rd_T40 x8 x12).f0))) > 1 then (none) else (if (wrap64 (((rd_T40 x8 x12).f1) - ((rd_T40 x8 (wrap64 (x12 - 1))).f1))) > 1 then (none) else (if (wrap64 (((rd_T40 x8 (wrap64 (x12 - 1))).f1) - ((rd_T40 x8 x12).f1))) > 1 then (none) else (frisketlaw30_RasterLines.l0 k x3 x4 x5 x6 x8 x9 x10 (wrap64 (x12 + 1))))))) else (none)) else (none)) else (frisketlaw30_RasterLines.l0 k x3 x4 x5 x6 x8 x9 x10 (wrap64 (x12 + 1))))) else (none)) else (none)) else (if x9 = 0 then (if 0 < (x8.length : Int) then (if (((rd_T40 x8 0).f0) == x3 && (((rd_T40 x8 0).f1) == x4)) = true then (if 0 ≤ (wrap64 ((x8.length : Int) - 1)) then (if (wrap64 ((x8.length : Int) - 1)) < (x8.length : Int) then (if (((rd_T40 x8 (wrap64 ((x8.length : Int) - 1))).f0) == x5 && (((rd_T40 x8 (wrap64 ((x8.length : Int) - 1))).f1) == x6)) = true then ((frisketlaw30_sane.f k).bind fun t154 => (some t154)) else (none)) else (none)) else (none)) else (none)) else (none)) else ((frisketlaw30_sane.f k).bind fun t155 => (some t155)))
end
def frisketlaw30_RasterLines.f (k : Nat) (a0_0 : Int) (a0_1 : Int) (a0_2 : Int) (a0_3 : Int) : Option (Bool) := if (mx a0_0 (wrap64 (-a0_0))) < 3000000 then (if (mx a0_2 (wrap64 (-a0_2))) < 3000000 then (if (mx a0_1 (wrap64 (-a0_1))) < 3000000 then (frisketlaw30_RasterLines.j0 k a0_0 a0_1 a0_2 a0_3 2000 (decide ((mx a0_3 (wrap64 (-a0_3))) < 3000000))) else (frisketlaw30_RasterLines.j0 k a0_0 a0_1 a0_2 a0_3 2000 false)) else (frisketlaw30_RasterLines.j0 k a0_0 a0_1 a0_2 a0_3 2000 false)) else (frisketlaw30_RasterLines.j0 k a0_0 a0_1 a0_2 a0_3 2000 false)
theorem frisketlaw30_RasterLines.mono_l : ∀ k, (∀ y0 y1 y2 y3 y4 y5, LeO (frisketlaw30_RasterLines.j0 k y0 y1 y2 y3 y4 y5) (frisketlaw30_RasterLines.j0 (k + 1) y0 y1 y2 y3 y4 y5)) ∧ (∀ y0 y1 y2 y3 y4, LeO (frisketlaw30_RasterLines.j1 k y0 y1 y2 y3 y4) (frisketlaw30_RasterLines.j1 (k + 1) y0 y1 y2 y3 y4)) ∧ (∀ y0 y1 y2 y3, LeO (frisketlaw30_RasterLines.j2 k y0 y1 y2 y3) (frisketlaw30_RasterLines.j2 (k + 1) y0 y1 y2 y3)) ∧ (∀ y0 y1 y2 y3 y4 y5 y6 y7, LeO (frisketlaw30_RasterLines.j3 k y0 y1 y2 y3 y4 y5 y6 y7) (frisketlaw30_RasterLines.j3 (k + 1) y0 y1 y2 y3 y4 y5 y6 y7)) ∧ (∀ y0 y1 y2 y3 y4 y5 y6 y7, LeO (frisketlaw30_RasterLines.l0 k y0 y1 y2 y3 y4 y5 y6 y7) (frisketlaw30_RasterLines.l0 (k + 1) y0 y1 y2 y3 y4 y5 y6 y7))
  | 0 => ⟨fun _ _ _ _ _ _ r h => by simp [frisketlaw30_RasterLines.j0] at h, fun _ _ _ _ _ r h => by simp [frisketlaw30_RasterLines.j1] at h, fun _ _ _ _ r h => by simp [frisketlaw30_RasterLines.j2] at h, fun _ _ _ _ _ _ _ _ r h => by simp [frisketlaw30_RasterLines.j3] at h, fun _ _ _ _ _ _ _ _ r h => by simp [frisketlaw30_RasterLines.l0] at h⟩
  | k + 1 => by
    obtain ⟨ih0, ih1, ih2, ih3, ih4⟩ := frisketlaw30_RasterLines.mono_l k
    refine ⟨?_, ?_, ?_, ?_, ?_⟩
    · intro y0 y1 y2 y3 y4 y5
      unfold frisketlaw30_RasterLines.j0
      repeat' first
      | (with_reducible exact ih0 _ _ _ _ _ _)
      | (with_reducible exact ih1 _ _ _ _ _)
      | (with_reducible exact ih2 _ _ _ _)
      | (with_reducible exact ih3 _ _ _ _ _ _ _ _)
      | (with_reducible exact ih4 _ _ _ _ _ _ _ _)
      | (with_reducible exact frisketlaw30_sane.mono _)
      | (with_reducible exact frisketref30_Line.mono _ _ _ _ _)
      | (with_reducible exact LeO.refl _)
      | (with_reducible exact LeO.none _)
      | (with_reducible refine LeO.ite ?_ ?_)
      | (with_reducible refine LeO.bind ?_ (fun _ => ?_))
      | exact ih0 _ _ _ _ _ _
      | exact ih1 _ _ _ _ _
      | exact ih2 _ _ _ _
      | exact ih3 _ _ _ _ _ _ _ _
      | exact ih4 _ _ _ _ _ _ _ _
      | exact frisketlaw30_sane.mono _
      | exact frisketref30_Line.mono _ _ _ _ _
      | exact LeO.none _
      | refine LeO.ite ?_ ?_
      | refine LeO.bind ?_ (fun _ => ?_)
    · intro y0 y1 y2 y3 y4
      unfold frisketlaw30_RasterLines.j1
      repeat' first
      | (with_reducible exact ih0 _ _ _ _ _ _)
      | (with_reducible exact ih1 _ _ _ _ _)
      | (with_reducible exact ih2 _ _ _ _)
      | (with_reducible exact ih3 _ _ _ _ _ _ _ _)
      | (with_reducible exact ih4 _ _ _ _ _ _ _ _)
      | (with_reducible exact frisketlaw30_sane.mono _)
      | (with_reducible exact frisketref30_Line.mono _ _ _ _ _)
      | (with_reducible exact LeO.refl _)
      | (with_reducible exact LeO.none _)
      | (with_reducible refine LeO.ite ?_ ?_)
      | (with_reducible refine LeO.bind ?_ (fun _ => ?_))
      | exact ih0 _ _ _ _ _ _
      | exact ih1 _ _ _ _ _
      | exact ih2 _ _ _ _
      | exact ih3 _ _ _ _ _ _ _ _
      | exact ih4 _ _ _ _ _ _ _ _
      | exact frisketlaw30_sane.mono _
      | exact frisketref30_Line.mono _ _ _ _ _
      | exact LeO.none _
      | refine LeO.ite ?_ ?_
      | refine LeO.bind ?_ (fun _ => ?_)
    · intro y0 y1 y2 y3
      unfold frisketlaw30_RasterLines.j2
      repeat' first
      | (with_reducible exact ih0 _ _ _ _ _ _)
      | (with_reducible exact ih1 _ _ _ _ _)
      | (with_reducible exact ih2 _ _ _ _)
      | (with_reducible exact ih3 _ _ _ _ _ _ _ _)
      | (with_reducible exact ih4 _ _ _ _ _ _ _ _)
      | (with_reducible exact frisketlaw30_sane.mono _)
      | (with_reducible exact frisketref30_Line.mono _ _ _ _ _)
      | (with_reducible exact LeO.refl _)
      | (with_reducible exact LeO.none _)
      | (with_reducible refine LeO.ite ?_ ?_)
      | (with_reducible refine LeO.bind ?_ (fun _ => ?_))
      | exact ih0 _ _ _ _ _ _
      | exact ih1 _ _ _ _ _
      | exact ih2 _ _ _ _
      | exact ih3 _ _ _ _ _ _ _ _
      | exact ih4 _ _ _ _ _ _ _ _
      | exact frisketlaw30_sane.mono _
      | exact frisketref30_Line.mono _ _ _ _ _
      | exact LeO.none _
      | refine LeO.ite ?_ ?_
      | refine LeO.bind ?_ (fun _ => ?_)
    · intro y0 y1 y2 y3 y4 y5 y6 y7
      unfold frisketlaw30_RasterLines.j3
      repeat' first
      | (with_reducible exact ih0 _ _ _ _ _ _)
      | (with_reducible exact ih1 _ _ _ _ _)
      | (with_reducible exact ih2 _ _ _ _)
      | (with_reducible exact ih3 _ _ _ _ _ _ _ _)
      | (with_reducible exact ih4 _ _ _ _ _ _ _ _)
      | (with_reducible exact frisketlaw30_sane.mono _)
      | (with_reducible exact frisketref30_Line.mono _ _ _ _ _)
      | (with_reducible exact LeO.refl _)
      | (with_reducible exact LeO.none _)
      | (with_reducible refine LeO.ite ?_ ?_)
      | (with_reducible refine LeO.bind ?_ (fun _ => ?_))
      | exact ih0 _ _ _ _ _ _
      | exact ih1 _ _ _ _ _
      | exact ih2 _ _ _ _
      | exact ih3 _ _ _ _ _ _ _ _
      | exact ih4 _ _ _ _ _ _ _ _
      | exact frisketlaw30_sane.mono _
      | exact frisketref30_Line.mono _ _ _ _ _
      | exact LeO.none _
      | refine LeO.ite ?_ ?_
      | refine LeO.bind ?_ (fun _ => ?_)
    · intro y0 y1 y2 y3 y4 y5 y6 y7
      unfold frisketlaw30_RasterLines.l0
      repeat' first
      | (with_reducible exact ih0 _ _ _ _ _ _)
      | (with_reducible exact ih1 _ _ _ _ _)
      | (with_reducible exact ih2 _ _ _ _)
      | (with_reducible exact ih3 _ _ _ _ _ _ _ _)
      | (with_reducible exact ih4 _ _ _ _ _ _ _ _)
      | (with_reducible exact frisketlaw30_sane.mono _)
      | (with_reducible exact frisketref30_Line.mono _ _ _ _ _)
      | (with_reducible exact LeO.refl _)
      | (with_reducible exact LeO.none _)
      | (with_reducible refine LeO.ite ?_ ?_)
      | (with_reducible refine LeO.bind ?_ (fun _ => ?_))
      | exact ih0 _ _ _ _ _ _
      | exact ih1 _ _ _ _ _
      | exact ih2 _ _ _ _
      | exact ih3 _ _ _ _ _ _ _ _
      | exact ih4 _ _ _ _ _ _ _ _
      | exact frisketlaw30_sane.mono _
      | exact frisketref30_Line.mono _ _ _ _ _
      | exact LeO.none _
      | refine LeO.ite ?_ ?_
      | refine LeO.bind ?_ (fun _ => ?_)
theorem frisketlaw30_RasterLines.mono : ∀ a0 a1 a2 a3 k, LeO (frisketlaw30_RasterLines.f k a0 a1 a2 a3) (frisketlaw30_RasterLines.f (k + 1) a0 a1 a2 a3) := by
  intro a0 a1 a2 a3 k
  obtain ⟨ih0, ih1, ih2, ih3, ih4⟩ := frisketlaw30_RasterLines.mono_l k
  unfold frisketlaw30_RasterLines.f
  repeat' first
      | (with_reducible exact ih0 _ _ _ _ _ _)
      | (with_reducible exact ih1 _ _ _ _ _)
      | (with_reducible exact ih2 _ _ _ _)
      | (with_reducible exact ih3 _ _ _ _ _ _ _ _)
      | (with_reducible exact ih4 _ _ _ _ _ _ _ _)
      | (with_reducible exact frisketlaw30_sane.mono _)
      | (with_reducible exact frisketref30_Line.mono _ _ _ _ _)
      | (with_reducible exact LeO.refl _)
      | (with_reducible exact LeO.none _)
      | (with_reducible refine LeO.ite ?_ ?_)
      | (with_reducible refine LeO.bind ?_ (fun _ => ?_))
      | exact ih0 _ _ _ _ _ _
      | exact ih1 _ _ _ _ _
      | exact ih2 _ _ _ _
      | exact ih3 _ _ _ _ _ _ _ _
      | exact ih4 _ _ _ _ _ _ _ _
      | exact frisketlaw30_sane.mono _
      | exact frisketref30_Line.mono _ _ _ _ _
      | exact LeO.none _
      | refine LeO.ite ?_ ?_
      | refine LeO.bind ?_ (fun _ => ?_)
theorem frisketlaw30_RasterLines.lexq14 : Region.lexB .any (opsOf Try.f4 14) = true := by kernel_rfl
set_option maxHeartbeats 40000000 in
set_option maxRecDepth 100000 in
theorem frisketlaw30_RasterLines.calls (k : Nat) (a0_0 : Int) (a0_1 : Int) (a0_2 : Int) (a0_3 : Int) (r : Bool) (w : World) (h : frisketlaw30_RasterLines.f k a0_0 a0_1 a0_2 a0_3 = some r) :
    Calls Try.prog 4 #[.agg #[.int .i64 a0_0, .int .i64 a0_1, .int .i64 a0_2, .int .i64 a0_3]] w fun e w' => e = .returned (.bool r) ∧ Below w.heap.size w w' := by
  have hu36 := Try.underlying36
  have hu40 := Try.underlying40
  have HB := Aside0.mk (Below.refl w.heap.size w)
  have H : (if (mx a0_0 (wrap64 (-a0_0))) < 3000000 then (if (mx a0_2 (wrap64 (-a0_2))) < 3000000 then (if (mx a0_1 (wrap64 (-a0_1))) < 3000000 then (frisketlaw30_RasterLines.j0 k a0_0 a0_1 a0_2 a0_3 2000 (decide ((mx a0_3 (wrap64 (-a0_3))) < 3000000))) else (frisketlaw30_RasterLines.j0 k a0_0 a0_1 a0_2 a0_3 2000 false)) else (frisketlaw30_RasterLines.j0 k a0_0 a0_1 a0_2 a0_3 2000 false)) else (frisketlaw30_RasterLines.j0 k a0_0 a0_1 a0_2 a0_3 2000 false)) = some r := h
  clear h
  have HC2 := Aside0.mk H
  clear H
  go_enter Try.func4, Try.ntmps4
  go_upto_region 3 with (first | ((with_reducible refine gate_dst (N := 1) rfl ?_); (try (refine gate_guard (by rfl) ?_; dsimp only)); refine box_event ?hg (N := 1) ?hd (cs := #[.int .i64 a0_0, .int .i64 a0_1, .int .i64 a0_2, .int .i64 a0_3]) (t := 36) ?hr ?_; (case hd => rfl); (case hg => rfl); (case hr => first | (go_simp; done) | (go_simp; rfl)); intro gb133 hg w3 hbox hb; have n0_ := Aside0.mk (below_step (by repeat (first | (with_reducible first | exact HB.out | apply below_alloc | apply pw_below_drewN | apply below_drew1) | exact HB.out)) hb); have n1_ := Aside0.mk (hbox); have n2_ := Aside0.mk ((by rw [hg]; exact (below_size (by repeat (first | (with_reducible first | exact HB.out | apply below_alloc | apply pw_below_drewN | apply below_drew1) | exact HB.out))) : w.heap.size ≤ gb133)); have n3_ := Aside0.mk ((by rw [hg]; exact (below_size (by repeat (first | (with_reducible first | exact HB.out | apply below_alloc | apply pw_below_drewN | apply below_drew1) | exact HB.out))) : w.heap.size ≤ gb133)); clear HB; have HB := n0_; have BK133 := n1_; have GW133 := n2_; have GE133 := n3_; clear n0_ n1_ n2_ n3_; clear hb hbox hg; have hcz4_0 : w3.cell? ⟨gb133, 0, none⟩ = some (.int .i64 a0_0) := (blk_cell BK133.out 0).trans rfl; have hcz4_1 : w3.cell? ⟨gb133, 1, none⟩ = some (.int .i64 a0_1) := (blk_cell BK133.out 1).trans rfl; have hcz4_2 : w3.cell? ⟨gb133, 2, none⟩ = some (.int .i64 a0_2) := (blk_cell BK133.out 2).trans rfl; have hcz4_3 : w3.cell? ⟨gb133, 3, none⟩ = some (.int .i64 a0_3) := (blk_cell BK133.out 3).trans rfl; have hfz4_0 := blk_frozen BK133.out 0; have hfz4_1 := blk_frozen BK133.out 1; have hfz4_2 := blk_frozen BK133.out 2; have hfz4_3 := blk_frozen BK133.out 3))
  repeat (go_quiet (first | ((with_reducible refine gate_dst (N := 1) rfl ?_); (try (refine gate_guard (by rfl) ?_; dsimp only)); refine box_event ?hg (N := 1) ?hd (cs := #[.int .i64 a0_0, .int .i64 a0_1, .int .i64 a0_2, .int .i64 a0_3]) (t := 36) ?hr ?_; (case hd => rfl); (case hg => rfl); (case hr => first | (go_simp; done) | (go_simp; rfl)); intro gb133 hg w3 hbox hb; have n0_ := Aside0.mk (below_step (by repeat (first | (with_reducible first | exact HB.out | apply below_alloc | apply pw_below_drewN | apply below_drew1) | exact HB.out)) hb); have n1_ := Aside0.mk (hbox); have n2_ := Aside0.mk ((by rw [hg]; exact (below_size (by repeat (first | (with_reducible first | exact HB.out | apply below_alloc | apply pw_below_drewN | apply below_drew1) | exact HB.out))) : w.heap.size ≤ gb133)); have n3_ := Aside0.mk ((by rw [hg]; exact (below_size (by repeat (first | (with_reducible first | exact HB.out | apply below_alloc | apply pw_below_drewN | apply below_drew1) | exact HB.out))) : w.heap.size ≤ gb133)); clear HB; have HB := n0_; have BK133 := n1_; have GW133 := n2_; have GE133 := n3_; clear n0_ n1_ n2_ n3_; clear hb hbox hg; have hcz4_0 : w3.cell? ⟨gb133, 0, none⟩ = some (.int .i64 a0_0) := (blk_cell BK133.out 0).trans rfl; have hcz4_1 : w3.cell? ⟨gb133, 1, none⟩ = some (.int .i64 a0_1) := (blk_cell BK133.out 1).trans rfl; have hcz4_2 : w3.cell? ⟨gb133, 2, none⟩ = some (.int .i64 a0_2) := (blk_cell BK133.out 2).trans rfl; have hcz4_3 : w3.cell? ⟨gb133, 3, none⟩ = some (.int .i64 a0_3) := (blk_cell BK133.out 3).trans rfl; have hfz4_0 := blk_frozen BK133.out 0; have hfz4_1 := blk_frozen BK133.out 1; have hfz4_2 := blk_frozen BK133.out 2; have hfz4_3 := blk_frozen BK133.out 3)); go_upto_region 3 with (first | ((with_reducible refine gate_dst (N := 1) rfl ?_); (try (refine gate_guard (by rfl) ?_; dsimp only)); refine box_event ?hg (N := 1) ?hd (cs := #[.int .i64 a0_0, .int .i64 a0_1, .int .i64 a0_2, .int .i64 a0_3]) (t := 36) ?hr ?_; (case hd => rfl); (case hg => rfl); (case hr => first | (go_simp; done) | (go_simp; rfl)); intro gb133 hg w3 hbox hb; have n0_ := Aside0.mk (below_step (by repeat (first | (with_reducible first | exact HB.out | apply below_alloc | apply pw_below_drewN | apply below_drew1) | exact HB.out)) hb); have n1_ := Aside0.mk (hbox); have n2_ := Aside0.mk ((by rw [hg]; exact (below_size (by repeat (first | (with_reducible first | exact HB.out | apply below_alloc | apply pw_below_drewN | apply below_drew1) | exact HB.out))) : w.heap.size ≤ gb133)); have n3_ := Aside0.mk ((by rw [hg]; exact (below_size (by repeat (first | (with_reducible first | exact HB.out | apply below_alloc | apply pw_below_drewN | apply below_drew1) | exact HB.out))) : w.heap.size ≤ gb133)); clear HB; have HB := n0_; have BK133 := n1_; have GW133 := n2_; have GE133 := n3_; clear n0_ n1_ n2_ n3_; clear hb hbox hg; have hcz4_0 : w3.cell? ⟨gb133, 0, none⟩ = some (.int .i64 a0_0) := (blk_cell BK133.out 0).trans rfl; have hcz4_1 : w3.cell? ⟨gb133, 1, none⟩ = some (.int .i64 a0_1) := (blk_cell BK133.out 1).trans rfl; have hcz4_2 : w3.cell? ⟨gb133, 2, none⟩ = some (.int .i64 a0_2) := (blk_cell BK133.out 2).trans rfl; have hcz4_3 : w3.cell? ⟨gb133, 3, none⟩ = some (.int .i64 a0_3) := (blk_cell BK133.out 3).trans rfl; have hfz4_0 := blk_frozen BK133.out 0; have hfz4_1 := blk_frozen BK133.out 1; have hfz4_2 := blk_frozen BK133.out 2; have hfz4_3 := blk_frozen BK133.out 3)))
  (try simp only [Act.put, List.setIfInBounds_toArray, List.set_cons_zero, List.set_cons_succ])
  go_cut [46] (fun v46 wc => ∃ (kq : Nat) (x46_1 : Bool), v46 = .bool x46_1 ∧ Aside0 (frisketlaw30_RasterLines.j0 kq a0_0 a0_1 a0_2 a0_3 2000 x46_1 = some r) ∧ Aside0 (kq ≤ k) ∧ Aside0 (wc.heap[gb133]? = some (.cells #[.int .i64 a0_0, .int .i64 a0_1, .int .i64 a0_2, .int .i64 a0_3] 36 (0, 0))) ∧ Aside0 (Below w.heap.size w wc))
  case first =>
    have H := HC2.out
    clear HC2
    obtain ⟨ji5, hji5⟩ : ∃ j_ : Int, (mx a0_0 (wrap64 (-a0_0))) = j_ := ⟨_, rfl⟩
    replace H : (if (ji5) < 3000000 then (if (mx a0_2 (wrap64 (-a0_2))) < 3000000 then (if (mx a0_1 (wrap64 (-a0_1))) < 3000000 then (frisketlaw30_RasterLines.j0 k a0_0 a0_1 a0_2 a0_3 2000 (decide ((mx a0_3 (wrap64 (-a0_3))) < 3000000))) else (frisketlaw30_RasterLines.j0 k a0_0 a0_1 a0_2 a0_3 2000 false)) else (frisketlaw30_RasterLines.j0 k a0_0 a0_1 a0_2 a0_3 2000 false)) else (frisketlaw30_RasterLines.j0 k a0_0 a0_1 a0_2 a0_3 2000 false)) = some r := by first | (rw [hji5] at H; exact H) | (simp only [hji5] at H ⊢; exact H)
    have hji5_ : (if a0_0 < (wrap64 (-a0_0)) then (wrap64 (-a0_0)) else a0_0) = ji5 := hji5
    by_cases c6 : (ji5) < 3000000
    · rw [if_pos c6] at H
      have c6b0 : decide ((ji5) < 3000000) = true := decide_eq_true c6
      clear c6
      (first | rw [c6b0] | (simp only [i64_w, i32_w]; rw [c6b0]) | skip)
      obtain ⟨ji7, hji7⟩ : ∃ j_ : Int, (mx a0_2 (wrap64 (-a0_2))) = j_ := ⟨_, rfl⟩
      replace H : (if (ji7) < 3000000 then (if (mx a0_1 (wrap64 (-a0_1))) < 3000000 then (frisketlaw30_RasterLines.j0 k a0_0 a0_1 a0_2 a0_3 2000 (decide ((mx a0_3 (wrap64 (-a0_3))) < 3000000))) else (frisketlaw30_RasterLines.j0 k a0_0 a0_1 a0_2 a0_3 2000 false)) else (frisketlaw30_RasterLines.j0 k a0_0 a0_1 a0_2 a0_3 2000 false)) = some r := by first | (rw [hji7] at H; exact H) | (simp only [hji7] at H ⊢; exact H)
      have hji7_ : (if a0_2 < (wrap64 (-a0_2)) then (wrap64 (-a0_2)) else a0_2) = ji7 := hji7
      by_cases c8 : (ji7) < 3000000
      · rw [if_pos c8] at H
        have c8b0 : decide ((ji7) < 3000000) = true := decide_eq_true c8
        clear c8
        obtain ⟨ji9, hji9⟩ : ∃ j_ : Int, (mx a0_1 (wrap64 (-a0_1))) = j_ := ⟨_, rfl⟩
        replace H : (if (ji9) < 3000000 then (frisketlaw30_RasterLines.j0 k a0_0 a0_1 a0_2 a0_3 2000 (decide ((mx a0_3 (wrap64 (-a0_3))) < 3000000))) else (frisketlaw30_RasterLines.j0 k a0_0 a0_1 a0_2 a0_3 2000 false)) = some r := by first | (rw [hji9] at H; exact H) | (simp only [hji9] at H ⊢; exact H)
        have hji9_ : (if a0_1 < (wrap64 (-a0_1)) then (wrap64 (-a0_1)) else a0_1) = ji9 := hji9
        by_cases c10 : (ji9) < 3000000
        · rw [if_pos c10] at H
          have c10b0 : decide ((ji9) < 3000000) = true := decide_eq_true c10
          clear c10
          obtain ⟨ji11, hji11⟩ : ∃ j_ : Int, (mx a0_3 (wrap64 (-a0_3))) = j_ := ⟨_, rfl⟩
          replace H : (frisketlaw30_RasterLines.j0 k a0_0 a0_1 a0_2 a0_3 2000 (decide ((ji11) < 3000000))) = some r := by first | (rw [hji11] at H; exact H) | (simp only [hji11] at H ⊢; exact H)
          have hji11_ : (if a0_3 < (wrap64 (-a0_3)) then (wrap64 (-a0_3)) else a0_3) = ji11 := hji11
          as_aux_lemma =>
            have H' := Aside0.mk H
            clear H
            go_wp2
            repeat ((first | (refine wp_region_quiet_lit (by kernel_rfl) frisketlaw30_RasterLines.lexq14 ?_; (try simp only [List.append_eq, List.cons_append, List.nil_append]); (repeat (go_big_quiet_step (fail))); refine wpQuiet_nil ?_; intro _ hw'; obtain ⟨nq, hw''⟩ := hw'; subst hw'') | (refine wp_region_quiet_lit (by kernel_rfl) frisketlaw30_RasterLines.lexq14 ?_; (repeat (quiet_step (fail))); refine wpQuiet_nil ?_; intro _ hw'; obtain ⟨nq, hw''⟩ := hw'; subst hw'') | (go_quiet (fail))); try go_wp2)
            go_meet
            case rel => exact ⟨_, (decide ((ji11) < 3000000)), (by first | rfl | (simp; done) | (simp only [← hji11] <;> (first | rfl | (simp; done) | (simp [mn, mx]; done))) | (simp [*]; done)), H', ⟨by first | omega | exact Nat.le_refl _⟩, ⟨by (with_reducible repeat (first | refine blk_drewN ?_ _ | refine blk_drew ?_ | refine blk_alloc ?_ _)); exact BK133.out⟩, ⟨by repeat (first | (with_reducible first | exact HB.out | apply below_alloc | apply pw_below_drewN | apply below_drew1 | refine below_set ?_ GE133.out) | exact HB.out)⟩⟩
        · rw [if_neg c10] at H
          have c10b0 : decide ((ji9) < 3000000) = false := decide_eq_false c10
          clear c10
          as_aux_lemma =>
            have H' := Aside0.mk H
            clear H
            go_wp2
            repeat ((first | (refine wp_region_quiet_lit (by kernel_rfl) frisketlaw30_RasterLines.lexq14 ?_; (try simp only [List.append_eq, List.cons_append, List.nil_append]); (repeat (go_big_quiet_step (fail))); refine wpQuiet_nil ?_; intro _ hw'; obtain ⟨nq, hw''⟩ := hw'; subst hw'') | (refine wp_region_quiet_lit (by kernel_rfl) frisketlaw30_RasterLines.lexq14 ?_; (repeat (quiet_step (fail))); refine wpQuiet_nil ?_; intro _ hw'; obtain ⟨nq, hw''⟩ := hw'; subst hw'') | (go_quiet (fail))); try go_wp2)
            go_meet
            case rel => exact ⟨_, (false), (by first | rfl | (simp; done) | (simp [*]; done)), H', ⟨by first | omega | exact Nat.le_refl _⟩, ⟨by (with_reducible repeat (first | refine blk_drewN ?_ _ | refine blk_drew ?_ | refine blk_alloc ?_ _)); exact BK133.out⟩, ⟨by repeat (first | (with_reducible first | exact HB.out | apply below_alloc | apply pw_below_drewN | apply below_drew1 | refine below_set ?_ GE133.out) | exact HB.out)⟩⟩
      · rw [if_neg c8] at H
        have c8b0 : decide ((ji7) < 3000000) = false := decide_eq_false c8
        clear c8
        as_aux_lemma =>
          have H' := Aside0.mk H
          clear H
          go_wp2
          repeat ((first | (refine wp_region_quiet_lit (by kernel_rfl) frisketlaw30_RasterLines.lexq14 ?_; (try simp only [List.append_eq, List.cons_append, List.nil_append]); (repeat (go_big_quiet_step (fail))); refine wpQuiet_nil ?_; intro _ hw'; obtain ⟨nq, hw''⟩ := hw'; subst hw'') | (refine wp_region_quiet_lit (by kernel_rfl) frisketlaw30_RasterLines.lexq14 ?_; (repeat (quiet_step (fail))); refine wpQuiet_nil ?_; intro _ hw'; obtain ⟨nq, hw''⟩ := hw'; subst hw'') | (go_quiet (fail))); try go_wp2)
          go_meet
          case rel => exact ⟨_, (false), (by first | rfl | (simp; done) | (simp [*]; done)), H', ⟨by first | omega | exact Nat.le_refl _⟩, ⟨by (with_reducible repeat (first | refine blk_drewN ?_ _ | refine blk_drew ?_ | refine blk_alloc ?_ _)); exact BK133.out⟩, ⟨by repeat (first | (with_reducible first | exact HB.out | apply below_alloc | apply pw_below_drewN | apply below_drew1 | refine below_set ?_ GE133.out) | exact HB.out)⟩⟩
    · rw [if_neg c6] at H
      have c6b0 : decide ((ji5) < 3000000) = false := decide_eq_false c6
      clear c6
      (first | rw [c6b0] | (simp only [i64_w, i32_w]; rw [c6b0]) | skip)
      as_aux_lemma =>
        have H' := Aside0.mk H
        clear H
        go_wp2
        repeat ((first | (refine wp_region_quiet_lit (by kernel_rfl) frisketlaw30_RasterLines.lexq14 ?_; (try simp only [List.append_eq, List.cons_append, List.nil_append]); (repeat (go_big_quiet_step (fail))); refine wpQuiet_nil ?_; intro _ hw'; obtain ⟨nq, hw''⟩ := hw'; subst hw'') | (refine wp_region_quiet_lit (by kernel_rfl) frisketlaw30_RasterLines.lexq14 ?_; (repeat (quiet_step (fail))); refine wpQuiet_nil ?_; intro _ hw'; obtain ⟨nq, hw''⟩ := hw'; subst hw'') | (go_quiet (fail))); try go_wp2)
        go_meet
        case rel => exact ⟨_, (false), (by first | rfl | (simp; done) | (simp [*]; done)), H', ⟨by first | omega | exact Nat.le_refl _⟩, ⟨by (with_reducible repeat (first | refine blk_drewN ?_ _ | refine blk_drew ?_ | refine blk_alloc ?_ _)); exact BK133.out⟩, ⟨by repeat (first | (with_reducible first | exact HB.out | apply below_alloc | apply pw_below_drewN | apply below_drew1 | refine below_set ?_ GE133.out) | exact HB.out)⟩⟩
  case rest =>
    clear HC2
    try clear c1
    try clear p2
    try clear c4
    try clear c6
    try clear c6b0
    try clear p6
    try clear c8
    try clear c8b0
    try clear c10
    try clear c10b0
    try clear hcz4_0
    try clear hcz4_1
    try clear hcz4_2
    try clear hcz4_3
    try clear hfz4_0
    try clear hfz4_1
    try clear hfz4_2
    try clear hfz4_3
    obtain ⟨kq, x46_1, rfl, HA, HJ1, BK133, HB⟩ := hcut
    cases kq with
    | zero => exact absurd HA.out (by simp [frisketlaw30_RasterLines.j0])
    | succ kj1 =>
      have H := HA.out
      clear HA
      simp only [frisketlaw30_RasterLines.j0] at H
      have HC12 := Aside0.mk H
      clear H
      go_upto_if 46 with (fail)
      repeat (go_quiet (fail); go_upto_if 46 with (fail))
      go_cut [7] (fun v7 wc => ∃ (kq : Nat) (x7_11 : Int), v7 = .int .i64 x7_11 ∧ Aside0 (frisketlaw30_RasterLines.j1 kq a0_0 a0_1 a0_2 a0_3 x7_11 = some r) ∧ Aside0 (kq ≤ kj1) ∧ Aside0 (wc.heap[gb133]? = some (.cells #[.int .i64 a0_0, .int .i64 a0_1, .int .i64 a0_2, .int .i64 a0_3] 36 (0, 0))) ∧ Aside0 (Below w.heap.size w wc))
      case first =>
        have H := HC12.out
        clear HC12
        by_cases c13 : x46_1 = true
        · subst c13
          have H1 : (frisketlaw30_RasterLines.j1 kj1 a0_0 a0_1 a0_2 a0_3 (mx (mx (wrap64 (a0_2 - a0_0)) (wrap64 (a0_0 - a0_2))) (mx (wrap64 (a0_3 - a0_1)) (wrap64 (a0_1 - a0_3))))) = some r := by rw [if_pos rfl] at H; exact H
          clear H
          have H := H1
          clear H1
          obtain ⟨ji14, hji14⟩ : ∃ j_ : Int, (mx (wrap64 (a0_2 - a0_0)) (wrap64 (a0_0 - a0_2))) = j_ := ⟨_, rfl⟩
          replace H : (frisketlaw30_RasterLines.j1 kj1 a0_0 a0_1 a0_2 a0_3 (mx (ji14) (mx (wrap64 (a0_3 - a0_1)) (wrap64 (a0_1 - a0_3))))) = some r := by first | (rw [hji14] at H; exact H) | (simp only [hji14] at H ⊢; exact H)
          have hji14_ : (if (wrap64 (a0_2 - a0_0)) < (wrap64 (a0_0 - a0_2)) then (wrap64 (a0_0 - a0_2)) else (wrap64 (a0_2 - a0_0))) = ji14 := hji14
          obtain ⟨ji15, hji15⟩ : ∃ j_ : Int, (mx (wrap64 (a0_3 - a0_1)) (wrap64 (a0_1 - a0_3))) = j_ := ⟨_, rfl⟩
          replace H : (frisketlaw30_RasterLines.j1 kj1 a0_0 a0_1 a0_2 a0_3 (mx (ji14) (ji15))) = some r := by first | (rw [hji15] at H; exact H) | (simp only [hji15] at H ⊢; exact H)
          have hji15_ : (if (wrap64 (a0_3 - a0_1)) < (wrap64 (a0_1 - a0_3)) then (wrap64 (a0_1 - a0_3)) else (wrap64 (a0_3 - a0_1))) = ji15 := hji15
          obtain ⟨ji16, hji16⟩ : ∃ j_ : Int, (mx (ji14) (ji15)) = j_ := ⟨_, rfl⟩
          replace H : (frisketlaw30_RasterLines.j1 kj1 a0_0 a0_1 a0_2 a0_3 ji16) = some r := by first | (rw [hji16] at H; exact H) | (simp only [hji16] at H ⊢; exact H)
          have hji16_ : (if (ji14) < (ji15) then (ji15) else (ji14)) = ji16 := hji16
          as_aux_lemma =>
            have H' := Aside0.mk H
            clear H
            go_wp2
            repeat ((first | (refine wp_region_quiet_lit (by kernel_rfl) frisketlaw30_RasterLines.lexq14 ?_; (try simp only [List.append_eq, List.cons_append, List.nil_append]); (repeat (go_big_quiet_step (fail))); refine wpQuiet_nil ?_; intro _ hw'; obtain ⟨nq, hw''⟩ := hw'; subst hw'') | (refine wp_region_quiet_lit (by kernel_rfl) frisketlaw30_RasterLines.lexq14 ?_; (repeat (quiet_step (fail))); refine wpQuiet_nil ?_; intro _ hw'; obtain ⟨nq, hw''⟩ := hw'; subst hw'') | (go_quiet (fail))); try go_wp2)
            go_meet
            case rel => exact ⟨_, (ji16), (by first | rfl | (simp; done) | (simp only [← hji16] <;> (first | rfl | (simp; done) | (simp [mn, mx]; done))) | (simp [*]; done)), H', ⟨by have := HJ1.out; first | omega | exact Nat.le_refl _⟩, ⟨by (with_reducible repeat (first | refine blk_drewN ?_ _ | refine blk_drew ?_ | refine blk_alloc ?_ _)); exact BK133.out⟩, ⟨by repeat (first | (with_reducible first | exact HB.out | apply below_alloc | apply pw_below_drewN | apply below_drew1 | refine below_set ?_ GE133.out) | exact HB.out)⟩⟩
        · replace c13 := Bool.eq_false_iff.mpr c13
          subst c13
          have H1 : (frisketlaw30_RasterLines.j1 kj1 a0_0 a0_1 a0_2 a0_3 2000) = some r := by rw [if_neg (show ¬ (false = true) by decide)] at H; exact H
          clear H
          have H := H1
          clear H1
          as_aux_lemma =>
            have H' := Aside0.mk H
            clear H
            go_wp2
            repeat ((first | (refine wp_region_quiet_lit (by kernel_rfl) frisketlaw30_RasterLines.lexq14 ?_; (try simp only [List.append_eq, List.cons_append, List.nil_append]); (repeat (go_big_quiet_step (fail))); refine wpQuiet_nil ?_; intro _ hw'; obtain ⟨nq, hw''⟩ := hw'; subst hw'') | (refine wp_region_quiet_lit (by kernel_rfl) frisketlaw30_RasterLines.lexq14 ?_; (repeat (quiet_step (fail))); refine wpQuiet_nil ?_; intro _ hw'; obtain ⟨nq, hw''⟩ := hw'; subst hw'') | (go_quiet (fail))); try go_wp2)
            go_meet
            case rel => exact ⟨_, (2000), (by first | rfl | (simp; done) | (simp [*]; done)), H', ⟨by have := HJ1.out; first | omega | exact Nat.le_refl _⟩, ⟨by (with_reducible repeat (first | refine blk_drewN ?_ _ | refine blk_drew ?_ | refine blk_alloc ?_ _)); exact BK133.out⟩, ⟨by repeat (first | (with_reducible first | exact HB.out | apply below_alloc | apply pw_below_drewN | apply below_drew1 | refine below_set ?_ GE133.out) | exact HB.out)⟩⟩
      case rest =>
        clear HC12
        try clear c1
        try clear p2
        try clear c4
        try clear c6
        try clear c6b0
        try clear p6
        try clear c8
        try clear c8b0
        try clear c10
        try clear c10b0
        try clear c13
        try clear hcz4_0
        try clear hcz4_1
        try clear hcz4_2
        try clear hcz4_3
        try clear hfz4_0
        try clear hfz4_1
        try clear hfz4_2
        try clear hfz4_3
        try clear p2
        try clear p6
        obtain ⟨kq, x7_11, rfl, HA, HJ11, BK133, HB⟩ := hcut
        cases kq with
        | zero => exact absurd HA.out (by simp [frisketlaw30_RasterLines.j1])
        | succ kj11 =>
          have H := HA.out
          clear HA
          simp only [frisketlaw30_RasterLines.j1] at H
          have HC17 := Aside0.mk H
          clear H
          go_upto_if 63 with (fail)
          repeat (go_quiet (fail); go_upto_if 63 with (fail))
          go_cut [3, 4, 5, 6] (fun v3 v4 v5 v6 wc => ∃ (kq : Nat) (x3_16 : Int) (x4_16 : Int) (x5_16 : Int) (x6_16 : Int), v3 = .int .i64 x3_16 ∧ v4 = .int .i64 x4_16 ∧ v5 = .int .i64 x5_16 ∧ v6 = .int .i64 x6_16 ∧ Aside0 (frisketlaw30_RasterLines.j2 kq x3_16 x4_16 x5_16 x6_16 = some r) ∧ Aside0 (kq ≤ kj11) ∧ Aside0 (wc.heap[gb133]? = some (.cells #[.int .i64 a0_0, .int .i64 a0_1, .int .i64 a0_2, .int .i64 a0_3] 36 (0, 0))) ∧ Aside0 (Below w.heap.size w wc))
          case first =>
            have H := HC17.out
            clear HC17
            by_cases c18 : x7_11 > 5000
            · rw [if_pos c18] at H
              have c18b0 : decide (5000 < x7_11) = true := decide_eq_true c18
              clear c18
              (first | rw [c18b0] | (simp only [i64_w, i32_w]; rw [c18b0]) | skip)
              as_aux_lemma =>
                have H' := Aside0.mk H
                clear H
                go_wp2
                repeat ((first | (refine wp_region_quiet_lit (by kernel_rfl) frisketlaw30_RasterLines.lexq14 ?_; (try simp only [List.append_eq, List.cons_append, List.nil_append]); (repeat (go_big_quiet_step (fail))); refine wpQuiet_nil ?_; intro _ hw'; obtain ⟨nq, hw''⟩ := hw'; subst hw'') | (refine wp_region_quiet_lit (by kernel_rfl) frisketlaw30_RasterLines.lexq14 ?_; (repeat (quiet_step (fail))); refine wpQuiet_nil ?_; intro _ hw'; obtain ⟨nq, hw''⟩ := hw'; subst hw'') | (go_quiet (fail))); try go_wp2)
                go_meet
                case rel => exact ⟨_, (Int.tmod a0_0 2000), (Int.tmod a0_1 2000), (Int.tmod a0_2 2000), (Int.tmod a0_3 2000), (by first | rfl | (simp; done) | (simp [*]; done)), (by first | rfl | (simp; done) | (simp [*]; done)), (by first | rfl | (simp; done) | (simp [*]; done)), (by first | rfl | (simp; done) | (simp [*]; done)), H', ⟨by have := HJ1.out; have := HJ11.out; first | omega | exact Nat.le_refl _⟩, ⟨by (with_reducible repeat (first | refine blk_drewN ?_ _ | refine blk_drew ?_ | refine blk_alloc ?_ _)); exact BK133.out⟩, ⟨by repeat (first | (with_reducible first | exact HB.out | apply below_alloc | apply pw_below_drewN | apply below_drew1 | refine below_set ?_ GE133.out) | exact HB.out)⟩⟩
            · rw [if_neg c18] at H
              have c18b0 : decide (5000 < x7_11) = false := decide_eq_false c18
              clear c18
              (first | rw [c18b0] | (simp only [i64_w, i32_w]; rw [c18b0]) | skip)
              as_aux_lemma =>
                have H' := Aside0.mk H
                clear H
                go_wp2
                repeat ((first | (refine wp_region_quiet_lit (by kernel_rfl) frisketlaw30_RasterLines.lexq14 ?_; (try simp only [List.append_eq, List.cons_append, List.nil_append]); (repeat (go_big_quiet_step (fail))); refine wpQuiet_nil ?_; intro _ hw'; obtain ⟨nq, hw''⟩ := hw'; subst hw'') | (refine wp_region_quiet_lit (by kernel_rfl) frisketlaw30_RasterLines.lexq14 ?_; (repeat (quiet_step (fail))); refine wpQuiet_nil ?_; intro _ hw'; obtain ⟨nq, hw''⟩ := hw'; subst hw'') | (go_quiet (fail))); try go_wp2)
                go_meet
                case rel => exact ⟨_, (a0_0), (a0_1), (a0_2), (a0_3), (by first | rfl | (simp; done) | (simp [*]; done)), (by first | rfl | (simp; done) | (simp [*]; done)), (by first | rfl | (simp; done) | (simp [*]; done)), (by first | rfl | (simp; done) | (simp [*]; done)), H', ⟨by have := HJ1.out; have := HJ11.out; first | omega | exact Nat.le_refl _⟩, ⟨by (with_reducible repeat (first | refine blk_drewN ?_ _ | refine blk_drew ?_ | refine blk_alloc ?_ _)); exact BK133.out⟩, ⟨by repeat (first | (with_reducible first | exact HB.out | apply below_alloc | apply pw_below_drewN | apply below_drew1 | refine below_set ?_ GE133.out) | exact HB.out)⟩⟩
          case rest =>
            clear HC17
            try clear c1
            try clear p2
            try clear c4
            try clear c6
            try clear c6b0
            try clear p6
            try clear c8
            try clear c8b0
            try clear c10
            try clear c10b0
            try clear c13
            try clear c18
            try clear c18b0
            try clear hcz4_0
            try clear hcz4_1
            try clear hcz4_2
            try clear hcz4_3
            try clear hfz4_0
            try clear hfz4_1
            try clear hfz4_2
            try clear hfz4_3
            try clear p2
            try clear p6
            obtain ⟨kq, x3_16, x4_16, x5_16, x6_16, rfl, rfl, rfl, rfl, HA, HJ16, BK133, HB⟩ := hcut
            cases kq with
            | zero => exact absurd HA.out (by simp [frisketlaw30_RasterLines.j2])
            | succ kj16 =>
              have H := HA.out
              clear HA
              simp only [frisketlaw30_RasterLines.j2] at H
              replace H := Option.bind_eq_some_iff.mp H
              obtain ⟨⟨t134, t135⟩, A190, H⟩ := H
              replace H : ((frisketref30_Line.f kj16 x3_16 x4_16 x5_16 x6_16).bind fun bt138 => (if t135 = bt138.2 then (frisketlaw30_RasterLines.j3 kj16 x3_16 x4_16 x5_16 x6_16 t134 t135 bt138.1 ((t134.length : Int) != (bt138.1.length : Int))) else (frisketlaw30_RasterLines.j3 kj16 x3_16 x4_16 x5_16 x6_16 t134 t135 bt138.1 true))) = some r := H
              have A19 := Aside0.mk A190
              clear A190
              replace H := Option.bind_eq_some_iff.mp H
              obtain ⟨⟨t138, t139⟩, A200, H⟩ := H
              replace H : (if t135 = t139 then (frisketlaw30_RasterLines.j3 kj16 x3_16 x4_16 x5_16 x6_16 t134 t135 t138 ((t134.length : Int) != (t138.length : Int))) else (frisketlaw30_RasterLines.j3 kj16 x3_16 x4_16 x5_16 x6_16 t134 t135 t138 true)) = some r := H
              have A20 := Aside0.mk A200
              clear A200
              have HC21 := Aside0.mk H
              clear H
              go_upto_region 9 with (first | (go_at_call 12; (with_reducible refine (raster_Line.calls x3_16 x4_16 x5_16 x6_16 t134 t135 _ A19.out).mono ?_); rintro e w22 ⟨v136, rfl, ho0, hb⟩; have n0_ := Aside0.mk (Kd.R_lower ho0 (below_size (by repeat (first | (with_reducible first | exact HB.out | apply below_alloc | apply pw_below_drewN | apply below_drew1 | refine below_set ?_ GE133.out) | exact HB.out)))); have n1_ := Aside0.mk (blk_below (g := gb133) (o := .cells #[.int .i64 a0_0, .int .i64 a0_1, .int .i64 a0_2, .int .i64 a0_3] 36 (0, 0)) (by (with_reducible repeat (first | refine blk_drewN ?_ _ | refine blk_drew ?_ | refine blk_alloc ?_ _)); exact BK133.out) hb); have n2_ := Aside0.mk (below_step (by repeat (first | (with_reducible first | exact HB.out | apply below_alloc | apply pw_below_drewN | apply below_drew1 | refine below_set ?_ GE133.out) | exact HB.out)) hb); clear BK133; clear HB; have HO137 := n0_; have BK133 := n1_; have HB := n2_; clear n0_ n1_ n2_; (try clear hb); (try clear hb2); (try clear hk); (try clear hi); (try clear ho0)) | (go_at_call 13; (with_reducible refine (frisketref30_Line.calls kj16 x3_16 x4_16 x5_16 x6_16 t138 t139 _ A20.out).mono ?_); rintro e w23 ⟨v140, rfl, ho0, hb⟩; have n0_ := Aside0.mk (Kd.R_elder' (by (with_reducible repeat (first | apply Kd.R_alloc | apply Kd.R_drewN | apply Kd.R_drew)); exact HO137.out) (Kd.R_base ho0) hb); have n1_ := Aside0.mk (Kd.R_lower (Kd.R_new' ho0 (Kd.R_lt (by (with_reducible repeat (first | apply Kd.R_alloc | apply Kd.R_drewN | apply Kd.R_drew)); exact HO137.out))) (below_size (by repeat (first | (with_reducible first | exact HB.out | apply below_alloc | apply pw_below_drewN | apply below_drew1 | refine below_set ?_ GE133.out) | exact HB.out)))); have n2_ := Aside0.mk (blk_below (g := gb133) (o := .cells #[.int .i64 a0_0, .int .i64 a0_1, .int .i64 a0_2, .int .i64 a0_3] 36 (0, 0)) (by (with_reducible repeat (first | refine blk_drewN ?_ _ | refine blk_drew ?_ | refine blk_alloc ?_ _)); exact BK133.out) hb); have n3_ := Aside0.mk (below_step (by repeat (first | (with_reducible first | exact HB.out | apply below_alloc | apply pw_below_drewN | apply below_drew1 | refine below_set ?_ GE133.out) | exact HB.out)) hb); clear HO137; clear BK133; clear HB; have HO137 := n0_; have HO141 := n1_; have BK133 := n2_; have HB := n3_; clear n0_ n1_ n2_ n3_; (try clear hb); (try clear hb2); (try clear hk); (try clear hi); (try clear ho0)))
              repeat (go_quiet (first | (go_at_call 12; (with_reducible refine (raster_Line.calls x3_16 x4_16 x5_16 x6_16 t134 t135 _ A19.out).mono ?_); rintro e w22 ⟨v136, rfl, ho0, hb⟩; have n0_ := Aside0.mk (Kd.R_lower ho0 (below_size (by repeat (first | (with_reducible first | exact HB.out | apply below_alloc | apply pw_below_drewN | apply below_drew1 | refine below_set ?_ GE133.out) | exact HB.out)))); have n1_ := Aside0.mk (blk_below (g := gb133) (o := .cells #[.int .i64 a0_0, .int .i64 a0_1, .int .i64 a0_2, .int .i64 a0_3] 36 (0, 0)) (by (with_reducible repeat (first | refine blk_drewN ?_ _ | refine blk_drew ?_ | refine blk_alloc ?_ _)); exact BK133.out) hb); have n2_ := Aside0.mk (below_step (by repeat (first | (with_reducible first | exact HB.out | apply below_alloc | apply pw_below_drewN | apply below_drew1 | refine below_set ?_ GE133.out) | exact HB.out)) hb); clear BK133; clear HB; have HO137 := n0_; have BK133 := n1_; have HB := n2_; clear n0_ n1_ n2_; (try clear hb); (try clear hb2); (try clear hk); (try clear hi); (try clear ho0)) | (go_at_call 13; (with_reducible refine (frisketref30_Line.calls kj16 x3_16 x4_16 x5_16 x6_16 t138 t139 _ A20.out).mono ?_); rintro e w23 ⟨v140, rfl, ho0, hb⟩; have n0_ := Aside0.mk (Kd.R_elder' (by (with_reducible repeat (first | apply Kd.R_alloc | apply Kd.R_drewN | apply Kd.R_drew)); exact HO137.out) (Kd.R_base ho0) hb); have n1_ := Aside0.mk (Kd.R_lower (Kd.R_new' ho0 (Kd.R_lt (by (with_reducible repeat (first | apply Kd.R_alloc | apply Kd.R_drewN | apply Kd.R_drew)); exact HO137.out))) (below_size (by repeat (first | (with_reducible first | exact HB.out | apply below_alloc | apply pw_below_drewN | apply below_drew1 | refine below_set ?_ GE133.out) | exact HB.out)))); have n2_ := Aside0.mk (blk_below (g := gb133) (o := .cells #[.int .i64 a0_0, .int .i64 a0_1, .int .i64 a0_2, .int .i64 a0_3] 36 (0, 0)) (by (with_reducible repeat (first | refine blk_drewN ?_ _ | refine blk_drew ?_ | refine blk_alloc ?_ _)); exact BK133.out) hb); have n3_ := Aside0.mk (below_step (by repeat (first | (with_reducible first | exact HB.out | apply below_alloc | apply pw_below_drewN | apply below_drew1 | refine below_set ?_ GE133.out) | exact HB.out)) hb); clear HO137; clear BK133; clear HB; have HO137 := n0_; have HO141 := n1_; have BK133 := n2_; have HB := n3_; clear n0_ n1_ n2_ n3_; (try clear hb); (try clear hb2); (try clear hk); (try clear hi); (try clear ho0))); go_upto_region 9 with (first | (go_at_call 12; (with_reducible refine (raster_Line.calls x3_16 x4_16 x5_16 x6_16 t134 t135 _ A19.out).mono ?_); rintro e w22 ⟨v136, rfl, ho0, hb⟩; have n0_ := Aside0.mk (Kd.R_lower ho0 (below_size (by repeat (first | (with_reducible first | exact HB.out | apply below_alloc | apply pw_below_drewN | apply below_drew1 | refine below_set ?_ GE133.out) | exact HB.out)))); have n1_ := Aside0.mk (blk_below (g := gb133) (o := .cells #[.int .i64 a0_0, .int .i64 a0_1, .int .i64 a0_2, .int .i64 a0_3] 36 (0, 0)) (by (with_reducible repeat (first | refine blk_drewN ?_ _ | refine blk_drew ?_ | refine blk_alloc ?_ _)); exact BK133.out) hb); have n2_ := Aside0.mk (below_step (by repeat (first | (with_reducible first | exact HB.out | apply below_alloc | apply pw_below_drewN | apply below_drew1 | refine below_set ?_ GE133.out) | exact HB.out)) hb); clear BK133; clear HB; have HO137 := n0_; have BK133 := n1_; have HB := n2_; clear n0_ n1_ n2_; (try clear hb); (try clear hb2); (try clear hk); (try clear hi); (try clear ho0)) | (go_at_call 13; (with_reducible refine (frisketref30_Line.calls kj16 x3_16 x4_16 x5_16 x6_16 t138 t139 _ A20.out).mono ?_); rintro e w23 ⟨v140, rfl, ho0, hb⟩; have n0_ := Aside0.mk (Kd.R_elder' (by (with_reducible repeat (first | apply Kd.R_alloc | apply Kd.R_drewN | apply Kd.R_drew)); exact HO137.out) (Kd.R_base ho0) hb); have n1_ := Aside0.mk (Kd.R_lower (Kd.R_new' ho0 (Kd.R_lt (by (with_reducible repeat (first | apply Kd.R_alloc | apply Kd.R_drewN | apply Kd.R_drew)); exact HO137.out))) (below_size (by repeat (first | (with_reducible first | exact HB.out | apply below_alloc | apply pw_below_drewN | apply below_drew1 | refine below_set ?_ GE133.out) | exact HB.out)))); have n2_ := Aside0.mk (blk_below (g := gb133) (o := .cells #[.int .i64 a0_0, .int .i64 a0_1, .int .i64 a0_2, .int .i64 a0_3] 36 (0, 0)) (by (with_reducible repeat (first | refine blk_drewN ?_ _ | refine blk_drew ?_ | refine blk_alloc ?_ _)); exact BK133.out) hb); have n3_ := Aside0.mk (below_step (by repeat (first | (with_reducible first | exact HB.out | apply below_alloc | apply pw_below_drewN | apply below_drew1 | refine below_set ?_ GE133.out) | exact HB.out)) hb); clear HO137; clear BK133; clear HB; have HO137 := n0_; have HO141 := n1_; have BK133 := n2_; have HB := n3_; clear n0_ n1_ n2_ n3_; (try clear hb); (try clear hb2); (try clear hk); (try clear hi); (try clear ho0))))
              (try simp only [Act.put, List.setIfInBounds_toArray, List.set_cons_zero, List.set_cons_succ])
              go_cut [97] (fun v97 wc => ∃ (kq : Nat) (x97_20 : Bool), v97 = .bool x97_20 ∧ Aside0 (frisketlaw30_RasterLines.j3 kq x3_16 x4_16 x5_16 x6_16 t134 t135 t138 x97_20 = some r) ∧ Aside0 (kq ≤ kj16) ∧ Aside0 (Kd.R k40 40 wc w.heap.size (fun k_ => some k_ ≠ (v140 : Value).ownBlock) v136 t134) ∧ Aside0 (Kd.R k40 40 wc w.heap.size (fun k_ => some k_ ≠ (v136 : Value).ownBlock) v140 t138) ∧ Aside0 (wc.heap[gb133]? = some (.cells #[.int .i64 a0_0, .int .i64 a0_1, .int .i64 a0_2, .int .i64 a0_3] 36 (0, 0))) ∧ Aside0 (Below w.heap.size w wc))
              case first =>
                have H := HC21.out
                clear HC21
                by_cases c24 : t135 = t139
                · rw [if_pos c24] at H
                  have c24b0 : (t135 == t139) = true := beq_iff_eq.mpr c24
                  have c24b1 : (t135 != t139) = false := bne_eq_false_iff_eq.mpr c24
                  clear c24
                  (first | rw [c24b0] | (simp only [i64_w, i32_w]; rw [c24b0]) | skip)
                  as_aux_lemma =>
                    have H' := Aside0.mk H
                    clear H
                    obtain ⟨Ao25, co25, eo25⟩ := Kd.R_slice HO137.out
                    subst eo25
                    obtain ⟨Ao26, co26, eo26⟩ := Kd.R_slice HO141.out
                    subst eo26
                    go_wp2
                    repeat ((first | (refine wp_region_quiet_lit (by kernel_rfl) frisketlaw30_RasterLines.lexq14 ?_; (try simp only [List.append_eq, List.cons_append, List.nil_append]); (repeat (go_big_quiet_step (fail))); refine wpQuiet_nil ?_; intro _ hw'; obtain ⟨nq, hw''⟩ := hw'; subst hw'') | (refine wp_region_quiet_lit (by kernel_rfl) frisketlaw30_RasterLines.lexq14 ?_; (repeat (quiet_step (fail))); refine wpQuiet_nil ?_; intro _ hw'; obtain ⟨nq, hw''⟩ := hw'; subst hw'') | (go_quiet (fail))); try go_wp2)
                    go_meet
                    case rel => exact ⟨_, (((t134.length : Int) != (t138.length : Int))), (by first | rfl | (simp; done) | (simp [*]; done)), H', ⟨by have := HJ1.out; have := HJ11.out; have := HJ16.out; first | omega | exact Nat.le_refl _⟩, ⟨by (with_reducible repeat (first | apply Kd.R_alloc | apply Kd.R_drewN | apply Kd.R_drew)); exact Kd.R_mono HO137.out (fun _ hk => hk.2)⟩, ⟨by (with_reducible repeat (first | apply Kd.R_alloc | apply Kd.R_drewN | apply Kd.R_drew)); exact Kd.R_mono HO141.out (fun _ hk => hk.2)⟩, ⟨by (with_reducible repeat (first | refine blk_drewN ?_ _ | refine blk_drew ?_ | refine blk_alloc ?_ _)); exact BK133.out⟩, ⟨by repeat (first | (with_reducible first | exact HB.out | apply below_alloc | apply pw_below_drewN | apply below_drew1 | refine below_set ?_ GE133.out) | exact HB.out)⟩⟩
                · rw [if_neg c24] at H
                  have c24b0 : (t135 == t139) = false := beq_eq_false_iff_ne.mpr c24
                  have c24b1 : (t135 != t139) = true := bne_iff_ne.mpr c24
                  (first | rw [c24b0] | (simp only [i64_w, i32_w]; rw [c24b0]) | skip)
                  as_aux_lemma =>
                    have H' := Aside0.mk H
                    clear H
                    go_wp2
                    repeat ((first | (refine wp_region_quiet_lit (by kernel_rfl) frisketlaw30_RasterLines.lexq14 ?_; (try simp only [List.append_eq, List.cons_append, List.nil_append]); (repeat (go_big_quiet_step (fail))); refine wpQuiet_nil ?_; intro _ hw'; obtain ⟨nq, hw''⟩ := hw'; subst hw'') | (refine wp_region_quiet_lit (by kernel_rfl) frisketlaw30_RasterLines.lexq14 ?_; (repeat (quiet_step (fail))); refine wpQuiet_nil ?_; intro _ hw'; obtain ⟨nq, hw''⟩ := hw'; subst hw'') | (go_quiet (fail))); try go_wp2)
                    go_meet
                    case rel => exact ⟨_, (true), (by first | rfl | (simp; done) | (simp [*]; done)), H', ⟨by have := HJ1.out; have := HJ11.out; have := HJ16.out; first | omega | exact Nat.le_refl _⟩, ⟨by (with_reducible repeat (first | apply Kd.R_alloc | apply Kd.R_drewN | apply Kd.R_drew)); exact Kd.R_mono HO137.out (fun _ hk => hk.2)⟩, ⟨by (with_reducible repeat (first | apply Kd.R_alloc | apply Kd.R_drewN | apply Kd.R_drew)); exact Kd.R_mono HO141.out (fun _ hk => hk.2)⟩, ⟨by (with_reducible repeat (first | refine blk_drewN ?_ _ | refine blk_drew ?_ | refine blk_alloc ?_ _)); exact BK133.out⟩, ⟨by repeat (first | (with_reducible first | exact HB.out | apply below_alloc | apply pw_below_drewN | apply below_drew1 | refine below_set ?_ GE133.out) | exact HB.out)⟩⟩
              case rest =>
                clear HC21
                try clear c1
                try clear c2
                try clear p2
                try clear c4
                try clear c6
                try clear c6b0
                try clear p6
                try clear c8
                try clear c8b0
                try clear c10
                try clear c10b0
                try clear c13
                try clear c18
                try clear c18b0
                try clear c24
                try clear c24b0
                try clear c24b1
                try clear hcz4_0
                try clear hcz4_1
                try clear hcz4_2
                try clear hcz4_3
                try clear hfz4_0
                try clear hfz4_1
                try clear hfz4_2
                try clear hfz4_3
                try clear p2
                try clear p6
                obtain ⟨kq, x97_20, rfl, HA, HJ20, HO_8, HO_10, BK133, HB⟩ := hcut
                cases kq with
                | zero => exact absurd HA.out (by simp [frisketlaw30_RasterLines.j3])
                | succ kj20 =>
                  have H := HA.out
                  clear HA
                  simp only [frisketlaw30_RasterLines.j3] at H
                  by_cases c27 : x97_20 = true
                  · subst c27
                    have H1 : (none) = some r := by rw [if_pos rfl] at H; exact H
                    clear H
                    have H := H1
                    clear H1
                    exact absurd H (by simp)
                  · replace c27 := Bool.eq_false_iff.mpr c27
                    subst c27
                    have H1 : (frisketlaw30_RasterLines.l0 kj20 x3_16 x4_16 x5_16 x6_16 t134 t135 t138 0) = some r := by rw [if_neg (show ¬ (false = true) by decide)] at H; exact H
                    clear H
                    have H := H1
                    clear H1
                    have H' := Aside0.mk H
                    clear H
                    go_wp2
                    repeat ((first | (refine wp_region_quiet_lit (by kernel_rfl) frisketlaw30_RasterLines.lexq14 ?_; (try simp only [List.append_eq, List.cons_append, List.nil_append]); (repeat (go_big_quiet_step (fail))); refine wpQuiet_nil ?_; intro _ hw'; obtain ⟨nq, hw''⟩ := hw'; subst hw'') | (refine wp_region_quiet_lit (by kernel_rfl) frisketlaw30_RasterLines.lexq14 ?_; (repeat (quiet_step (fail))); refine wpQuiet_nil ?_; intro _ hw'; obtain ⟨nq, hw''⟩ := hw'; subst hw'') | (go_quiet (fail))); try go_wp2)
                    go_loopg [12] kj20 (fun kq v12 w' => ∃ (x12_5 : Int), v12 = .int .i64 x12_5 ∧ Aside0 (frisketlaw30_RasterLines.l0 kq x3_16 x4_16 x5_16 x6_16 t134 t135 t138 x12_5 = some r) ∧ Aside0 (kq ≤ kj20) ∧ Aside0 (Kd.R k40 40 w' w.heap.size (fun k_ => some k_ ≠ (v140 : Value).ownBlock) v136 t134) ∧ Aside0 (Kd.R k40 40 w' w.heap.size (fun k_ => some k_ ≠ (v136 : Value).ownBlock) v140 t138) ∧ Aside0 (w'.heap[gb133]? = some (.cells #[.int .i64 a0_0, .int .i64 a0_1, .int .i64 a0_2, .int .i64 a0_3] 36 (0, 0))) ∧ Aside0 (Below w.heap.size w w'))
                    case atStart => exact ⟨(0), (by first | rfl | (simp; done) | (simp [*]; done)), H', ⟨Nat.le_refl _⟩, ⟨by (with_reducible repeat (first | apply Kd.R_alloc | apply Kd.R_drewN | apply Kd.R_drew)); exact HO_8.out⟩, ⟨by (with_reducible repeat (first | apply Kd.R_alloc | apply Kd.R_drewN | apply Kd.R_drew)); exact HO_10.out⟩, ⟨by (with_reducible repeat (first | refine blk_drewN ?_ _ | refine blk_drew ?_ | refine blk_alloc ?_ _)); exact BK133.out⟩, ⟨by repeat (first | (with_reducible first | exact HB.out | apply below_alloc | apply pw_below_drewN | apply below_drew1 | refine below_set ?_ GE133.out) | exact HB.out)⟩⟩
                    case round =>
                      clear H'
                      try clear c1
                      try clear c2
                      try clear p2
                      try clear c4
                      try clear c6
                      try clear c6b0
                      try clear p6
                      try clear c8
                      try clear c8b0
                      try clear c10
                      try clear c10b0
                      try clear c13
                      try clear c18
                      try clear c18b0
                      try clear c24
                      try clear c24b0
                      try clear c24b1
                      try clear c27
                      try clear hcz4_0
                      try clear hcz4_1
                      try clear hcz4_2
                      try clear hcz4_3
                      try clear hfz4_0
                      try clear hfz4_1
                      try clear hfz4_2
                      try clear hfz4_3
                      try clear p2
                      try clear p6
                      obtain ⟨x12_5, rfl, HA, HK5, HO_8, HO_10, BK133, HB⟩ := hrel
                      cases gk with
                      | zero => exact absurd HA.out (by simp [frisketlaw30_RasterLines.l0])
                      | succ k5 =>
                        have H := HA.out
                        clear HA
                        simp only [frisketlaw30_RasterLines.l0] at H
                        by_cases c28 : x12_5 < (t134.length : Int)
                        · rw [if_pos c28] at H
                          have c28b0 : decide (x12_5 < (t134.length : Int)) = true := decide_eq_true c28
                          clear c28
                          by_cases c29 : 0 ≤ x12_5
                          · rw [if_pos c29] at H
                            have c29b0 : decide (0 ≤ x12_5) = true := decide_eq_true c29
                            clear c29
                            by_cases c30 : x12_5 < (t138.length : Int)
                            · rw [if_pos c30] at H
                              have c30b0 : decide (x12_5 < (t138.length : Int)) = true := decide_eq_true c30
                              clear c30
                              by_cases c31 : (!(((rd_T40 t134 x12_5).f0) == ((rd_T40 t138 x12_5).f0)) || (!(((rd_T40 t134 x12_5).f1) == ((rd_T40 t138 x12_5).f1)))) = true
                              · rw [if_pos c31] at H
                                exact absurd H (by simp)
                              · rw [if_neg c31] at H
                                have c31b0 : (!(((rd_T40 t134 x12_5).f0) == ((rd_T40 t138 x12_5).f0)) || (!(((rd_T40 t134 x12_5).f1) == ((rd_T40 t138 x12_5).f1)))) = false := by simpa using c31
                                clear c31
                                by_cases c32 : x12_5 > 0
                                · rw [if_pos c32] at H
                                  have c32b0 : decide (0 < x12_5) = true := decide_eq_true c32
                                  clear c32
                                  obtain ⟨ji33, hji33⟩ : ∃ j_ : Int, (wrap64 (x12_5 - 1)) = j_ := ⟨_, rfl⟩
                                  replace H : (if 0 ≤ (ji33) then (if (ji33) < (t134.length : Int) then (if (wrap64 (((rd_T40 t134 x12_5).f0) - ((rd_T40 t134 (ji33)).f0))) > 1 then (none) else (if (wrap64 (((rd_T40 t134 (ji33)).f0) - ((rd_T40 t134 x12_5).f0))) > 1 then (none) else (if (wrap64 (((rd_T40 t134 x12_5).f1) - ((rd_T40 t134 (ji33)).f1))) > 1 then (none) else (if (wrap64 (((rd_T40 t134 (ji33)).f1) - ((rd_T40 t134 x12_5).f1))) > 1 then (none) else (frisketlaw30_RasterLines.l0 k5 x3_16 x4_16 x5_16 x6_16 t134 t135 t138 (wrap64 (x12_5 + 1))))))) else (none)) else (none)) = some r := by first | (rw [hji33] at H; exact H) | (simp only [hji33] at H ⊢; exact H)
                                  have hji33w : (IntKind.i64.wrap (x12_5 - 1)) = ji33 := (i64_w _).trans hji33
                                  by_cases c34 : 0 ≤ (ji33)
                                  · rw [if_pos c34] at H
                                    have c34b0 : decide (0 ≤ (ji33)) = true := decide_eq_true c34
                                    clear c34
                                    by_cases c35 : (ji33) < (t134.length : Int)
                                    · rw [if_pos c35] at H
                                      have c35b0 : decide ((ji33) < (t134.length : Int)) = true := decide_eq_true c35
                                      clear c35
                                      by_cases c36 : (wrap64 (((rd_T40 t134 x12_5).f0) - ((rd_T40 t134 (ji33)).f0))) > 1
                                      · rw [if_pos c36] at H
                                        exact absurd H (by simp)
                                      · rw [if_neg c36] at H
                                        have c36b0 : decide (1 < (wrap64 (((rd_T40 t134 x12_5).f0) - ((rd_T40 t134 (ji33)).f0)))) = false := decide_eq_false c36
                                        clear c36
                                        by_cases c37 : (wrap64 (((rd_T40 t134 (ji33)).f0) - ((rd_T40 t134 x12_5).f0))) > 1
                                        · rw [if_pos c37] at H
                                          exact absurd H (by simp)
                                        · rw [if_neg c37] at H
                                          have c37b0 : decide (1 < (wrap64 (((rd_T40 t134 (ji33)).f0) - ((rd_T40 t134 x12_5).f0)))) = false := decide_eq_false c37
                                          clear c37
                                          by_cases c38 : (wrap64 (((rd_T40 t134 x12_5).f1) - ((rd_T40 t134 (ji33)).f1))) > 1
                                          · rw [if_pos c38] at H
                                            exact absurd H (by simp)
                                          · rw [if_neg c38] at H
                                            have c38b0 : decide (1 < (wrap64 (((rd_T40 t134 x12_5).f1) - ((rd_T40 t134 (ji33)).f1)))) = false := decide_eq_false c38
                                            clear c38
                                            by_cases c39 : (wrap64 (((rd_T40 t134 (ji33)).f1) - ((rd_T40 t134 x12_5).f1))) > 1
                                            · rw [if_pos c39] at H
                                              exact absurd H (by simp)
                                            · rw [if_neg c39] at H
                                              have c39b0 : decide (1 < (wrap64 (((rd_T40 t134 (ji33)).f1) - ((rd_T40 t134 x12_5).f1)))) = false := decide_eq_false c39
                                              clear c39
                                              as_aux_lemma =>
                                                have H' := Aside0.mk H
                                                clear H
                                                obtain ⟨Ao40, co40, eo40⟩ := Kd.R_slice HO_8.out
                                                subst eo40
                                                have p142 : 0 ≤ (x12_5 : Int) := of_decide_eq_true (by first | (with_reducible assumption) | assumption)
                                                have q142 : x12_5 < (t134.length : Int) := of_decide_eq_true (by first | (with_reducible assumption) | assumption)
                                                obtain ⟨ad142, e142, hx142_0, hx142_1⟩ := at_T40 (Kd.R_reads' HO_8.out).2.2 x12_5 p142 q142
                                                cases e142
                                                replace p142 := eq_true p142
                                                replace q142 := eq_true q142
                                                obtain ⟨Ao41, co41, eo41⟩ := Kd.R_slice HO_10.out
                                                subst eo41
                                                have p143 : 0 ≤ (x12_5 : Int) := of_decide_eq_true (by first | (with_reducible assumption) | assumption)
                                                have q143 : x12_5 < (t138.length : Int) := of_decide_eq_true (by first | (with_reducible assumption) | assumption)
                                                obtain ⟨ad143, e143, hx143_0, hx143_1⟩ := at_T40 (Kd.R_reads' HO_10.out).2.2 x12_5 p143 q143
                                                cases e143
                                                replace p143 := eq_true p143
                                                replace q143 := eq_true q143
                                                have p144 : 0 ≤ (x12_5 : Int) := of_decide_eq_true (by first | (with_reducible assumption) | assumption)
                                                have q144 : x12_5 < (t134.length : Int) := of_decide_eq_true (by first | (with_reducible assumption) | assumption)
                                                obtain ⟨ad144, e144, hx144_0, hx144_1⟩ := at_T40 (Kd.R_reads' HO_8.out).2.2 x12_5 p144 q144
                                                obtain rfl : ad142 = ad144 := (by injection e144)
                                                replace p144 := eq_true p144
                                                replace q144 := eq_true q144
                                                have p145 : 0 ≤ ((ji33) : Int) := of_decide_eq_true (by first | (with_reducible assumption) | assumption)
                                                have q145 : (ji33) < (t134.length : Int) := of_decide_eq_true (by first | (with_reducible assumption) | assumption)
                                                obtain ⟨ad145, e145, hx145_0, hx145_1⟩ := at_T40 (Kd.R_reads' HO_8.out).2.2 (ji33) p145 q145
                                                obtain rfl : ad142 = ad145 := (by injection e145)
                                                replace p145 := eq_true p145
                                                replace q145 := eq_true q145
                                                have p146 : 0 ≤ ((ji33) : Int) := of_decide_eq_true (by first | (with_reducible assumption) | assumption)
                                                have q146 : (ji33) < (t134.length : Int) := of_decide_eq_true (by first | (with_reducible assumption) | assumption)
                                                obtain ⟨ad146, e146, hx146_0, hx146_1⟩ := at_T40 (Kd.R_reads' HO_8.out).2.2 (ji33) p146 q146
                                                obtain rfl : ad142 = ad146 := (by injection e146)
                                                replace p146 := eq_true p146
                                                replace q146 := eq_true q146
                                                have p147 : 0 ≤ (x12_5 : Int) := of_decide_eq_true (by first | (with_reducible assumption) | assumption)
                                                have q147 : x12_5 < (t134.length : Int) := of_decide_eq_true (by first | (with_reducible assumption) | assumption)
                                                obtain ⟨ad147, e147, hx147_0, hx147_1⟩ := at_T40 (Kd.R_reads' HO_8.out).2.2 x12_5 p147 q147
                                                obtain rfl : ad142 = ad147 := (by injection e147)
                                                replace p147 := eq_true p147
                                                replace q147 := eq_true q147
                                                have p148 : 0 ≤ (x12_5 : Int) := of_decide_eq_true (by first | (with_reducible assumption) | assumption)
                                                have q148 : x12_5 < (t134.length : Int) := of_decide_eq_true (by first | (with_reducible assumption) | assumption)
                                                obtain ⟨ad148, e148, hx148_0, hx148_1⟩ := at_T40 (Kd.R_reads' HO_8.out).2.2 x12_5 p148 q148
                                                obtain rfl : ad142 = ad148 := (by injection e148)
                                                replace p148 := eq_true p148
                                                replace q148 := eq_true q148
                                                have p149 : 0 ≤ ((ji33) : Int) := of_decide_eq_true (by first | (with_reducible assumption) | assumption)
                                                have q149 : (ji33) < (t134.length : Int) := of_decide_eq_true (by first | (with_reducible assumption) | assumption)
                                                obtain ⟨ad149, e149, hx149_0, hx149_1⟩ := at_T40 (Kd.R_reads' HO_8.out).2.2 (ji33) p149 q149
                                                obtain rfl : ad142 = ad149 := (by injection e149)
                                                replace p149 := eq_true p149
                                                replace q149 := eq_true q149
                                                have p150 : 0 ≤ ((ji33) : Int) := of_decide_eq_true (by first | (with_reducible assumption) | assumption)
                                                have q150 : (ji33) < (t134.length : Int) := of_decide_eq_true (by first | (with_reducible assumption) | assumption)
                                                obtain ⟨ad150, e150, hx150_0, hx150_1⟩ := at_T40 (Kd.R_reads' HO_8.out).2.2 (ji33) p150 q150
                                                obtain rfl : ad142 = ad150 := (by injection e150)
                                                replace p150 := eq_true p150
                                                replace q150 := eq_true q150
                                                have p151 : 0 ≤ (x12_5 : Int) := of_decide_eq_true (by first | (with_reducible assumption) | assumption)
                                                have q151 : x12_5 < (t134.length : Int) := of_decide_eq_true (by first | (with_reducible assumption) | assumption)
                                                obtain ⟨ad151, e151, hx151_0, hx151_1⟩ := at_T40 (Kd.R_reads' HO_8.out).2.2 x12_5 p151 q151
                                                obtain rfl : ad142 = ad151 := (by injection e151)
                                                replace p151 := eq_true p151
                                                replace q151 := eq_true q151
                                                go_wp2
                                                repeat ((first | (refine wp_region_quiet_lit (by kernel_rfl) frisketlaw30_RasterLines.lexq14 ?_; (try simp only [List.append_eq, List.cons_append, List.nil_append]); (repeat (go_big_quiet_step (fail))); refine wpQuiet_nil ?_; intro _ hw'; obtain ⟨nq, hw''⟩ := hw'; subst hw'') | (refine wp_region_quiet_lit (by kernel_rfl) frisketlaw30_RasterLines.lexq14 ?_; (repeat (quiet_step (fail))); refine wpQuiet_nil ?_; intro _ hw'; obtain ⟨nq, hw''⟩ := hw'; subst hw'') | (go_quiet (fail))); try go_wp2)
                                                go_roundg k5
                                                case measure => have := HJ1.out; have := HJ11.out; have := HJ16.out; have := HJ20.out; have := HK5.out; omega
                                                case rel => exact ⟨(wrap64 (x12_5 + 1)), (by first | rfl | (simp; done) | (simp [*]; done)), H', ⟨by have := HJ1.out; have := HJ11.out; have := HJ16.out; have := HJ20.out; have := HK5.out; omega⟩, ⟨by (with_reducible repeat (first | apply Kd.R_alloc | apply Kd.R_drewN | apply Kd.R_drew)); exact HO_8.out⟩, ⟨by (with_reducible repeat (first | apply Kd.R_alloc | apply Kd.R_drewN | apply Kd.R_drew)); exact HO_10.out⟩, ⟨by (with_reducible repeat (first | refine blk_drewN ?_ _ | refine blk_drew ?_ | refine blk_alloc ?_ _)); exact BK133.out⟩, ⟨by repeat (first | (with_reducible first | exact HB.out | apply below_alloc | apply pw_below_drewN | apply below_drew1 | refine below_set ?_ GE133.out) | exact HB.out)⟩⟩
                                    · rw [if_neg c35] at H
                                      exact absurd H (by simp)
                                  · rw [if_neg c34] at H
                                    exact absurd H (by simp)
                                · rw [if_neg c32] at H
                                  have c32b0 : decide (0 < x12_5) = false := decide_eq_false c32
                                  clear c32
                                  as_aux_lemma =>
                                    have H' := Aside0.mk H
                                    clear H
                                    obtain ⟨Ao42, co42, eo42⟩ := Kd.R_slice HO_8.out
                                    subst eo42
                                    have p142 : 0 ≤ (x12_5 : Int) := of_decide_eq_true (by first | (with_reducible assumption) | assumption)
                                    have q142 : x12_5 < (t134.length : Int) := of_decide_eq_true (by first | (with_reducible assumption) | assumption)
                                    obtain ⟨ad142, e142, hx142_0, hx142_1⟩ := at_T40 (Kd.R_reads' HO_8.out).2.2 x12_5 p142 q142
                                    cases e142
                                    replace p142 := eq_true p142
                                    replace q142 := eq_true q142
                                    obtain ⟨Ao43, co43, eo43⟩ := Kd.R_slice HO_10.out
                                    subst eo43
                                    have p143 : 0 ≤ (x12_5 : Int) := of_decide_eq_true (by first | (with_reducible assumption) | assumption)
                                    have q143 : x12_5 < (t138.length : Int) := of_decide_eq_true (by first | (with_reducible assumption) | assumption)
                                    obtain ⟨ad143, e143, hx143_0, hx143_1⟩ := at_T40 (Kd.R_reads' HO_10.out).2.2 x12_5 p143 q143
                                    cases e143
                                    replace p143 := eq_true p143
                                    replace q143 := eq_true q143
                                    go_wp2
                                    repeat ((first | (refine wp_region_quiet_lit (by kernel_rfl) frisketlaw30_RasterLines.lexq14 ?_; (try simp only [List.append_eq, List.cons_append, List.nil_append]); (repeat (go_big_quiet_step (fail))); refine wpQuiet_nil ?_; intro _ hw'; obtain ⟨nq, hw''⟩ := hw'; subst hw'') | (refine wp_region_quiet_lit (by kernel_rfl) frisketlaw30_RasterLines.lexq14 ?_; (repeat (quiet_step (fail))); refine wpQuiet_nil ?_; intro _ hw'; obtain ⟨nq, hw''⟩ := hw'; subst hw'') | (go_quiet (fail))); try go_wp2)
                                    go_roundg k5
                                    case measure => have := HJ1.out; have := HJ11.out; have := HJ16.out; have := HJ20.out; have := HK5.out; omega
                                    case rel => exact ⟨(wrap64 (x12_5 + 1)), (by first | rfl | (simp; done) | (simp [*]; done)), H', ⟨by have := HJ1.out; have := HJ11.out; have := HJ16.out; have := HJ20.out; have := HK5.out; omega⟩, ⟨by (with_reducible repeat (first | apply Kd.R_alloc | apply Kd.R_drewN | apply Kd.R_drew)); exact HO_8.out⟩, ⟨by (with_reducible repeat (first | apply Kd.R_alloc | apply Kd.R_drewN | apply Kd.R_drew)); exact HO_10.out⟩, ⟨by (with_reducible repeat (first | refine blk_drewN ?_ _ | refine blk_drew ?_ | refine blk_alloc ?_ _)); exact BK133.out⟩, ⟨by repeat (first | (with_reducible first | exact HB.out | apply below_alloc | apply pw_below_drewN | apply below_drew1 | refine below_set ?_ GE133.out) | exact HB.out)⟩⟩
                            · rw [if_neg c30] at H
                              exact absurd H (by simp)
                          · rw [if_neg c29] at H
                            exact absurd H (by simp)
                        · rw [if_neg c28] at H
                          have c28b0 : decide (x12_5 < (t134.length : Int)) = false := decide_eq_false c28
                          clear c28
                          by_cases c44 : t135 = 0
                          · rw [if_pos c44] at H
                            have c44b0 : (t135 == 0) = true := beq_iff_eq.mpr c44
                            have c44b1 : (t135 != 0) = false := bne_eq_false_iff_eq.mpr c44
                            clear c44
                            by_cases c45 : 0 < (t134.length : Int)
                            · rw [if_pos c45] at H
                              have c45b0 : decide (0 < (t134.length : Int)) = true := decide_eq_true c45
                              have c45b1 : decide (0 < t134.length) = true := decide_eq_true (by omega)
                              clear c45
                              by_cases c46 : (((rd_T40 t134 0).f0) == x3_16 && (((rd_T40 t134 0).f1) == x4_16)) = true
                              · rw [if_pos c46] at H
                                have c46b0 : (((rd_T40 t134 0).f0) == x3_16 && (((rd_T40 t134 0).f1) == x4_16)) = true := c46
                                (try (have c46b1 : decide (((rd_T40 t134 0).f0) = x3_16 && (((rd_T40 t134 0).f1) == x4_16)) = true := by simpa using c46))
                                (try (have c46b2 : (((rd_T40 t134 0).f0) == x3_16 && (((rd_T40 t134 0).f1) == x4_16)) = true := by simpa using c46))
                                clear c46
                                obtain ⟨ji47, hji47⟩ : ∃ j_ : Int, (wrap64 ((t134.length : Int) - 1)) = j_ := ⟨_, rfl⟩
                                replace H : (if 0 ≤ (ji47) then (if (ji47) < (t134.length : Int) then (if (((rd_T40 t134 (ji47)).f0) == x5_16 && (((rd_T40 t134 (ji47)).f1) == x6_16)) = true then ((frisketlaw30_sane.f k5).bind fun t154 => (some t154)) else (none)) else (none)) else (none)) = some r := by first | (rw [hji47] at H; exact H) | (simp only [hji47] at H ⊢; exact H)
                                have hji47w : (IntKind.i64.wrap ((t134.length : Int) - 1)) = ji47 := (i64_w _).trans hji47
                                by_cases c48 : 0 ≤ (ji47)
                                · rw [if_pos c48] at H
                                  have c48b0 : decide (0 ≤ (ji47)) = true := decide_eq_true c48
                                  clear c48
                                  by_cases c49 : (ji47) < (t134.length : Int)
                                  · rw [if_pos c49] at H
                                    have c49b0 : decide ((ji47) < (t134.length : Int)) = true := decide_eq_true c49
                                    clear c49
                                    by_cases c50 : (((rd_T40 t134 (ji47)).f0) == x5_16 && (((rd_T40 t134 (ji47)).f1) == x6_16)) = true
                                    · rw [if_pos c50] at H
                                      have c50b0 : (((rd_T40 t134 (ji47)).f0) == x5_16 && (((rd_T40 t134 (ji47)).f1) == x6_16)) = true := c50
                                      (try (have c50b1 : decide (((rd_T40 t134 (ji47)).f0) = x5_16 && (((rd_T40 t134 (ji47)).f1) == x6_16)) = true := by simpa using c50))
                                      (try (have c50b2 : (((rd_T40 t134 (ji47)).f0) == x5_16 && (((rd_T40 t134 (ji47)).f1) == x6_16)) = true := by simpa using c50))
                                      clear c50
                                      replace H := Option.bind_eq_some_iff.mp H
                                      obtain ⟨t154, A510, H⟩ := H
                                      replace H : (some t154) = some r := H
                                      have A51 := Aside0.mk A510
                                      clear A510
                                      as_aux_lemma =>
                                        obtain rfl := Option.some.inj H
                                        obtain ⟨Ao52, co52, eo52⟩ := Kd.R_slice HO_8.out
                                        subst eo52
                                        have p152 : 0 ≤ (0 : Int) := (by omega)
                                        have q152 : 0 < (t134.length : Int) := of_decide_eq_true (by first | (with_reducible assumption) | assumption)
                                        obtain ⟨ad152, e152, hx152_0, hx152_1⟩ := at_T40 (Kd.R_reads' HO_8.out).2.2 0 p152 q152
                                        cases e152
                                        have qi152 : (0 < t134.length) = True := eq_true (by omega)
                                        (try rw [show ((0 : Int)).toNat = 0 from rfl] at hx152_0)
                                        (try rw [show 0 * 2 = 0 from rfl] at hx152_0)
                                        (try rw [Addr.add_zero'] at hx152_0)
                                        (try rw [show ((0 : Int)).toNat = 0 from rfl] at hx152_1)
                                        (try rw [show 0 * 2 = 0 from rfl] at hx152_1)
                                        (try rw [Addr.add_zero'] at hx152_1)
                                        replace p152 := eq_true p152
                                        replace q152 := eq_true q152
                                        have p153 : 0 ≤ ((ji47) : Int) := of_decide_eq_true (by first | (with_reducible assumption) | assumption)
                                        have q153 : (ji47) < (t134.length : Int) := of_decide_eq_true (by first | (with_reducible assumption) | assumption)
                                        obtain ⟨ad153, e153, hx153_0, hx153_1⟩ := at_T40 (Kd.R_reads' HO_8.out).2.2 (ji47) p153 q153
                                        obtain rfl : ad152 = ad153 := (by injection e153)
                                        replace p153 := eq_true p153
                                        replace q153 := eq_true q153
                                        go_wp2_with (first | (go_at_call 11; (with_reducible refine (frisketlaw30_sane.calls k5  t154 _ A51.out).mono ?_); rintro e w53 ⟨rfl, hb⟩; have n0_ := Aside0.mk (Kd.R_below (by (with_reducible repeat (first | apply Kd.R_alloc | apply Kd.R_drewN | apply Kd.R_drew)); exact HO_8.out) hb); have n1_ := Aside0.mk (Kd.R_below (by (with_reducible repeat (first | apply Kd.R_alloc | apply Kd.R_drewN | apply Kd.R_drew)); exact HO_10.out) hb); have n2_ := Aside0.mk (blk_below (g := gb133) (o := .cells #[.int .i64 a0_0, .int .i64 a0_1, .int .i64 a0_2, .int .i64 a0_3] 36 (0, 0)) (by (with_reducible repeat (first | refine blk_drewN ?_ _ | refine blk_drew ?_ | refine blk_alloc ?_ _)); exact BK133.out) hb); have n3_ := Aside0.mk (below_step (by repeat (first | (with_reducible first | exact HB.out | apply below_alloc | apply pw_below_drewN | apply below_drew1 | refine below_set ?_ GE133.out) | exact HB.out)) hb); clear HO_8; clear HO_10; clear BK133; clear HB; have HO_8 := n0_; have HO_10 := n1_; have BK133 := n2_; have HB := n3_; clear n0_ n1_ n2_ n3_; (try clear hb); (try clear hb2); (try clear hk); (try clear hi)))
                                        repeat (go_quiet (first | (go_at_call 11; (with_reducible refine (frisketlaw30_sane.calls k5  t154 _ A51.out).mono ?_); rintro e w53 ⟨rfl, hb⟩; have n0_ := Aside0.mk (Kd.R_below (by (with_reducible repeat (first | apply Kd.R_alloc | apply Kd.R_drewN | apply Kd.R_drew)); exact HO_8.out) hb); have n1_ := Aside0.mk (Kd.R_below (by (with_reducible repeat (first | apply Kd.R_alloc | apply Kd.R_drewN | apply Kd.R_drew)); exact HO_10.out) hb); have n2_ := Aside0.mk (blk_below (g := gb133) (o := .cells #[.int .i64 a0_0, .int .i64 a0_1, .int .i64 a0_2, .int .i64 a0_3] 36 (0, 0)) (by (with_reducible repeat (first | refine blk_drewN ?_ _ | refine blk_drew ?_ | refine blk_alloc ?_ _)); exact BK133.out) hb); have n3_ := Aside0.mk (below_step (by repeat (first | (with_reducible first | exact HB.out | apply below_alloc | apply pw_below_drewN | apply below_drew1 | refine below_set ?_ GE133.out) | exact HB.out)) hb); clear HO_8; clear HO_10; clear BK133; clear HB; have HO_8 := n0_; have HO_10 := n1_; have BK133 := n2_; have HB := n3_; clear n0_ n1_ n2_ n3_; (try clear hb); (try clear hb2); (try clear hk); (try clear hi))); try go_wp2_with (first | (go_at_call 11; (with_reducible refine (frisketlaw30_sane.calls k5  t154 _ A51.out).mono ?_); rintro e w53 ⟨rfl, hb⟩; have n0_ := Aside0.mk (Kd.R_below (by (with_reducible repeat (first | apply Kd.R_alloc | apply Kd.R_drewN | apply Kd.R_drew)); exact HO_8.out) hb); have n1_ := Aside0.mk (Kd.R_below (by (with_reducible repeat (first | apply Kd.R_alloc | apply Kd.R_drewN | apply Kd.R_drew)); exact HO_10.out) hb); have n2_ := Aside0.mk (blk_below (g := gb133) (o := .cells #[.int .i64 a0_0, .int .i64 a0_1, .int .i64 a0_2, .int .i64 a0_3] 36 (0, 0)) (by (with_reducible repeat (first | refine blk_drewN ?_ _ | refine blk_drew ?_ | refine blk_alloc ?_ _)); exact BK133.out) hb); have n3_ := Aside0.mk (below_step (by repeat (first | (with_reducible first | exact HB.out | apply below_alloc | apply pw_below_drewN | apply below_drew1 | refine below_set ?_ GE133.out) | exact HB.out)) hb); clear HO_8; clear HO_10; clear BK133; clear HB; have HO_8 := n0_; have HO_10 := n1_; have BK133 := n2_; have HB := n3_; clear n0_ n1_ n2_ n3_; (try clear hb); (try clear hb2); (try clear hk); (try clear hi))))
                                        go_ret
                                        exact ⟨by first | rfl | (simp [errW_none, errW_some] <;> rfl) | (simp only [← hji47]; first | rfl | (simp [errW_none, errW_some] <;> rfl)) | (simp [*, errW_none, errW_some] <;> rfl), by repeat (first | (with_reducible first | exact HB.out | apply below_alloc | apply pw_below_drewN | apply below_drew1 | refine below_set ?_ GE133.out) | exact HB.out)⟩
                                    · rw [if_neg c50] at H
                                      exact absurd H (by simp)
                                  · rw [if_neg c49] at H
                                    exact absurd H (by simp)
                                · rw [if_neg c48] at H
                                  exact absurd H (by simp)
                              · rw [if_neg c46] at H
                                exact absurd H (by simp)
                            · rw [if_neg c45] at H
                              exact absurd H (by simp)
                          · rw [if_neg c44] at H
                            have c44b0 : (t135 == 0) = false := beq_eq_false_iff_ne.mpr c44
                            have c44b1 : (t135 != 0) = true := bne_iff_ne.mpr c44
                            replace H := Option.bind_eq_some_iff.mp H
                            obtain ⟨t155, A540, H⟩ := H
                            replace H : (some t155) = some r := H
                            have A54 := Aside0.mk A540
                            clear A540
                            as_aux_lemma =>
                              obtain rfl := Option.some.inj H
                              obtain ⟨Ao55, co55, eo55⟩ := Kd.R_slice HO_8.out
                              subst eo55
                              go_wp2_with (first | (go_at_call 11; (with_reducible refine (frisketlaw30_sane.calls k5  t155 _ A54.out).mono ?_); rintro e w56 ⟨rfl, hb⟩; have n0_ := Aside0.mk (Kd.R_below (by (with_reducible repeat (first | apply Kd.R_alloc | apply Kd.R_drewN | apply Kd.R_drew)); exact HO_8.out) hb); have n1_ := Aside0.mk (Kd.R_below (by (with_reducible repeat (first | apply Kd.R_alloc | apply Kd.R_drewN | apply Kd.R_drew)); exact HO_10.out) hb); have n2_ := Aside0.mk (blk_below (g := gb133) (o := .cells #[.int .i64 a0_0, .int .i64 a0_1, .int .i64 a0_2, .int .i64 a0_3] 36 (0, 0)) (by (with_reducible repeat (first | refine blk_drewN ?_ _ | refine blk_drew ?_ | refine blk_alloc ?_ _)); exact BK133.out) hb); have n3_ := Aside0.mk (below_step (by repeat (first | (with_reducible first | exact HB.out | apply below_alloc | apply pw_below_drewN | apply below_drew1 | refine below_set ?_ GE133.out) | exact HB.out)) hb); clear HO_8; clear HO_10; clear BK133; clear HB; have HO_8 := n0_; have HO_10 := n1_; have BK133 := n2_; have HB := n3_; clear n0_ n1_ n2_ n3_; (try clear hb); (try clear hb2); (try clear hk); (try clear hi)))
                              repeat (go_quiet (first | (go_at_call 11; (with_reducible refine (frisketlaw30_sane.calls k5  t155 _ A54.out).mono ?_); rintro e w56 ⟨rfl, hb⟩; have n0_ := Aside0.mk (Kd.R_below (by (with_reducible repeat (first | apply Kd.R_alloc | apply Kd.R_drewN | apply Kd.R_drew)); exact HO_8.out) hb); have n1_ := Aside0.mk (Kd.R_below (by (with_reducible repeat (first | apply Kd.R_alloc | apply Kd.R_drewN | apply Kd.R_drew)); exact HO_10.out) hb); have n2_ := Aside0.mk (blk_below (g := gb133) (o := .cells #[.int .i64 a0_0, .int .i64 a0_1, .int .i64 a0_2, .int .i64 a0_3] 36 (0, 0)) (by (with_reducible repeat (first | refine blk_drewN ?_ _ | refine blk_drew ?_ | refine blk_alloc ?_ _)); exact BK133.out) hb); have n3_ := Aside0.mk (below_step (by repeat (first | (with_reducible first | exact HB.out | apply below_alloc | apply pw_below_drewN | apply below_drew1 | refine below_set ?_ GE133.out) | exact HB.out)) hb); clear HO_8; clear HO_10; clear BK133; clear HB; have HO_8 := n0_; have HO_10 := n1_; have BK133 := n2_; have HB := n3_; clear n0_ n1_ n2_ n3_; (try clear hb); (try clear hb2); (try clear hk); (try clear hi))); try go_wp2_with (first | (go_at_call 11; (with_reducible refine (frisketlaw30_sane.calls k5  t155 _ A54.out).mono ?_); rintro e w56 ⟨rfl, hb⟩; have n0_ := Aside0.mk (Kd.R_below (by (with_reducible repeat (first | apply Kd.R_alloc | apply Kd.R_drewN | apply Kd.R_drew)); exact HO_8.out) hb); have n1_ := Aside0.mk (Kd.R_below (by (with_reducible repeat (first | apply Kd.R_alloc | apply Kd.R_drewN | apply Kd.R_drew)); exact HO_10.out) hb); have n2_ := Aside0.mk (blk_below (g := gb133) (o := .cells #[.int .i64 a0_0, .int .i64 a0_1, .int .i64 a0_2, .int .i64 a0_3] 36 (0, 0)) (by (with_reducible repeat (first | refine blk_drewN ?_ _ | refine blk_drew ?_ | refine blk_alloc ?_ _)); exact BK133.out) hb); have n3_ := Aside0.mk (below_step (by repeat (first | (with_reducible first | exact HB.out | apply below_alloc | apply pw_below_drewN | apply below_drew1 | refine below_set ?_ GE133.out) | exact HB.out)) hb); clear HO_8; clear HO_10; clear BK133; clear HB; have HO_8 := n0_; have HO_10 := n1_; have BK133 := n2_; have HB := n3_; clear n0_ n1_ n2_ n3_; (try clear hb); (try clear hb2); (try clear hk); (try clear hi))))
                              go_ret
                              exact ⟨by first | rfl | (simp [errW_none, errW_some] <;> rfl) | (simp [*, errW_none, errW_some] <;> rfl), by repeat (first | (with_reducible first | exact HB.out | apply below_alloc | apply pw_below_drewN | apply below_drew1 | refine below_set ?_ GE133.out) | exact HB.out)⟩

end Go.Proofs.Ytcnebeoodkeaoaa.QRasterLines
