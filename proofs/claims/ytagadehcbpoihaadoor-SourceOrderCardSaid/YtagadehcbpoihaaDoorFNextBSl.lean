/- Next, where the second frame is not at its end. -/
import Derived.Test.YtagadehcbpoihaaDoorFNextASl
import Derived.StillTail
import Derived.StillTailTactics
namespace Go.Proofs.YtagadehcbpoihaaDoor.Sane5
open Go.RowKit Go.Proofs.YtagadehcbpoihaaDoorW.PrintWords Go.Proofs.YtagadehcbpoihaaDoorW.PrintLast Go.Proofs.YtagadehcbpoihaaDoorW.PrintMore Go.Proofs.YtagadehcbpoihaaDoorN Go.Proofs.YtagadehcbpoihaaDoor.Str Go.Proofs.YtagadehcbpoihaaDoor.QSl
set_option linter.unusedVariables false
set_option linter.unusedSimpArgs false
set_option maxHeartbeats 8000000 in
set_option maxRecDepth 100000 in
theorem next1 (sb B gl cl m : Nat) (k : Int) (nm : ByteArray) (args : Value) (hargs : ∃ A n c, args = .slice A n c) (x : ByteArray) (lns : List (List Value)) (hx : lns[0]? = some (ln x)) (hm : 1 ≤ m) (hml : m ≤ 10) (hmc : m ≤ cl) (F0 : List Value) (w : World) (h : Stk sb B [F0, fr k nm (.slice (some ⟨gl, 0, none⟩) m cl) 0 args] w) (hC : (Kd.raw 5).C w (some ⟨gl, 0, none⟩) m lns) (hty : ∃ cs, w.heap[gl]? = some (.cells cs 34 (0, 0))) :
    Calls Tryd.prog 16 #[.pointer (some ⟨sb, 0, none⟩)] w fun e w' => e = .returned (.tuple #[.agg (ln x).toArray, .int .i64 0]) ∧ Stk sb B [F0, fr k nm (.slice (some ⟨gl, 0, none⟩) m cl) 1 args] w' ∧ KL w w' ∧ Below B w w' := by
  obtain ⟨A4, n4, c4, rfl⟩ := hargs
  obtain ⟨v, hv, hR⟩ := h.st
  obtain ⟨gf, cf, rfl, hbf, hltf, hlef, hCf, htyf, hcf⟩ := raw_at hR (by simp)
  have HV := Aside0.mk hv
  have HR := Aside0.mk hR
  have HBF := Aside0.mk hbf
  have H := Aside0.mk h
  have HTF := Aside0.mk htyf
  have HCC := Aside0.mk hcf
  have HTL := Aside0.mk hty
  have HC := Aside0.mk hC
  have HNO := Aside0.mk (fun W h => none_calls sb (.slice (some ⟨gf, 0, none⟩) 2 cf) W h)
  have HDO := Aside0.mk (done_calls k nm (some ⟨gl, 0, none⟩) m cl 0 (.slice A4 n4 c4) ⟨_, _, _, rfl⟩ false (decide_eq_false (by omega)))
  have hu68 := Tryd.underlying68
  have hu34 := Tryd.underlying34
  have hcf1 : (2 ≤ cf) = True := eq_true hlef
  have hcf2 : ((2 : Int) ≤ (cf : Int)) = True := eq_true (by have h9 : 2 ≤ cf := hlef; omega)
  have hm1 : (1 ≤ cl) = True := eq_true (by omega)
  have hm3 : (cl = 0) = False := eq_false (by omega)
  have hm2 : ((1 : Int) ≤ (cl : Int)) = True := eq_true (by omega)
  obtain ⟨csf, hcsf⟩ := htyf
  have HF := Aside0.mk hcsf
  have fc : ∀ j u, (fr k nm (.slice (some ⟨gl, 0, none⟩) m cl) 0 (.slice A4 n4 c4))[j]? = some u → csf[5 + j]? = some u := fun j u hu => by
    have h9 := (hcf 1 _ rfl j u hu).1
    rw [Nat.one_mul, blk_cell hcsf (5 + j)] at h9
    exact h9
  have FC := Aside0.mk fc
  have HNE := Aside0.mk (blk_ne hcsf hv (by decide))
  have HX := Aside0.mk (fun W h => own1 ⟨gl, 0, none⟩ cl x W h)
  have HLX := Aside0.mk hx
  have sA : ∀ o, (w.alloc o).cell? ⟨sb, 0, none⟩ = some (.slice (some ⟨gf, 0, none⟩) 2 cf) := fun o => (blk_cell (blk_alloc HV.out o) 0).trans rfl
  have f0 : ∀ o, (w.alloc o).cell? ⟨gf, 5, none⟩ = some (.int .i64 k) := fun o => (blk_cell (blk_alloc hcsf o) 5).trans (fc 0 _ rfl)
  have f1 : ∀ o, (w.alloc o).cell? ⟨gf, 6, none⟩ = some (.string nm) := fun o => (blk_cell (blk_alloc hcsf o) 6).trans (fc 1 _ rfl)
  have f2 : ∀ o, (w.alloc o).cell? ⟨gf, 7, none⟩ = some (.slice (some ⟨gl, 0, none⟩) m cl) := fun o => (blk_cell (blk_alloc hcsf o) 7).trans (fc 2 _ rfl)
  have f3 : ∀ o, (w.alloc o).cell? ⟨gf, 8, none⟩ = some (.int .i64 0) := fun o => (blk_cell (blk_alloc hcsf o) 8).trans (fc 3 _ rfl)
  have f4 : ∀ o, (w.alloc o).cell? ⟨gf, 9, none⟩ = some (.slice A4 n4 c4) := fun o => (blk_cell (blk_alloc hcsf o) 9).trans (fc 4 _ rfl)
  clear h hv hR hbf hltf hlef hCf hcf hx hm hml hmc hC hty fc hcsf
  go_enter Tryd.func16, Tryd.ntmps16
  go_wp2_with (first | (go_at_call 31; refine (HNO.out _ (blk_alloc HV.out _)).mono ?_; rintro e w2 ⟨rfl, rfl⟩))
  go_loopg [4] 1 (fun kq v4 w' => v4 = .int .i64 2 ∧ w' = w.alloc (.cells #[.string ⟨#[]⟩, .bool false, .int .i64 0, .int .i64 0, .slice none 0 0] 34))
  case atStart => exact ⟨rfl, rfl⟩
  case round =>
    obtain ⟨rfl, rfl⟩ := hrel
    go_wp2_with (first | (go_at_call 37; refine (HDO.out _).mono ?_; rintro e w5 ⟨rfl, hb5⟩; have B5 := Aside0.mk hb5; have hf5 := blk_below (blk_alloc HF.out _) hb5; have hs5 := blk_below (blk_alloc HV.out _) hb5; have F5 := Aside0.mk hf5; have S5 := Aside0.mk hs5; have k53 : w5.cell? ⟨gf, 8, none⟩ = some (.int .i64 0) := (blk_cell hf5 8).trans (FC.out 3 _ rfl); have z53 : w5.frozen? ⟨gf, 8, none⟩ = false := blk_frozen hf5 8; have F6 := Aside0.mk (blk_set hf5 8 (.int .i64 1)); have S6 := Aside0.mk (blk_far (p := ⟨gf, 8, none⟩) hs5 HNE.out.symm (.int .i64 1)); have k60 := (blk_cell S6.out 0).trans (show _ = some (.slice (some ⟨gf, 0, none⟩) 2 cf) from rfl); have z60 := blk_frozen S6.out 0; clear hb5 hf5 hs5))
    have F9 := blk_far (p := ⟨sb, 0, none⟩) F6.out HNE.out (.slice (some ⟨gf, 0, none⟩) 2 cf)
    have S9 := Aside0.mk (blk_set S6.out 0 (.slice (some ⟨gf, 0, none⟩) 2 cf))
    have k92 := (blk_cell F9 7).trans (show _ = some (.slice (some ⟨gl, 0, none⟩) m cl) by rw [Array.getElem?_setIfInBounds_ne (by decide)]; exact FC.out 2 _ rfl)
    have k93 := (blk_cell F9 8).trans (show _ = some (.int .i64 1) by rw [Array.getElem?_setIfInBounds_self_of_lt (by have h9 := FC.out 3 _ rfl; obtain ⟨h8, _⟩ := Array.getElem?_eq_some_iff.1 h9; exact h8)])
    have KL5 : KL w w5 := (KL.of_below (below_alloc (Below.refl w.heap.size w) (.cells #[.string ⟨#[]⟩, .bool false, .int .i64 0, .int .i64 0, .slice none 0 0] 34))).trans (KL.of_below B5.out)
    have KL9 := (KL5.set (p := ⟨gf, 8, none⟩) F5.out (by decide) (.int .i64 1)).set (p := ⟨sb, 0, none⟩) S6.out (by decide) (.slice (some ⟨gf, 0, none⟩) 2 cf)
    have Z5 := blk_below (blk_new w (.cells #[.string ⟨#[]⟩, .bool false, .int .i64 0, .int .i64 0, .slice none 0 0] 34)) B5.out
    have N1 : w.heap.size ≠ gf := fun e => by obtain h8 := blk_lt HF.out; omega
    have N2 : w.heap.size ≠ sb := fun e => by obtain h8 := blk_lt HV.out; omega
    have Z9 := Aside0.mk (blk_far (p := ⟨sb, 0, none⟩) (blk_far (p := ⟨gf, 8, none⟩) Z5 N1 (.int .i64 1)) N2 (.slice (some ⟨gf, 0, none⟩) 2 cf))
    have KL9 := Aside0.mk KL9
    have F9 := Aside0.mk F9
    obtain ⟨csl, hcl⟩ := HTL.out
    have C9 := Aside0.mk (line_at (C_move HC.out ((KL9.out gl csl hcl).trans hcl.symm)) 0 x HLX.out)
    obtain ⟨W9, hW9⟩ : ∃ W9, ((w5.setCell ⟨gf, 8, none⟩ (.int .i64 1)).setCell ⟨sb, 0, none⟩ (.slice (some ⟨gf, 0, none⟩) 2 cf)) = W9 := ⟨_, rfl⟩
    rw [hW9] at k92 k93 F9 S9 KL9 Z9 C9 ⊢
    clear Z5 KL5 hcl
    refine wp_region_still_tail 13 (by kernel_rfl) (by kernel_rfl) ?_
    simp only [List.take_succ_cons, List.take_zero, List.drop_succ_cons, List.drop_zero]
    repeat still_step
    refine wpStill_nil ?_
    go_wp2_with (first | (go_at_call 35; refine (HX.out _ (Kd.C_drew C9.out)).mono ?_; rintro e w11 ⟨v11, rfl, hr11, hb11⟩; obtain ⟨g11, c11, rfl, hbg, hlt, hle, hC11, hty11, hc11⟩ := raw_at hr11 (by simp); have B11 := Aside0.mk hb11; have q0 := (hc11 0 _ rfl 0 _ rfl).1; have q1 := (hc11 0 _ rfl 1 _ rfl).1; have q2 := (hc11 0 _ rfl 2 _ rfl).1; have q3 := (hc11 0 _ rfl 3 _ rfl).1; have q4 := (hc11 0 _ rfl 4 _ rfl).1; have Z11 := Aside0.mk (blk_below (blk_drew Z9.out) hb11); have p0 : w11.cell? ⟨w.heap.size, 0, none⟩ = some (.string ⟨#[]⟩) := (blk_cell Z11.out 0).trans rfl; have y0 : w11.frozen? ⟨w.heap.size, 0, none⟩ = false := blk_frozen Z11.out 0; have p1 : w11.cell? ⟨w.heap.size, 1, none⟩ = some (.bool false) := (blk_cell Z11.out 1).trans rfl; have y1 : w11.frozen? ⟨w.heap.size, 1, none⟩ = false := blk_frozen Z11.out 1; have p2 : w11.cell? ⟨w.heap.size, 2, none⟩ = some (.int .i64 0) := (blk_cell Z11.out 2).trans rfl; have y2 : w11.frozen? ⟨w.heap.size, 2, none⟩ = false := blk_frozen Z11.out 2; have p3 : w11.cell? ⟨w.heap.size, 3, none⟩ = some (.int .i64 0) := (blk_cell Z11.out 3).trans rfl; have y3 : w11.frozen? ⟨w.heap.size, 3, none⟩ = false := blk_frozen Z11.out 3; have p4 : w11.cell? ⟨w.heap.size, 4, none⟩ = some (.slice none 0 0) := (blk_cell Z11.out 4).trans rfl; have y4 : w11.frozen? ⟨w.heap.size, 4, none⟩ = false := blk_frozen Z11.out 4; clear hr11 hb11 hbg hlt hle hC11 hty11 hc11))
    refine bodyPost_ret (results_ct rfl _ _ w.heap.size 34 (ln x).toArray (0, 0) _ rfl (five_at (x := x) Z11.out) Tryd.underlying34 rfl (by kernel_rfl)) rfl ?_
    have bA := below_alloc (Below.refl w.heap.size w) (.cells #[.string ⟨#[]⟩, .bool false, .int .i64 0, .int .i64 0, .slice none 0 0] 34)
    have b5 : Below w.heap.size w w5 := bA.trans (B5.out.mono bA.size)
    have b5B : Below B w w5 := b5.mono H.out.hB
    have b9 : Below B w W9 := by rw [← hW9]; exact (b5B.setCell (p := ⟨gf, 8, none⟩) HBF.out _).setCell (p := ⟨sb, 0, none⟩) H.out.hs _
    have b11 : Below B w w11 := (below_drew1 b9).trans (B11.out.mono (show B ≤ W9.drew.heap.size from Nat.le_trans H.out.hB b9.size))
    have r5 := Kd.R_below HR.out b5
    have r6 := raw_put r5 1 k nm (.slice (some ⟨gl, 0, none⟩) m cl) 0 1 (.slice A4 n4 c4) rfl rfl rfl
    have r9 : (Kd.raw 5).R 68 W9 B (fun k => k ≠ sb) (.slice (some ⟨gf, 0, none⟩) 2 cf) [F0, fr k nm (.slice (some ⟨gl, 0, none⟩) m cl) 1 (.slice A4 n4 c4)] := by rw [← hW9]; exact Kd.R_far (p := ⟨sb, 0, none⟩) r6 (fun k hk => hk) _
    have r11 := Kd.R_below (Kd.R_drew r9) B11.out
    have s11 := blk_below (blk_drew S9.out) B11.out
    have n1 : gf ≠ w.heap.size := fun e => by have h8 := blk_lt HF.out; omega
    have n2 : sb ≠ w.heap.size := fun e => by have h8 := blk_lt HV.out; omega
    refine ⟨rfl, ⟨⟨_, (five_far w11 w.heap.size x sb n2).trans s11, raw_kept r11 (fun k hk => ?_)⟩, (five_below b11 H.out.hB).size |> Nat.le_trans H.out.hB, H.out.hs⟩, ?_, five_below b11 H.out.hB⟩
    · obtain rfl : gf = k := by simpa [Value.ownBlock] using hk
      exact five_far w11 w.heap.size x gf n1
    · intro k cs hk
      have h7 : k ≠ w.heap.size := fun e => by have h8 := blk_lt hk; omega
      exact (five_far w11 w.heap.size x k h7).trans (blk_below (blk_drew (KL9.out k cs hk)) B11.out)
end Go.Proofs.YtagadehcbpoihaaDoor.Sane5
