/- push, of a second frame. -/
import Derived.Test.YtagadehcbpoihaaDoorFPushSl
import Derived.Deep.RegionLaw
namespace Go.Proofs.YtagadehcbpoihaaDoor.Sane5
open Go.RowKit Go.Proofs.YtagadehcbpoihaaDoorW.PrintWords Go.Proofs.YtagadehcbpoihaaDoorW.PrintLast Go.Proofs.YtagadehcbpoihaaDoorW.PrintMore Go.Proofs.YtagadehcbpoihaaDoorN Go.Proofs.YtagadehcbpoihaaDoor.Str Go.Proofs.YtagadehcbpoihaaDoor.QSl
set_option linter.unusedVariables false
set_option linter.unusedSimpArgs false
structure Mid (sb B gf cf : Nat) (F1 : List Value) (v5 : Value) (w W : World) : Prop where
  hO : (Kd.raw 5).R 68 W B (fun k => k ≠ sb) v5 [F1]
  hF : ∀ k, W.heap.size ≤ k → k ≠ sb
  hB : Below B w W
  hS : B ≤ W.heap.size
  hV : W.heap[sb]? = some (.cells #[.slice (some ⟨gf, 0, none⟩) 1 cf, .bool true] 56 (0, 0))
  hK : Kept w W (fun k => k = sb)
  hN : ∀ k, v5.ownBlock = some k → k = sb ∨ w.heap.size ≤ k
theorem mid_of {sb B gf cf : Nat} {F1 : List Value} {v5 : Value} {w W w5 : World} (h1 : Below B w W) (h2 : B ≤ W.heap.size) (h3 : W.heap[sb]? = some (.cells #[.slice (some ⟨gf, 0, none⟩) 1 cf, .bool true] 56 (0, 0))) (h4 : w.heap.size ≤ W.heap.size) (h5 : Kept w W (fun k => k = sb))
    (hr5 : (Kd.raw 5).R 68 w5 W.heap.size (fun _ => True) v5 [F1]) (hb5 : Below W.heap.size W w5) : Mid sb B gf cf F1 v5 w w5 :=
  ⟨Kd.R_mono (Kd.R_lower (Kd.R_bound hr5) h2) (fun k hk => Nat.ne_of_gt (Nat.lt_of_lt_of_le (blk_lt h3) hk.2.1)), fun k hk => Nat.ne_of_gt (Nat.lt_of_lt_of_le (blk_lt (blk_below h3 hb5)) hk), h1.trans (hb5.mono h2), Nat.le_trans h2 hb5.size, blk_below h3 hb5, h5.below hb5, fun k hk => Or.inr (Nat.le_trans h4 (Kd.R_base hr5 k hk))⟩
theorem Mid.alloc {sb B gf cf : Nat} {F1 : List Value} {v5 : Value} {w W : World} (h : Mid sb B gf cf F1 v5 w W) (o : Obj) : Mid sb B gf cf F1 v5 w (W.alloc o) :=
  ⟨Kd.R_alloc h.hO o, fun k hk => h.hF k (Nat.le_trans (below_alloc (Below.refl W.heap.size W) o).size hk), h.hB.trans ((below_alloc (Below.refl W.heap.size W) o).mono h.hS), Nat.le_trans h.hS (below_alloc (Below.refl W.heap.size W) o).size, blk_alloc h.hV o, h.hK.alloc o, h.hN⟩
set_option maxHeartbeats 4000000 in
set_option maxRecDepth 100000 in
theorem push1 (sb B : Nat) (a0 : Int) (a1 : ByteArray) (a2 : Value) (a3 : Int) (a4 : Value) (h2 : ∃ A n c, a2 = .slice A n c) (h4 : ∃ A n c, a4 = .slice A n c) (F1 : List Value) (kk : Int) (hk1 : F1[0]? = some (.int .i64 kk)) (hk3 : ¬ kk = 3) (w : World) (h : Stk sb B [F1] w) :
    Calls Tryd.prog 34 #[.pointer (some ⟨sb, 0, none⟩), .agg (fr a0 a1 a2 a3 a4).toArray] w fun e w' => e = .returned (.int .i64 0) ∧ Stk sb B [F1, fr a0 a1 a2 a3 a4] w' ∧ Kept w w' (fun k => k = sb) ∧ Below B w w' := by
  obtain ⟨A2, n2, c2, rfl⟩ := h2
  obtain ⟨A4, n4, c4, rfl⟩ := h4
  have H := Aside0.mk h
  obtain ⟨v, hv, hR⟩ := h.st
  obtain ⟨gf, cf, rfl, hbf, hltf, hlef, hCf, htyf, hcf⟩ := raw_at hR (by simp)
  have hkf : w.cell? ⟨gf, 0, none⟩ = some (.int .i64 kk) := (hcf 0 F1 rfl 0 _ hk1).1
  have HV := Aside0.mk hv
  have HRF := Aside0.mk hR
  have HKF := Aside0.mk hkf
  have HCF := Aside0.mk hCf
  have HLF := Aside0.mk hlef
  have c3 : ((kk == 3) : Bool) = false := beq_eq_false_iff_ne.2 hk3
  have hu68 := Tryd.underlying68
  have h1 := Aside0.mk (show ∀ u ∈ fr a0 a1 (.slice A2 n2 c2) a3 (.slice A4 n4 c4), u.oneCell' = true by
    intro u hu
    simp only [fr, List.mem_cons, List.not_mem_nil, or_false] at hu
    rcases hu with rfl | rfl | rfl | rfl | rfl <;> rfl)
  clear h hv hR hbf hltf hlef hCf htyf hcf hkf hk1 hk3
  go_enter Tryd.func34, Tryd.ntmps34
  go_wp2_with (first | ((with_reducible refine gate_dst (N := 3) rfl ?_); refine box_event ?hg (N := 3) ?hd (cs := (fr a0 a1 (.slice A2 n2 c2) a3 (.slice A4 n4 c4)).toArray) (t := 68) ?hr ?_; (case hd => rfl); (case hg => rfl); (case hr => first | (go_simp; done) | (go_simp; rfl)); intro gb hg w3 hbox hb; have X3 := Aside0.mk hbox; have V3 := Aside0.mk (blk_below HV.out hb); have B3 := Aside0.mk (hb.mono H.out.hB); have K3 := Aside0.mk (Kept.of_below hb (fun k => k = sb)); have S3 := Aside0.mk (Nat.le_trans H.out.hB hb.size); have k0 : w3.cell? ⟨gb, 0, none⟩ = some (.int .i64 a0) := (blk_cell hbox 0).trans rfl; have k1 : w3.cell? ⟨gb, 1, none⟩ = some (.string a1) := (blk_cell hbox 1).trans rfl; have k2 : w3.cell? ⟨gb, 2, none⟩ = some (.slice A2 n2 c2) := (blk_cell hbox 2).trans rfl; have k3 : w3.cell? ⟨gb, 3, none⟩ = some (.int .i64 a3) := (blk_cell hbox 3).trans rfl; have k4 : w3.cell? ⟨gb, 4, none⟩ = some (.slice A4 n4 c4) := (blk_cell hbox 4).trans rfl; have s0 : w3.cell? ⟨sb, 0, none⟩ = some (.slice (some ⟨gf, 0, none⟩) 1 cf) := (blk_cell V3.out 0).trans rfl; have kf3 : w3.cell? ⟨gf, 0, none⟩ = some (.int .i64 kk) := (hb.cell (World.block_lt_of_cell? w _ HKF.out)).trans HKF.out; have C3 := Aside0.mk (Kd.C_below HCF.out hb); have hcf1 : (1 ≤ cf) = True := eq_true HLF.out; have hcf2 : ((1 : Int) ≤ (cf : Int)) = True := eq_true (by have h9 : 1 ≤ cf := HLF.out; omega); have sA : ∀ o, (w3.alloc o).cell? ⟨sb, 0, none⟩ = some (.slice (some ⟨gf, 0, none⟩) 1 cf) := fun o => (blk_cell (blk_alloc V3.out o) 0).trans rfl; clear hbox hb hg))
  go_loopg [5] 1 (fun kq v5 w' => v5 = .int .i64 1 ∧ w' = w3)
  case atStart => exact ⟨rfl, rfl⟩
  case round =>
    obtain ⟨rfl, rfl⟩ := hrel
    go_wp2
    have HCL := Aside0.mk (fun W hC => clone51 ⟨gf, 0, none⟩ 1 cf [F1] W hC (by decide))
    have HA := Aside0.mk (show Below B w wr.drew ∧ B ≤ wr.drew.heap.size ∧ wr.drew.heap[sb]? = some (.cells #[.slice (some ⟨gf, 0, none⟩) 1 cf, .bool true] 56 (0, 0)) ∧ w.heap.size ≤ wr.drew.heap.size ∧ Kept w wr.drew (fun k => k = sb) from ⟨below_drew1 B3.out, S3.out, V3.out, K3.out.1, K3.out.drew⟩)
    have HB := Aside0.mk (show Below B w (wr.alloc (.cells (fr a0 a1 (.slice A2 n2 c2) a3 (.slice A4 n4 c4)).toArray 68)).drew ∧ B ≤ (wr.alloc (.cells (fr a0 a1 (.slice A2 n2 c2) a3 (.slice A4 n4 c4)).toArray 68)).drew.heap.size ∧ (wr.alloc (.cells (fr a0 a1 (.slice A2 n2 c2) a3 (.slice A4 n4 c4)).toArray 68)).drew.heap[sb]? = some (.cells #[.slice (some ⟨gf, 0, none⟩) 1 cf, .bool true] 56 (0, 0)) ∧ w.heap.size ≤ (wr.alloc (.cells (fr a0 a1 (.slice A2 n2 c2) a3 (.slice A4 n4 c4)).toArray 68)).drew.heap.size ∧ Kept w (wr.alloc (.cells (fr a0 a1 (.slice A2 n2 c2) a3 (.slice A4 n4 c4)).toArray 68)).drew (fun k => k = sb) from ⟨below_drew1 (B3.out.trans ((below_alloc (Below.refl wr.heap.size wr) _).mono S3.out)), Nat.le_trans S3.out (below_alloc (Below.refl wr.heap.size wr) _).size, blk_alloc V3.out _, Nat.le_trans K3.out.1 (below_alloc (Below.refl wr.heap.size wr) _).size, (K3.out.alloc _).drew⟩)
    have CA := Aside0.mk (show (Kd.raw 5).C wr.drew (some ⟨gf, 0, none⟩) 1 [F1] from Kd.C_drew C3.out)
    have CB := Aside0.mk (show (Kd.raw 5).C (wr.alloc (.cells (fr a0 a1 (.slice A2 n2 c2) a3 (.slice A4 n4 c4)).toArray 68)).drew (some ⟨gf, 0, none⟩) 1 [F1] from Kd.C_drew (Kd.C_alloc C3.out _))
    have XB := Aside0.mk (show (Kd.raw 5).C (wr.alloc (.cells (fr a0 a1 (.slice A2 n2 c2) a3 (.slice A4 n4 c4)).toArray 68)).drew (some ⟨wr.heap.size, 0, none⟩) 1 [(fr a0 a1 (.slice A2 n2 c2) a3 (.slice A4 n4 c4))] from Kd.C_drew (box_read wr _ rfl h1.out))
    go_region_law (first | (go_simp; go_at_call 51; refine (HCL.out _ CA.out).mono ?_; rintro e w5 ⟨v5, rfl, hr5, hb5⟩; obtain ⟨A5, c5, e5⟩ := Kd.R_slice hr5; subst e5; have M5 := Aside0.mk (mid_of HA.out.1 HA.out.2.1 HA.out.2.2.1 HA.out.2.2.2.1 HA.out.2.2.2.2 hr5 hb5); have Q5 := Aside0.mk (M5.out.alloc (.cells (fr a0 a1 (.slice A2 n2 c2) a3 (.slice A4 n4 c4)).toArray 68)); have XR := Aside0.mk (box_read w5 (fr a0 a1 (.slice A2 n2 c2) a3 (.slice A4 n4 c4)) rfl h1.out); have j0 := (blk_cell (blk_below (blk_drew X3.out) hb5) 0).trans (show _ = some (.int .i64 a0) from rfl); have j1 := (blk_cell (blk_below (blk_drew X3.out) hb5) 1).trans (show _ = some (.string a1) from rfl); have j2 := (blk_cell (blk_below (blk_drew X3.out) hb5) 2).trans (show _ = some (.slice A2 n2 c2) from rfl); have j3 := (blk_cell (blk_below (blk_drew X3.out) hb5) 3).trans (show _ = some (.int .i64 a3) from rfl); have j4 := (blk_cell (blk_below (blk_drew X3.out) hb5) 4).trans (show _ = some (.slice A4 n4 c4) from rfl); clear hr5 hb5) | (go_simp; go_at_call 51; refine (HCL.out _ CB.out).mono ?_; rintro e w5 ⟨v5, rfl, hr5, hb5⟩; obtain ⟨A5, c5, e5⟩ := Kd.R_slice hr5; subst e5; have M5 := Aside0.mk (mid_of HB.out.1 HB.out.2.1 HB.out.2.2.1 HB.out.2.2.2.1 HB.out.2.2.2.2 hr5 hb5); have Q5 := M5; have XR := Aside0.mk (Kd.C_below XB.out hb5); clear hr5 hb5) | (refine Kd.R_append_rows_step (Kd.raw 5) (w0 := w) B rfl (.tmp 47) (.tmp 49) 54 68 (.agg #[.int .i64 0, .string ⟨#[]⟩, .slice none 0 0, .int .i64 0, .slice none 0 0]) 80 rfl Tryd.underlying54 info51 rfl raw5 pb51 (.slice A5 [F1].length c5) [F1] [(fr a0 a1 (.slice A2 n2 c2) a3 (.slice A4 n4 c4))] _ _ _ (fun k => k ≠ sb) (fun _ => False) rfl rfl Q5.out.hO XR.out (fun _ _ h => h) (fun _ h => h.elim) Q5.out.hF Q5.out.hB Q5.out.hS (by simp) ?_; intro v6 w6 ho6 hb6 hg6 hat6; obtain ⟨A6, c6, e6⟩ := Kd.R_slice ho6; subst e6; have G6 := Aside0.mk (blk_grown Q5.out.hV hg6 (Kd.R_away Q5.out.hO (fun k hk => hk))); have O6 := Aside0.mk ho6; have B6 := Aside0.mk hb6; have K6 := Aside0.mk (Kept.of_grown hg6 Q5.out.hK Q5.out.hN); have S6 := Aside0.mk (Nat.le_trans Q5.out.hS hg6.size); have s6 : w6.cell? ⟨sb, 0, none⟩ = some (.slice (some ⟨gf, 0, none⟩) 1 cf) := (blk_cell G6.out 0).trans rfl; have z6 : w6.frozen? ⟨sb, 0, none⟩ = false := blk_frozen G6.out 0; clear ho6 hb6 hg6 hat6))
    all_goals
      go_wp2
      refine bodyPost_ret (results_tmp rfl _ _ _) rfl ?_
      refine ⟨rfl, ⟨⟨_, blk_put G6.out 0 _ rfl, Kd.R_far (p := ⟨sb, 0, none⟩) O6.out (fun k hk => hk) _⟩, ?_, H.out.hs⟩, K6.out.setCell (p := ⟨sb, 0, none⟩) (Or.inl rfl) _, B6.out.setCell H.out.hs _⟩
      have h5 := S6.out
      show B ≤ (w6.setCell ⟨sb, 0, none⟩ _).heap.size
      simp [World.setCell]
      omega
end Go.Proofs.YtagadehcbpoihaaDoor.Sane5
