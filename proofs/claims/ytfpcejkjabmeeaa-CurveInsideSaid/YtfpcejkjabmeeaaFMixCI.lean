/- The closure of curve.spline: what it makes of the five variables that it holds. Words for the walk of the spline. -/
import Derived.Test.YtfpcejkjabmeeaaFEllipseCI
namespace Go.Proofs.Ytfpcejkjabmeeaa.QCI
open Go.RowKit Go.Proofs.YtfpcejkjabmeeaaW.PrintWords Go.Proofs.YtfpcejkjabmeeaaW.PrintLast Go.Proofs.YtfpcejkjabmeeaaW.PrintMore Go.Proofs.Ytfpcejkjabmeeaa.FnVal
set_option linter.unusedVariables false
set_option linter.unusedSimpArgs false
def mixW (f i a b c : Int) : Int := wrap64 (wrap64 (wrap64 (wrap64 (wrap64 (f - i) * wrap64 (f - i)) * a) + wrap64 (wrap64 (wrap64 (2 * i) * wrap64 (f - i)) * b)) + wrap64 (wrap64 (i * i) * c))
def curve_spline_1.f (x f i a0 a1 b0 b1 c0 c1 : Int) : Option Int := if x = 0 then QCp.curve_floor.f (mixW f i a0 b0 c0) (wrap64 (f * f)) else if x = 1 then QCp.curve_floor.f (mixW f i a1 b1 c1) (wrap64 (f * f)) else none
set_option maxHeartbeats 8000000 in
set_option maxRecDepth 100000 in
theorem mix_at (x : Int) (j : Nat) (hx : x = (j : Int)) (hj : j = 0 ∨ j = 1) (gf gi ga gb gc : Nat) (f i a0 a1 b0 b1 c0 c1 r : Int) (W : World) (h : QCp.curve_floor.f (mixW f i (if j = 0 then a0 else a1) (if j = 0 then b0 else b1) (if j = 0 then c0 else c1)) (wrap64 (f * f)) = some r)
    (hf : W.heap[gf]? = some (.cells #[.int .i64 f] 3 (0, 0))) (hi : W.heap[gi]? = some (.cells #[.int .i64 i] 3 (0, 0))) (ha : W.heap[ga]? = some (.cells #[.int .i64 a0, .int .i64 a1] 28 (0, 0))) (hb : W.heap[gb]? = some (.cells #[.int .i64 b0, .int .i64 b1] 28 (0, 0))) (hc : W.heap[gc]? = some (.cells #[.int .i64 c0, .int .i64 c1] 28 (0, 0))) :
    Calls Try.prog 34 #[.int .i64 x, .pointer (some ⟨gf, 0, none⟩), .pointer (some ⟨gi, 0, none⟩), .pointer (some ⟨ga, 0, none⟩), .pointer (some ⟨gb, 0, none⟩), .pointer (some ⟨gc, 0, none⟩)] W fun e W' => e = .returned (.int .i64 r) ∧ Below W.heap.size W W' := by
  unfold mixW at h
  have H := Aside0.mk h
  have hu28 := Try.underlying28
  have cf : W.cell? ⟨gf, 0, none⟩ = some (.int .i64 f) := (blk_cell hf 0).trans rfl
  have ci : W.cell? ⟨gi, 0, none⟩ = some (.int .i64 i) := (blk_cell hi 0).trans rfl
  have ca0 : W.cell? ⟨ga, 0, none⟩ = some (.int .i64 a0) := (blk_cell ha 0).trans rfl
  have ca1 : W.cell? ⟨ga, 1, none⟩ = some (.int .i64 a1) := (blk_cell ha 1).trans rfl
  have cb0 : W.cell? ⟨gb, 0, none⟩ = some (.int .i64 b0) := (blk_cell hb 0).trans rfl
  have cb1 : W.cell? ⟨gb, 1, none⟩ = some (.int .i64 b1) := (blk_cell hb 1).trans rfl
  have cc0 : W.cell? ⟨gc, 0, none⟩ = some (.int .i64 c0) := (blk_cell hc 0).trans rfl
  have cc1 : W.cell? ⟨gc, 1, none⟩ = some (.int .i64 c1) := (blk_cell hc 1).trans rfl
  clear h hf hi ha hb hc
  rcases hj with rfl | rfl
  · subst hx
    simp only [if_true] at H
    obtain ⟨d1, h_d1⟩ : ∃ x, wrap64 (f - i) = x := ⟨_, rfl⟩
    rw [h_d1] at H
    obtain ⟨d2, h_d2⟩ : ∃ x, wrap64 (d1 * d1) = x := ⟨_, rfl⟩
    rw [h_d2] at H
    obtain ⟨m1, h_m1⟩ : ∃ x, wrap64 (d2 * a0) = x := ⟨_, rfl⟩
    rw [h_m1] at H
    obtain ⟨t1, h_t1⟩ : ∃ x, wrap64 (2 * i) = x := ⟨_, rfl⟩
    rw [h_t1] at H
    obtain ⟨t2, h_t2⟩ : ∃ x, wrap64 (t1 * d1) = x := ⟨_, rfl⟩
    rw [h_t2] at H
    obtain ⟨m2, h_m2⟩ : ∃ x, wrap64 (t2 * b0) = x := ⟨_, rfl⟩
    rw [h_m2] at H
    obtain ⟨s1, h_s1⟩ : ∃ x, wrap64 (m1 + m2) = x := ⟨_, rfl⟩
    rw [h_s1] at H
    obtain ⟨q1, h_q1⟩ : ∃ x, wrap64 (i * i) = x := ⟨_, rfl⟩
    rw [h_q1] at H
    obtain ⟨m3, h_m3⟩ : ∃ x, wrap64 (q1 * c0) = x := ⟨_, rfl⟩
    rw [h_m3] at H
    obtain ⟨s2, h_s2⟩ : ∃ x, wrap64 (s1 + m3) = x := ⟨_, rfl⟩
    rw [h_s2] at H
    obtain ⟨ff, h_ff⟩ : ∃ x, wrap64 (f * f) = x := ⟨_, rfl⟩
    rw [h_ff] at H
    have w_d1 := (i64_w _).trans h_d1
    have w_d2 := (i64_w _).trans h_d2
    have w_m1 := (i64_w _).trans h_m1
    have w_t1 := (i64_w _).trans h_t1
    have w_t2 := (i64_w _).trans h_t2
    have w_m2 := (i64_w _).trans h_m2
    have w_s1 := (i64_w _).trans h_s1
    have w_q1 := (i64_w _).trans h_q1
    have w_m3 := (i64_w _).trans h_m3
    have w_s2 := (i64_w _).trans h_s2
    have w_ff := (i64_w _).trans h_ff
    clear h_d1 h_d2 h_m1 h_t1 h_t2 h_m2 h_s1 h_q1 h_m3 h_s2 h_ff
    go_enter Try.func34, Try.ntmps34
    go_wp2_with (fail)
    refine wp_region_still_tail 33 (by kernel_rfl) (by kernel_rfl) ?_
    simp only [List.take_succ_cons, List.take_zero, List.drop_succ_cons, List.drop_zero]
    repeat still_step
    refine wpStill_nil ?_
    go_wp2_with (first | ((with_reducible refine gate_callee (f := 35) rfl ?_); refine goesL_ (some 41) rfl rfl Try.func35 (by kernel_rfl) rfl #[.int .i64 s2, .int .i64 ff] rfl (by (try simp only [List.map_toArray, List.map_cons, List.map_nil]); first | done | rfl) ?_; refine (QCp.curve_floor.calls s2 ff r _ H.out).mono ?_; rintro e w2 ⟨rfl, hd⟩; have HD := Aside0.mk hd; clear hd; refine ⟨_, rfl, ?_⟩))
    go_ret
    refine ⟨rfl, ?_⟩
    obtain ⟨⟨n, rfl⟩⟩ := HD.out
    first | exact pw_below_drewN (below_drew1 (Below.refl _ _)) n | exact pw_below_drewN (Below.refl _ _) n
  · subst hx
    simp only [show (1 = 0) = False from by simp, if_false] at H
    obtain ⟨d1, h_d1⟩ : ∃ x, wrap64 (f - i) = x := ⟨_, rfl⟩
    rw [h_d1] at H
    obtain ⟨d2, h_d2⟩ : ∃ x, wrap64 (d1 * d1) = x := ⟨_, rfl⟩
    rw [h_d2] at H
    obtain ⟨m1, h_m1⟩ : ∃ x, wrap64 (d2 * a1) = x := ⟨_, rfl⟩
    rw [h_m1] at H
    obtain ⟨t1, h_t1⟩ : ∃ x, wrap64 (2 * i) = x := ⟨_, rfl⟩
    rw [h_t1] at H
    obtain ⟨t2, h_t2⟩ : ∃ x, wrap64 (t1 * d1) = x := ⟨_, rfl⟩
    rw [h_t2] at H
    obtain ⟨m2, h_m2⟩ : ∃ x, wrap64 (t2 * b1) = x := ⟨_, rfl⟩
    rw [h_m2] at H
    obtain ⟨s1, h_s1⟩ : ∃ x, wrap64 (m1 + m2) = x := ⟨_, rfl⟩
    rw [h_s1] at H
    obtain ⟨q1, h_q1⟩ : ∃ x, wrap64 (i * i) = x := ⟨_, rfl⟩
    rw [h_q1] at H
    obtain ⟨m3, h_m3⟩ : ∃ x, wrap64 (q1 * c1) = x := ⟨_, rfl⟩
    rw [h_m3] at H
    obtain ⟨s2, h_s2⟩ : ∃ x, wrap64 (s1 + m3) = x := ⟨_, rfl⟩
    rw [h_s2] at H
    obtain ⟨ff, h_ff⟩ : ∃ x, wrap64 (f * f) = x := ⟨_, rfl⟩
    rw [h_ff] at H
    have w_d1 := (i64_w _).trans h_d1
    have w_d2 := (i64_w _).trans h_d2
    have w_m1 := (i64_w _).trans h_m1
    have w_t1 := (i64_w _).trans h_t1
    have w_t2 := (i64_w _).trans h_t2
    have w_m2 := (i64_w _).trans h_m2
    have w_s1 := (i64_w _).trans h_s1
    have w_q1 := (i64_w _).trans h_q1
    have w_m3 := (i64_w _).trans h_m3
    have w_s2 := (i64_w _).trans h_s2
    have w_ff := (i64_w _).trans h_ff
    clear h_d1 h_d2 h_m1 h_t1 h_t2 h_m2 h_s1 h_q1 h_m3 h_s2 h_ff
    go_enter Try.func34, Try.ntmps34
    go_wp2_with (fail)
    refine wp_region_still_tail 33 (by kernel_rfl) (by kernel_rfl) ?_
    simp only [List.take_succ_cons, List.take_zero, List.drop_succ_cons, List.drop_zero]
    repeat still_step
    refine wpStill_nil ?_
    go_wp2_with (first | ((with_reducible refine gate_callee (f := 35) rfl ?_); refine goesL_ (some 41) rfl rfl Try.func35 (by kernel_rfl) rfl #[.int .i64 s2, .int .i64 ff] rfl (by (try simp only [List.map_toArray, List.map_cons, List.map_nil]); first | done | rfl) ?_; refine (QCp.curve_floor.calls s2 ff r _ H.out).mono ?_; rintro e w2 ⟨rfl, hd⟩; have HD := Aside0.mk hd; clear hd; refine ⟨_, rfl, ?_⟩))
    go_ret
    refine ⟨rfl, ?_⟩
    obtain ⟨⟨n, rfl⟩⟩ := HD.out
    first | exact pw_below_drewN (below_drew1 (Below.refl _ _)) n | exact pw_below_drewN (Below.refl _ _) n
theorem mix_calls (x : Int) (gf gi ga gb gc : Nat) (f i a0 a1 b0 b1 c0 c1 r : Int) (W : World) (h : curve_spline_1.f x f i a0 a1 b0 b1 c0 c1 = some r)
    (hf : W.heap[gf]? = some (.cells #[.int .i64 f] 3 (0, 0))) (hi : W.heap[gi]? = some (.cells #[.int .i64 i] 3 (0, 0))) (ha : W.heap[ga]? = some (.cells #[.int .i64 a0, .int .i64 a1] 28 (0, 0))) (hb : W.heap[gb]? = some (.cells #[.int .i64 b0, .int .i64 b1] 28 (0, 0))) (hc : W.heap[gc]? = some (.cells #[.int .i64 c0, .int .i64 c1] 28 (0, 0))) :
    Calls Try.prog 34 #[.int .i64 x, .pointer (some ⟨gf, 0, none⟩), .pointer (some ⟨gi, 0, none⟩), .pointer (some ⟨ga, 0, none⟩), .pointer (some ⟨gb, 0, none⟩), .pointer (some ⟨gc, 0, none⟩)] W fun e W' => e = .returned (.int .i64 r) ∧ Below W.heap.size W W' := by
  unfold curve_spline_1.f at h
  by_cases h0 : x = 0
  · rw [if_pos h0] at h
    exact mix_at x 0 h0 (Or.inl rfl) gf gi ga gb gc f i a0 a1 b0 b1 c0 c1 r W h hf hi ha hb hc
  · rw [if_neg h0] at h
    by_cases h1 : x = 1
    · rw [if_pos h1] at h
      exact mix_at x 1 h1 (Or.inr rfl) gf gi ga gb gc f i a0 a1 b0 b1 c0 c1 r W h hf hi ha hb hc
    · rw [if_neg h1] at h
      cases h
/-! ### words for the spline's walk -/
def CX (ad : Addr) (l : List S28) (i j k : Int) (w' : World) : Prop := w'.cell? (ad.add (((i)).toNat * 2)) = some (.int .i64 ((rd_T28 l (i)).f0)) ∧ w'.cell? ⟨(ad.add (((i)).toNat * 2)).block, (ad.add (((i)).toNat * 2)).off + 1, none⟩ = some (.int .i64 ((rd_T28 l (i)).f1)) ∧ w'.cell? (ad.add ((j).toNat * 2)) = some (.int .i64 ((rd_T28 l j).f0)) ∧ w'.cell? ⟨(ad.add ((j).toNat * 2)).block, (ad.add ((j).toNat * 2)).off + 1, none⟩ = some (.int .i64 ((rd_T28 l j).f1)) ∧ w'.cell? (ad.add ((j).toNat * 2)) = some (.int .i64 ((rd_T28 l j).f0)) ∧ w'.cell? ⟨(ad.add ((j).toNat * 2)).block, (ad.add ((j).toNat * 2)).off + 1, none⟩ = some (.int .i64 ((rd_T28 l j).f1)) ∧ w'.cell? (ad.add ((j).toNat * 2)) = some (.int .i64 ((rd_T28 l j).f0)) ∧ w'.cell? ⟨(ad.add ((j).toNat * 2)).block, (ad.add ((j).toNat * 2)).off + 1, none⟩ = some (.int .i64 ((rd_T28 l j).f1)) ∧ w'.cell? (ad.add (((k)).toNat * 2)) = some (.int .i64 ((rd_T28 l (k)).f0)) ∧ w'.cell? ⟨(ad.add (((k)).toNat * 2)).block, (ad.add (((k)).toNat * 2)).off + 1, none⟩ = some (.int .i64 ((rd_T28 l (k)).f1))
def SX (w0 : World) (ad : Addr) (l : List S28) (i j k : Int) (w' : World) : Prop := Below w0.heap.size w0 w' ∧ CX ad l i j k w'
theorem SX.of {w0 : World} {ad : Addr} {l : List S28} {i j k : Int} {w' : World} (hc : CX ad l i j k w0) (B : Below w0.heap.size w0 w') : SX w0 ad l i j k w' :=
  ⟨B, (B.cell (World.block_lt_of_cell? _ _ hc.1)).trans hc.1, (B.cell (World.block_lt_of_cell? _ _ hc.2.1)).trans hc.2.1, (B.cell (World.block_lt_of_cell? _ _ hc.2.2.1)).trans hc.2.2.1, (B.cell (World.block_lt_of_cell? _ _ hc.2.2.2.1)).trans hc.2.2.2.1, (B.cell (World.block_lt_of_cell? _ _ hc.2.2.2.2.1)).trans hc.2.2.2.2.1, (B.cell (World.block_lt_of_cell? _ _ hc.2.2.2.2.2.1)).trans hc.2.2.2.2.2.1, (B.cell (World.block_lt_of_cell? _ _ hc.2.2.2.2.2.2.1)).trans hc.2.2.2.2.2.2.1, (B.cell (World.block_lt_of_cell? _ _ hc.2.2.2.2.2.2.2.1)).trans hc.2.2.2.2.2.2.2.1, (B.cell (World.block_lt_of_cell? _ _ hc.2.2.2.2.2.2.2.2.1)).trans hc.2.2.2.2.2.2.2.2.1, (B.cell (World.block_lt_of_cell? _ _ hc.2.2.2.2.2.2.2.2.2)).trans hc.2.2.2.2.2.2.2.2.2⟩
/-- Which of the three boxes are there. -/
structure FX (w0 : World) (b1 b2 b3 : Bool) (s : Nat × Nat × Nat) (w' : World) : Prop where
  B : Below w0.heap.size w0 w'
  k1 : b1 = true → w'.heap[s.1]? = some (.cells #[.int .i64 0, .int .i64 0] 28 (0, 0)) ∧ w0.heap.size ≤ s.1
  k2 : b2 = true → w'.heap[s.2.1]? = some (.cells #[.int .i64 0, .int .i64 0] 28 (0, 0)) ∧ w0.heap.size ≤ s.2.1
  k3 : b3 = true → w'.heap[s.2.2]? = some (.cells #[.int .i64 0, .int .i64 0] 28 (0, 0)) ∧ w0.heap.size ≤ s.2.2
  n12 : b1 = true → b2 = true → s.1 ≠ s.2.1
  n13 : b1 = true → b3 = true → s.1 ≠ s.2.2
  n23 : b2 = true → b3 = true → s.2.1 ≠ s.2.2
section
variable {w0 w1 w2 : World} {b1 b2 b3 : Bool} {s : Nat × Nat × Nat} {g : Nat}
theorem FX.call (h : FX w0 b1 b2 b3 s w1) (hb : Below w1.heap.size w1 w2) : FX w0 b1 b2 b3 s w2 :=
  ⟨below_step h.B hb, fun c => ⟨blk_below (h.k1 c).1 hb, (h.k1 c).2⟩, fun c => ⟨blk_below (h.k2 c).1 hb, (h.k2 c).2⟩, fun c => ⟨blk_below (h.k3 c).1 hb, (h.k3 c).2⟩, h.n12, h.n13, h.n23⟩
theorem FX.new1 (h : FX w0 false b2 b3 s w1) (hg : g = w1.heap.size) (hbox : w2.heap[g]? = some (.cells #[.int .i64 0, .int .i64 0] 28 (0, 0))) (hb : Below w1.heap.size w1 w2) : FX w0 true b2 b3 (g, s.2) w2 :=
  ⟨below_step h.B hb, fun _ => ⟨hbox, hg ▸ below_size h.B⟩, fun c => ⟨blk_below (h.k2 c).1 hb, (h.k2 c).2⟩, fun c => ⟨blk_below (h.k3 c).1 hb, (h.k3 c).2⟩, fun _ c => hg ▸ Nat.ne_of_gt (blk_lt (h.k2 c).1), fun _ c => hg ▸ Nat.ne_of_gt (blk_lt (h.k3 c).1), h.n23⟩
theorem FX.new2 (h : FX w0 b1 false b3 s w1) (hg : g = w1.heap.size) (hbox : w2.heap[g]? = some (.cells #[.int .i64 0, .int .i64 0] 28 (0, 0))) (hb : Below w1.heap.size w1 w2) : FX w0 b1 true b3 (s.1, g, s.2.2) w2 :=
  ⟨below_step h.B hb, fun c => ⟨blk_below (h.k1 c).1 hb, (h.k1 c).2⟩, fun _ => ⟨hbox, hg ▸ below_size h.B⟩, fun c => ⟨blk_below (h.k3 c).1 hb, (h.k3 c).2⟩, fun c _ => hg ▸ Nat.ne_of_lt (blk_lt (h.k1 c).1), h.n13, fun _ c => hg ▸ Nat.ne_of_gt (blk_lt (h.k3 c).1)⟩
theorem FX.new3 (h : FX w0 b1 b2 false s w1) (hg : g = w1.heap.size) (hbox : w2.heap[g]? = some (.cells #[.int .i64 0, .int .i64 0] 28 (0, 0))) (hb : Below w1.heap.size w1 w2) : FX w0 b1 b2 true (s.1, s.2.1, g) w2 :=
  ⟨below_step h.B hb, fun c => ⟨blk_below (h.k1 c).1 hb, (h.k1 c).2⟩, fun c => ⟨blk_below (h.k2 c).1 hb, (h.k2 c).2⟩, fun _ => ⟨hbox, hg ▸ below_size h.B⟩, h.n12, fun c _ => hg ▸ Nat.ne_of_lt (blk_lt (h.k1 c).1), fun c _ => hg ▸ Nat.ne_of_lt (blk_lt (h.k2 c).1)⟩
theorem FX.start (w0 : World) (s : Nat × Nat × Nat) : FX w0 false false false s w0 := ⟨Below.refl _ _, nofun, nofun, nofun, nofun, nofun, nofun⟩
end
/-- What stands in memory within the innermost loop. -/
structure SI (w W : World) (gf ga gb gc : Nat) (f a0 a1 b0 b1 c0 c1 : Int) (v5 v7 : Value) (x5 x7 : List S28) : Prop where
  o5 : Kd.R k28 28 W w.heap.size (fun k => some k ≠ v7.ownBlock ∧ k ≠ ga ∧ k ≠ gb ∧ k ≠ gc) v5 x5
  o7 : Kd.R k28 28 W w.heap.size (fun k => some k ≠ v5.ownBlock ∧ k ≠ ga ∧ k ≠ gb ∧ k ≠ gc) v7 x7
  bf : W.heap[gf]? = some (.cells #[.int .i64 f] 3 (0, 0))
  ba : W.heap[ga]? = some (.cells #[.int .i64 a0, .int .i64 a1] 28 (0, 0))
  bb : W.heap[gb]? = some (.cells #[.int .i64 b0, .int .i64 b1] 28 (0, 0))
  bc : W.heap[gc]? = some (.cells #[.int .i64 c0, .int .i64 c1] 28 (0, 0))
  B : Below w.heap.size w W
section
variable {w W W' : World} {gf ga gb gc gi : Nat} {f a0 a1 b0 b1 c0 c1 : Int} {v5 v7 v' : Value} {x5 x7 x' : List S28} {cs : Array Value}
theorem SI.below (h : SI w W gf ga gb gc f a0 a1 b0 b1 c0 c1 v5 v7 x5 x7) (hb : Below W.heap.size W W') : SI w W' gf ga gb gc f a0 a1 b0 b1 c0 c1 v5 v7 x5 x7 :=
  ⟨Kd.R_below h.o5 hb, Kd.R_below h.o7 hb, blk_below h.bf hb, blk_below h.ba hb, blk_below h.bb hb, blk_below h.bc hb, below_step h.B hb⟩
theorem SI.setI (h : SI w W gf ga gb gc f a0 a1 b0 b1 c0 c1 v5 v7 x5 x7) (hi : W.heap[gi]? = some (.cells cs 3 (0, 0))) (hne : gf ≠ gi) (hge : w.heap.size ≤ gi) (u : Value) : SI w (W.setCell ⟨gi, 0, none⟩ u) gf ga gb gc f a0 a1 b0 b1 c0 c1 v5 v7 x5 x7 :=
  ⟨Kd.R_mono (Kd.R_far (p := ⟨gi, 0, none⟩) (Kd.R_types h.o5 hi (by decide)) (fun _ hk => hk.2) u) (fun _ hk => hk.1), Kd.R_mono (Kd.R_far (p := ⟨gi, 0, none⟩) (Kd.R_types h.o7 hi (by decide)) (fun _ hk => hk.2) u) (fun _ hk => hk.1),
    blk_far h.bf (p := ⟨gi, 0, none⟩) hne u, blk_far h.ba (p := ⟨gi, 0, none⟩) (blk_ne h.ba hi (by decide)) u, blk_far h.bb (p := ⟨gi, 0, none⟩) (blk_ne h.bb hi (by decide)) u, blk_far h.bc (p := ⟨gi, 0, none⟩) (blk_ne h.bc hi (by decide)) u, below_set h.B hge⟩
theorem SI.app (h : SI w W gf ga gb gc f a0 a1 b0 b1 c0 c1 v5 v7 x5 x7) (hg : W.grownBy W' v7.ownBlock) (hat : v'.ownBlock = v7.ownBlock ∨ ∃ b, v'.ownBlock = some b ∧ W.heap.size ≤ b) (ho : Kd.R k28 28 W' w.heap.size (fun k => some k ≠ v5.ownBlock ∧ k ≠ ga ∧ k ≠ gb ∧ k ≠ gc) v' x') (hb : Below w.heap.size w W') : SI w W' gf ga gb gc f a0 a1 b0 b1 c0 c1 v5 v' x5 x' :=
  ⟨Kd.R_mono (Kd.R_after (ok := fun k => k ≠ ga ∧ k ≠ gb ∧ k ≠ gc) (Kd.R_mono h.o5 (fun _ hk => ⟨hk.2, hk.1⟩)) hg hat) (fun _ hk => ⟨hk.2, hk.1⟩), ho, blk_grown h.bf hg (Kd.R_ne h.o7 h.bf (by decide)), blk_grown h.ba hg (Kd.R_away h.o7 (fun _ hk => hk.2.1)), blk_grown h.bb hg (Kd.R_away h.o7 (fun _ hk => hk.2.2.1)), blk_grown h.bc hg (Kd.R_away h.o7 (fun _ hk => hk.2.2.2)), hb⟩
theorem SI.fresh (h : SI w W gf ga gb gc f a0 a1 b0 b1 c0 c1 v5 v7 x5 x7) : ∀ k, W.heap.size ≤ k → some k ≠ v5.ownBlock ∧ k ≠ ga ∧ k ≠ gb ∧ k ≠ gc :=
  fun k hk => ⟨Kd.fresh' (Kd.R_lt h.o5) k hk, Kd.freshB h.ba k hk, Kd.freshB h.bb k hk, Kd.freshB h.bc k hk⟩
end
end Go.Proofs.Ytfpcejkjabmeeaa.QCI
