/- The points of an oval: what curve.ellipse makes, its four turns of a quarter among it. -/
import Derived.Test.YtfpcejkjabmeeaaFNoneCI
import Derived.Test.YtfpcejkjabmeeaaQCpx1
import Derived.StillTailTactics
namespace Go.Proofs.Ytfpcejkjabmeeaa.QCI
open Go.RowKit Go.Proofs.YtfpcejkjabmeeaaW.PrintWords Go.Proofs.YtfpcejkjabmeeaaW.PrintLast Go.Proofs.YtfpcejkjabmeeaaW.PrintMore Go.Proofs.Ytfpcejkjabmeeaa.FnVal
set_option linter.unusedVariables false
set_option linter.unusedSimpArgs false
def den (n i : Int) : Int := wrap64 (wrap64 (n * n) + wrap64 (i * i))
def qX (a n i : Int) : Int := wrap64 (Int.tdiv (wrap64 (a * wrap64 (wrap64 (n * n) - wrap64 (i * i)))) (den n i))
def qY (b n i : Int) : Int := wrap64 (Int.tdiv (wrap64 (wrap64 (wrap64 (2 * b) * n) * i)) (den n i))
/-- Where the quarter's function value finds its three variables. -/
def Holds (W : World) (ga gn gb : Nat) (a n b : Int) : Prop := W.cell? ⟨ga, 0, none⟩ = some (.int .i64 a) ∧ W.cell? ⟨gn, 0, none⟩ = some (.int .i64 n) ∧ W.cell? ⟨gb, 0, none⟩ = some (.int .i64 b)
theorem Holds.below {W W' : World} {ga gn gb : Nat} {a n b : Int} (h : Holds W ga gn gb a n b) (hb : Below W.heap.size W W') : Holds W' ga gn gb a n b :=
  ⟨(hb.cell (World.block_lt_of_cell? W _ h.1)).trans h.1, (hb.cell (World.block_lt_of_cell? W _ h.2.1)).trans h.2.1, (hb.cell (World.block_lt_of_cell? W _ h.2.2)).trans h.2.2⟩
set_option maxHeartbeats 8000000 in
set_option maxRecDepth 100000 in
theorem quarter_calls (ga gn gb : Nat) (a n b i : Int) (W : World) (h : Holds W ga gn gb a n b) (hd : den n i ≠ 0) :
    Calls Try.prog 26 #[.int .i64 i, .pointer (some ⟨ga, 0, none⟩), .pointer (some ⟨gn, 0, none⟩), .pointer (some ⟨gb, 0, none⟩)] W fun e W' => e = .returned (.agg #[.int .i64 (qX a n i), .int .i64 (qY b n i)]) ∧ Below W.heap.size W W' := by
  unfold qX qY
  unfold den at hd ⊢
  obtain ⟨nn, hnn⟩ : ∃ x, wrap64 (n * n) = x := ⟨_, rfl⟩
  obtain ⟨ii, hii⟩ : ∃ x, wrap64 (i * i) = x := ⟨_, rfl⟩
  obtain ⟨s1, hs1⟩ : ∃ x, wrap64 (nn - ii) = x := ⟨_, rfl⟩
  obtain ⟨s2, hs2⟩ : ∃ x, wrap64 (a * s1) = x := ⟨_, rfl⟩
  obtain ⟨D, hD⟩ : ∃ x, wrap64 (nn + ii) = x := ⟨_, rfl⟩
  obtain ⟨u1, hu1⟩ : ∃ x, wrap64 (2 * b) = x := ⟨_, rfl⟩
  obtain ⟨u2, hu2⟩ : ∃ x, wrap64 (u1 * n) = x := ⟨_, rfl⟩
  obtain ⟨u3, hu3⟩ : ∃ x, wrap64 (u2 * i) = x := ⟨_, rfl⟩
  rw [hnn, hii] at hd ⊢
  rw [hD] at hd ⊢
  rw [hs1, hs2, hu1, hu2, hu3]
  have hdb : (D == 0) = false := beq_eq_false_iff_ne.mpr hd
  have wnn := (i64_w _).trans hnn
  have wii := (i64_w _).trans hii
  have ws1 := (i64_w _).trans hs1
  have ws2 := (i64_w _).trans hs2
  have wD := (i64_w _).trans hD
  have wu1 := (i64_w _).trans hu1
  have wu2 := (i64_w _).trans hu2
  have wu3 := (i64_w _).trans hu3
  obtain ⟨h1, h2, h3⟩ := h
  have hu28 := Try.underlying28
  have HH := Aside0.mk (show Holds W ga gn gb a n b from ⟨h1, h2, h3⟩)
  clear hnn hii hs1 hs2 hD hu1 hu2 hu3 h1 h2 h3
  go_enter Try.func26, Try.ntmps26
  go_wp2_with (first | ((with_reducible refine gate_dst (N := 5) rfl ?_); refine box_event ?hg (N := 5) ?hd (cs := #[.int .i64 0, .int .i64 0]) (t := 28) ?hr ?_; (case hd => rfl); (case hg => rfl); (case hr => first | (go_simp; done) | (go_simp; rfl)); intro gr hgr w3 hbox hb; have HH3 := Aside0.mk (HH.out.below hb); have B3 := Aside0.mk hb; have R3 := Aside0.mk hbox; have GR := Aside0.mk (show W.heap.size ≤ gr by omega); clear hbox hb hgr HH))
  obtain ⟨h1, h2, h3⟩ := HH3.out
  have hc0 : w3.cell? ⟨gr, 0, none⟩ = some (.int .i64 0) := (blk_cell R3.out 0).trans rfl
  have hc1 : w3.cell? ⟨gr, 1, none⟩ = some (.int .i64 0) := (blk_cell R3.out 1).trans rfl
  have hf0 := blk_frozen R3.out 0
  have hf1 := blk_frozen R3.out 1
  refine wp_region_still_tail 32 (by kernel_rfl) (by kernel_rfl) ?_
  simp only [List.take_succ_cons, List.take_zero, List.drop_succ_cons, List.drop_zero]
  repeat still_step
  refine wpStill_nil ?_
  go_wp2
  refine bodyPost_ret (results_cell_row rfl _ _ gr 28 #[.int .i64 (wrap64 (s2.tdiv D)), .int .i64 (wrap64 (u3.tdiv D))] (0, 0) _ rfl (by refine blk_drew ?_; refine blk_put (cs := #[.int .i64 (wrap64 (s2.tdiv D)), .int .i64 0]) ?_ 1 _ rfl; refine blk_put (cs := #[.int .i64 0, .int .i64 0]) ?_ 0 _ rfl; exact R3.out) Try.underlying28 rfl (by kernel_rfl)) rfl ?_
  exact ⟨rfl, below_drew1 (below_set (below_set B3.out GR.out) GR.out)⟩
theorem blk_far_ {w : World} {g g' j : Nat} {u : Value} {o : Obj} (h : w.heap[g]? = some o) (hne : g ≠ g') : (w.setCell ⟨g', j, none⟩ u).heap[g]? = some o := (Below.heap_setCell w ⟨g', j, none⟩ u g hne).trans h
set_option maxHeartbeats 8000000 in
set_option maxRecDepth 100000 in
theorem turn27_calls (gq ga gn gb : Nat) (a n b i : Int) (W : World) (hq : W.cell? ⟨gq, 0, none⟩ = some (.func (.func 26) #[] #[.pointer (some ⟨ga, 0, none⟩), .pointer (some ⟨gn, 0, none⟩), .pointer (some ⟨gb, 0, none⟩)])) (h : Holds W ga gn gb a n b) (hd : den n i ≠ 0) :
    Calls Try.prog 27 #[.int .i64 i, .pointer (some ⟨gq, 0, none⟩)] W fun e W' => e = .returned (.agg #[.int .i64 (wrap64 (-(qX a n i))), .int .i64 (wrap64 (-(qY b n i)))]) ∧ Below W.heap.size W W' := by
  have HC := Aside0.mk (fun (W' : World) (hb : Below W.heap.size W W') => quarter_calls ga gn gb a n b i W' (h.below hb) hd)
  obtain ⟨X, hX⟩ : ∃ x, qX a n i = x := ⟨_, rfl⟩
  obtain ⟨Y, hY⟩ : ∃ x, qY b n i = x := ⟨_, rfl⟩
  rw [hX, hY] at HC ⊢
  have hn := h.2.1
  have HQ := Aside0.mk hq
  have HN := Aside0.mk hn
  have hu28 := Try.underlying28
  clear hX hY h hn hd hq
  go_enter Try.func27, Try.ntmps27
  go_wp2_with (first | ((with_reducible refine gate_dst (N := 3) rfl ?_); refine box_event ?hg (N := 3) ?hd (cs := #[.int .i64 0, .int .i64 0]) (t := 28) ?hr ?_; (case hd => rfl); (case hg => rfl); (case hr => first | (go_simp; done) | (go_simp; rfl)); intro gr hgr w3 hbox hb; have B3 := Aside0.mk hb; have R3 := Aside0.mk hbox; have GR := Aside0.mk (show W.heap.size ≤ gr by omega); have hq3 := (hb.cell (World.block_lt_of_cell? W _ HQ.out)).trans HQ.out; have hn3 := (hb.cell (World.block_lt_of_cell? W _ HN.out)).trans HN.out; clear hbox hb hgr))
  refine (HC.out w3 B3.out).mono ?_
  rintro e w4 ⟨rfl, hb4⟩
  have B4 := Aside0.mk (below_step B3.out hb4)
  have R4 := Aside0.mk (blk_below R3.out hb4)
  clear hb4 hq3 hn3
  go_wp2_with (first | ((with_reducible refine gate_dst (N := 4) rfl ?_); refine box_event ?hg (N := 4) ?hd (cs := #[.int .i64 0, .int .i64 0]) (t := 28) ?hr ?_; (case hd => rfl); (case hg => rfl); (case hr => first | (go_simp; done) | (go_simp; rfl)); intro gs hgs w5 hbox hb; have B5 := Aside0.mk (below_step B4.out hb); have R5 := Aside0.mk (blk_below R4.out hb); have S5 := Aside0.mk hbox; have GS := Aside0.mk (show W.heap.size ≤ gs by rw [hgs]; exact below_size B4.out); have NE := Aside0.mk (show gr ≠ gs by rw [hgs]; exact Nat.ne_of_lt (blk_lt R4.out)); have hne := NE.out; have hne2 := Ne.symm hne; have hc0 : w5.cell? ⟨gr, 0, none⟩ = some (.int .i64 0) := (blk_cell R5.out 0).trans rfl; have hc1 : w5.cell? ⟨gr, 1, none⟩ = some (.int .i64 0) := (blk_cell R5.out 1).trans rfl; have hf0 := blk_frozen R5.out 0; have hf1 := blk_frozen R5.out 1; have hc2 : w5.cell? ⟨gs, 0, none⟩ = some (.int .i64 0) := (blk_cell hbox 0).trans rfl; have hc3 : w5.cell? ⟨gs, 1, none⟩ = some (.int .i64 0) := (blk_cell hbox 1).trans rfl; have hf2 := blk_frozen hbox 0; have hf3 := blk_frozen hbox 1; clear hbox hb hgs))
  refine bodyPost_ret (results_cell_row rfl _ _ gr 28 #[.int .i64 (wrap64 (-X)), .int .i64 (wrap64 (-Y))] (0, 0) _ rfl ?blk Try.underlying28 rfl (by kernel_rfl)) rfl ?_
  case blk => refine blk_put (cs := #[.int .i64 (wrap64 (-X)), .int .i64 0]) ?_ 1 _ rfl; refine blk_put (cs := #[.int .i64 0, .int .i64 0]) ?_ 0 _ rfl; refine blk_far_ ?_ NE.out; refine blk_far_ ?_ NE.out; exact R5.out
  exact ⟨rfl, below_set (below_set (below_set (below_set B5.out GS.out) GS.out) GR.out) GR.out⟩
set_option maxHeartbeats 8000000 in
set_option maxRecDepth 100000 in
theorem turn28_calls (gq ga gn gb : Nat) (a n b i : Int) (W : World) (hq : W.cell? ⟨gq, 0, none⟩ = some (.func (.func 26) #[] #[.pointer (some ⟨ga, 0, none⟩), .pointer (some ⟨gn, 0, none⟩), .pointer (some ⟨gb, 0, none⟩)])) (h : Holds W ga gn gb a n b) (hd : den n (wrap64 (n - i)) ≠ 0) :
    Calls Try.prog 28 #[.int .i64 i, .pointer (some ⟨gq, 0, none⟩), .pointer (some ⟨gn, 0, none⟩)] W fun e W' => e = .returned (.agg #[.int .i64 (qX a n (wrap64 (n - i))), .int .i64 (wrap64 (-(qY b n (wrap64 (n - i)))))]) ∧ Below W.heap.size W W' := by
  have HC := Aside0.mk (fun (W' : World) (hb : Below W.heap.size W W') => quarter_calls ga gn gb a n b (wrap64 (n - i)) W' (h.below hb) hd)
  obtain ⟨X, hX⟩ : ∃ x, qX a n (wrap64 (n - i)) = x := ⟨_, rfl⟩
  obtain ⟨Y, hY⟩ : ∃ x, qY b n (wrap64 (n - i)) = x := ⟨_, rfl⟩
  rw [hX, hY] at HC ⊢
  have hn := h.2.1
  have HQ := Aside0.mk hq
  have HN := Aside0.mk hn
  have hu28 := Try.underlying28
  have hw := i64_w (n - i)
  clear hX hY h hn hd hq
  go_enter Try.func28, Try.ntmps28
  go_wp2_with (first | ((with_reducible refine gate_dst (N := 4) rfl ?_); refine box_event ?hg (N := 4) ?hd (cs := #[.int .i64 0, .int .i64 0]) (t := 28) ?hr ?_; (case hd => rfl); (case hg => rfl); (case hr => first | (go_simp; done) | (go_simp; rfl)); intro gr hgr w3 hbox hb; have B3 := Aside0.mk hb; have R3 := Aside0.mk hbox; have GR := Aside0.mk (show W.heap.size ≤ gr by omega); have hq3 := (hb.cell (World.block_lt_of_cell? W _ HQ.out)).trans HQ.out; have hn3 := (hb.cell (World.block_lt_of_cell? W _ HN.out)).trans HN.out; clear hbox hb hgr))
  refine (HC.out w3 B3.out).mono ?_
  rintro e w4 ⟨rfl, hb4⟩
  have B4 := Aside0.mk (below_step B3.out hb4)
  have R4 := Aside0.mk (blk_below R3.out hb4)
  clear hb4 hq3 hn3
  go_wp2_with (first | ((with_reducible refine gate_dst (N := 5) rfl ?_); refine box_event ?hg (N := 5) ?hd (cs := #[.int .i64 0, .int .i64 0]) (t := 28) ?hr ?_; (case hd => rfl); (case hg => rfl); (case hr => first | (go_simp; done) | (go_simp; rfl)); intro gs hgs w5 hbox hb; have B5 := Aside0.mk (below_step B4.out hb); have R5 := Aside0.mk (blk_below R4.out hb); have S5 := Aside0.mk hbox; have GS := Aside0.mk (show W.heap.size ≤ gs by rw [hgs]; exact below_size B4.out); have NE := Aside0.mk (show gr ≠ gs by rw [hgs]; exact Nat.ne_of_lt (blk_lt R4.out)); have hne := NE.out; have hne2 := Ne.symm hne; have hc0 : w5.cell? ⟨gr, 0, none⟩ = some (.int .i64 0) := (blk_cell R5.out 0).trans rfl; have hc1 : w5.cell? ⟨gr, 1, none⟩ = some (.int .i64 0) := (blk_cell R5.out 1).trans rfl; have hf0 := blk_frozen R5.out 0; have hf1 := blk_frozen R5.out 1; have hc2 : w5.cell? ⟨gs, 0, none⟩ = some (.int .i64 0) := (blk_cell hbox 0).trans rfl; have hc3 : w5.cell? ⟨gs, 1, none⟩ = some (.int .i64 0) := (blk_cell hbox 1).trans rfl; have hf2 := blk_frozen hbox 0; have hf3 := blk_frozen hbox 1; clear hbox hb hgs))
  refine bodyPost_ret (results_cell_row rfl _ _ gr 28 #[.int .i64 X, .int .i64 (wrap64 (-Y))] (0, 0) _ rfl ?blk Try.underlying28 rfl (by kernel_rfl)) rfl ?_
  case blk => refine blk_put (cs := #[.int .i64 X, .int .i64 0]) ?_ 1 _ rfl; refine blk_put (cs := #[.int .i64 0, .int .i64 0]) ?_ 0 _ rfl; refine blk_far_ ?_ NE.out; refine blk_far_ ?_ NE.out; exact R5.out
  exact ⟨rfl, below_set (below_set (below_set (below_set B5.out GS.out) GS.out) GR.out) GR.out⟩
set_option maxHeartbeats 8000000 in
set_option maxRecDepth 100000 in
theorem turn29_calls (gq ga gn gb : Nat) (a n b i : Int) (W : World) (hq : W.cell? ⟨gq, 0, none⟩ = some (.func (.func 26) #[] #[.pointer (some ⟨ga, 0, none⟩), .pointer (some ⟨gn, 0, none⟩), .pointer (some ⟨gb, 0, none⟩)])) (h : Holds W ga gn gb a n b) (hd : den n (wrap64 (n - i)) ≠ 0) :
    Calls Try.prog 29 #[.int .i64 i, .pointer (some ⟨gq, 0, none⟩), .pointer (some ⟨gn, 0, none⟩)] W fun e W' => e = .returned (.agg #[.int .i64 (wrap64 (-(qX a n (wrap64 (n - i))))), .int .i64 (qY b n (wrap64 (n - i)))]) ∧ Below W.heap.size W W' := by
  have HC := Aside0.mk (fun (W' : World) (hb : Below W.heap.size W W') => quarter_calls ga gn gb a n b (wrap64 (n - i)) W' (h.below hb) hd)
  obtain ⟨X, hX⟩ : ∃ x, qX a n (wrap64 (n - i)) = x := ⟨_, rfl⟩
  obtain ⟨Y, hY⟩ : ∃ x, qY b n (wrap64 (n - i)) = x := ⟨_, rfl⟩
  rw [hX, hY] at HC ⊢
  have hn := h.2.1
  have HQ := Aside0.mk hq
  have HN := Aside0.mk hn
  have hu28 := Try.underlying28
  have hw := i64_w (n - i)
  clear hX hY h hn hd hq
  go_enter Try.func29, Try.ntmps29
  go_wp2_with (first | ((with_reducible refine gate_dst (N := 4) rfl ?_); refine box_event ?hg (N := 4) ?hd (cs := #[.int .i64 0, .int .i64 0]) (t := 28) ?hr ?_; (case hd => rfl); (case hg => rfl); (case hr => first | (go_simp; done) | (go_simp; rfl)); intro gr hgr w3 hbox hb; have B3 := Aside0.mk hb; have R3 := Aside0.mk hbox; have GR := Aside0.mk (show W.heap.size ≤ gr by omega); have hq3 := (hb.cell (World.block_lt_of_cell? W _ HQ.out)).trans HQ.out; have hn3 := (hb.cell (World.block_lt_of_cell? W _ HN.out)).trans HN.out; clear hbox hb hgr))
  refine (HC.out w3 B3.out).mono ?_
  rintro e w4 ⟨rfl, hb4⟩
  have B4 := Aside0.mk (below_step B3.out hb4)
  have R4 := Aside0.mk (blk_below R3.out hb4)
  clear hb4 hq3 hn3
  go_wp2_with (first | ((with_reducible refine gate_dst (N := 5) rfl ?_); refine box_event ?hg (N := 5) ?hd (cs := #[.int .i64 0, .int .i64 0]) (t := 28) ?hr ?_; (case hd => rfl); (case hg => rfl); (case hr => first | (go_simp; done) | (go_simp; rfl)); intro gs hgs w5 hbox hb; have B5 := Aside0.mk (below_step B4.out hb); have R5 := Aside0.mk (blk_below R4.out hb); have S5 := Aside0.mk hbox; have GS := Aside0.mk (show W.heap.size ≤ gs by rw [hgs]; exact below_size B4.out); have NE := Aside0.mk (show gr ≠ gs by rw [hgs]; exact Nat.ne_of_lt (blk_lt R4.out)); have hne := NE.out; have hne2 := Ne.symm hne; have hc0 : w5.cell? ⟨gr, 0, none⟩ = some (.int .i64 0) := (blk_cell R5.out 0).trans rfl; have hc1 : w5.cell? ⟨gr, 1, none⟩ = some (.int .i64 0) := (blk_cell R5.out 1).trans rfl; have hf0 := blk_frozen R5.out 0; have hf1 := blk_frozen R5.out 1; have hc2 : w5.cell? ⟨gs, 0, none⟩ = some (.int .i64 0) := (blk_cell hbox 0).trans rfl; have hc3 : w5.cell? ⟨gs, 1, none⟩ = some (.int .i64 0) := (blk_cell hbox 1).trans rfl; have hf2 := blk_frozen hbox 0; have hf3 := blk_frozen hbox 1; clear hbox hb hgs))
  refine bodyPost_ret (results_cell_row rfl _ _ gr 28 #[.int .i64 (wrap64 (-X)), .int .i64 Y] (0, 0) _ rfl ?blk Try.underlying28 rfl (by kernel_rfl)) rfl ?_
  case blk => refine blk_put (cs := #[.int .i64 (wrap64 (-X)), .int .i64 0]) ?_ 1 _ rfl; refine blk_put (cs := #[.int .i64 0, .int .i64 0]) ?_ 0 _ rfl; refine blk_far_ ?_ NE.out; refine blk_far_ ?_ NE.out; exact R5.out
  exact ⟨rfl, below_set (below_set (below_set (below_set B5.out GS.out) GS.out) GR.out) GR.out⟩
/-! ### the whole oval -/
theorem run_store_func {P : Program} {w : World} {p : Addr} {m : Mode} (f : Fn) (fs cs : Array Value) : (store p (.func f fs cs) m).run P w = stored P w p (.func f fs cs) m := run_store P w p _ m rfl
attribute [local go_sem] run_store_func
theorem idx4_0 (x0 x1 x2 x3 : Value) (w : World) : (Instr.index 49 (.agg #[x0, x1, x2, x3]) (.int .i64 0)).run Try.prog w = .ok x0 w := by
  have hu49 := Try.underlying49
  have hu48 := Try.underlying48
  unfold Instr.index
  go_simp
theorem idx4_1 (x0 x1 x2 x3 : Value) (w : World) : (Instr.index 49 (.agg #[x0, x1, x2, x3]) (.int .i64 1)).run Try.prog w = .ok x1 w := by
  have hu49 := Try.underlying49
  have hu48 := Try.underlying48
  unfold Instr.index
  go_simp
theorem idx4_2 (x0 x1 x2 x3 : Value) (w : World) : (Instr.index 49 (.agg #[x0, x1, x2, x3]) (.int .i64 2)).run Try.prog w = .ok x2 w := by
  have hu49 := Try.underlying49
  have hu48 := Try.underlying48
  unfold Instr.index
  go_simp
theorem idx4_3 (x0 x1 x2 x3 : Value) (w : World) : (Instr.index 49 (.agg #[x0, x1, x2, x3]) (.int .i64 3)).run Try.prog w = .ok x3 w := by
  have hu49 := Try.underlying49
  have hu48 := Try.underlying48
  unfold Instr.index
  go_simp
attribute [local go_sem] idx4_0 idx4_1 idx4_2 idx4_3
def argJ (j n i : Int) : Int := if j = 0 ∨ j = 2 then i else wrap64 (n - i)
def turnAt (a n b j i : Int) : S28 := if j = 0 then ⟨wrap64 (-(qX a n i)), wrap64 (-(qY b n i))⟩ else if j = 1 then ⟨qX a n (wrap64 (n - i)), wrap64 (-(qY b n (wrap64 (n - i))))⟩ else if j = 2 then ⟨qX a n i, qY b n i⟩ else ⟨wrap64 (-(qX a n (wrap64 (n - i)))), qY b n (wrap64 (n - i))⟩
theorem turnAt_0 (a n b i : Int) : turnAt a n b 0 i = ⟨wrap64 (-(qX a n i)), wrap64 (-(qY b n i))⟩ := by simp [turnAt]
theorem turnAt_1 (a n b i : Int) : turnAt a n b 1 i = ⟨qX a n (wrap64 (n - i)), wrap64 (-(qY b n (wrap64 (n - i))))⟩ := by simp [turnAt]
theorem turnAt_2 (a n b i : Int) : turnAt a n b 2 i = ⟨qX a n i, qY b n i⟩ := by simp [turnAt]
theorem turnAt_3 (a n b i : Int) : turnAt a n b 3 i = ⟨wrap64 (-(qX a n (wrap64 (n - i)))), qY b n (wrap64 (n - i))⟩ := by simp [turnAt]
theorem argJ_0 (n i : Int) : argJ 0 n i = i := by simp [argJ]
theorem argJ_1 (n i : Int) : argJ 1 n i = wrap64 (n - i) := by simp [argJ]
theorem argJ_2 (n i : Int) : argJ 2 n i = i := by simp [argJ]
theorem argJ_3 (n i : Int) : argJ 3 n i = wrap64 (n - i) := by simp [argJ]
def inL : Nat → Int → Int → Int → Int → Int → List S28 → Option (List S28)
  | 0, _, _, _, _, _, _ => none
  | k + 1, a, n, b, j, i, xs => if i < n then (if den n (argJ j n i) ≠ 0 then (if xs.length < 8796093022208 then inL k a n b j (wrap64 (i + 1)) (xs ++ [⟨wrap64 (a + (turnAt a n b j i).f0), wrap64 (b + (turnAt a n b j i).f1)⟩]) else none) else none) else some xs
def inK : Nat := 100
def outL : Nat → Int → Int → Int → Int → List S28 → Option (List S28)
  | 0, _, _, _, _, _ => none
  | k + 1, a, n, b, j, xs => if j < 4 then (inL inK a n b j 0 xs).bind fun ys => outL k a n b (wrap64 (j + 1)) ys else some xs
def curve_ellipse.f (a0 a1 a2 : Int) : Option (List S28) := (outL 5 (wrap64 (Int.tdiv a0 2)) a2 (wrap64 (Int.tdiv a1 2)) 0 []).bind fun xs => if 0 < xs.length then (if xs.length < 8796093022208 then some (xs ++ [rd_T28 xs 0]) else none) else none
set_option maxHeartbeats 40000000 in
set_option maxRecDepth 100000 in
theorem curve_ellipse.calls (a0 a1 a2 : Int) (r : List S28) (w : World) (h : curve_ellipse.f a0 a1 a2 = some r) :
    Calls Try.prog 16 #[.int .i64 a0, .int .i64 a1, .int .i64 a2] w fun e w' => ∃ v_ : Value, e = .returned v_ ∧ Kd.R k28 28 w' w.heap.size (fun _ => True) v_ r ∧ Below w.heap.size w w' := by
  unfold curve_ellipse.f at h
  obtain ⟨a, ha⟩ : ∃ x, wrap64 (Int.tdiv a0 2) = x := ⟨_, rfl⟩
  obtain ⟨b, hb⟩ : ∃ x, wrap64 (Int.tdiv a1 2) = x := ⟨_, rfl⟩
  rw [ha, hb] at h
  obtain ⟨r0, h1, h2⟩ := Option.bind_eq_some_iff.mp h
  have wa := (i64_w _).trans ha
  have wb := (i64_w _).trans hb
  have H1 := Aside0.mk h1
  have H2 := Aside0.mk h2
  have hu28 := Try.underlying28
  obtain ⟨n, hn⟩ : ∃ n, a2 = n := ⟨_, rfl⟩
  subst hn
  clear h h1 h2 ha hb
  go_enter Try.func16, Try.ntmps16
  go_wp2_with (first | ((with_reducible refine gate_dst (N := 5) rfl ?_); refine box_event ?hg (N := 5) ?hd (cs := #[.int .i64 a2]) (t := 3) ?hr ?_; (case hd => rfl); (case hg => rfl); (case hr => first | (go_simp; done) | (go_simp; rfl)); intro gn hgn w1 hbox hb; have HB1 := Aside0.mk hb; have N1 := Aside0.mk hbox; have G1 := Aside0.mk (show w.heap.size ≤ gn by omega); clear hbox hb hgn) | ((with_reducible refine gate_dst (N := 7) rfl ?_); refine box_event ?hg (N := 7) ?hd (cs := #[.int .i64 0]) (t := 3) ?hr ?_; (case hd => rfl); (case hg => rfl); (case hr => first | (go_simp; done) | (go_simp; rfl)); intro ga hga w2 hbox hb; have HB2 := Aside0.mk (below_step HB1.out hb); have N2 := Aside0.mk (blk_below N1.out hb); have A2 := Aside0.mk hbox; have GA := Aside0.mk (show w.heap.size ≤ ga by rw [hga]; exact below_size HB1.out); have E1 := Aside0.mk (show gn ≠ ga by rw [hga]; exact Nat.ne_of_lt (blk_lt N1.out)); clear hbox hb hga HB1 N1) | ((with_reducible refine gate_dst (N := 8) rfl ?_); refine box_event ?hg (N := 8) ?hd (cs := #[.int .i64 0]) (t := 3) ?hr ?_; (case hd => rfl); (case hg => rfl); (case hr => first | (go_simp; done) | (go_simp; rfl)); intro gb hgb w3 hbox hb; have HB3 := Aside0.mk (below_step HB2.out hb); have N3 := Aside0.mk (blk_below N2.out hb); have A3 := Aside0.mk (blk_below A2.out hb); have B3 := Aside0.mk hbox; have GB := Aside0.mk (show w.heap.size ≤ gb by rw [hgb]; exact below_size HB2.out); have E2 := Aside0.mk (show gn ≠ gb by rw [hgb]; exact Nat.ne_of_lt (blk_lt N2.out)); have E3 := Aside0.mk (show ga ≠ gb by rw [hgb]; exact Nat.ne_of_lt (blk_lt A2.out)); have e3 := E3.out; have e3' := Ne.symm e3; have c1 : w3.cell? ⟨ga, 0, none⟩ = some (.int .i64 0) := (blk_cell A3.out 0).trans rfl; have c2 : w3.cell? ⟨gb, 0, none⟩ = some (.int .i64 0) := (blk_cell hbox 0).trans rfl; have f1 := blk_frozen A3.out 0; have f2 := blk_frozen hbox 0; clear hbox hb hgb HB2 N2 A2) | ((with_reducible refine gate_dst (N := 9) rfl ?_); refine box_event ?hg (N := 9) ?hd (cs := #[.int .i64 0, .int .i64 0]) (t := 28) ?hr ?_; (case hd => rfl); (case hg => rfl); (case hr => first | (go_simp; done) | (go_simp; rfl)); intro gm hgx w4 hbox hb; have hbs := below_set (below_set (j := 0) (v := .int .i64 a) HB3.out GA.out) (j := 0) (v := .int .i64 b) GB.out; have HB4 := Aside0.mk (below_step hbs hb); have N4 := Aside0.mk (blk_below (blk_far_ (blk_far_ N3.out E1.out) E2.out) hb); have A4 := Aside0.mk (blk_below (blk_far_ (blk_put A3.out 0 (.int .i64 a) rfl) E3.out) hb); have B4 := Aside0.mk (blk_below (blk_put (blk_far_ B3.out (Ne.symm E3.out)) 0 (.int .i64 b) rfl) hb); have M4 := Aside0.mk hbox; have GM := Aside0.mk (show w.heap.size ≤ gm by rw [hgx]; exact below_size hbs); have E4 := Aside0.mk (show gn ≠ gm by rw [hgx]; exact Nat.ne_of_lt (blk_lt (blk_far_ (blk_far_ N3.out E1.out) E2.out))); have E5 := Aside0.mk (show ga ≠ gm by rw [hgx]; exact Nat.ne_of_lt (blk_lt (blk_far_ (blk_put A3.out 0 (.int .i64 a) rfl) E3.out))); have E6 := Aside0.mk (show gb ≠ gm by rw [hgx]; exact Nat.ne_of_lt (blk_lt (blk_put (blk_far_ B3.out (Ne.symm E3.out)) 0 (.int .i64 b) rfl))); have c3 : w4.cell? ⟨gm, 0, none⟩ = some (.int .i64 0) := (blk_cell hbox 0).trans rfl; have c4 : w4.cell? ⟨gm, 1, none⟩ = some (.int .i64 0) := (blk_cell hbox 1).trans rfl; have f3 := blk_frozen hbox 0; have f4 := blk_frozen hbox 1; clear HB3 N3 A3 B3 c1 c2 f1 f2 hbs; clear hbox hb hgx) | ((with_reducible refine gate_dst (N := 10) rfl ?_); refine box_event ?hg (N := 10) ?hd (cs := #[.nilFunc]) (t := 48) ?hr ?_; (case hd => rfl); (case hg => rfl); (case hr => first | (go_simp; done) | (go_simp; rfl)); intro gq hgx w5 hbox hb; have hbs := below_set (below_set (j := 0) (v := .int .i64 a) HB4.out GM.out) (j := 1) (v := .int .i64 b) GM.out; have HB5 := Aside0.mk (below_step hbs hb); have N5 := Aside0.mk (blk_below (blk_far_ (blk_far_ N4.out E4.out) E4.out) hb); have A5 := Aside0.mk (blk_below (blk_far_ (blk_far_ A4.out E5.out) E5.out) hb); have B5 := Aside0.mk (blk_below (blk_far_ (blk_far_ B4.out E6.out) E6.out) hb); have M5 := Aside0.mk (blk_below (blk_put (blk_put M4.out 0 (.int .i64 a) rfl) 1 (.int .i64 b) rfl) hb); have Q5 := Aside0.mk hbox; have GQ := Aside0.mk (show w.heap.size ≤ gq by rw [hgx]; exact below_size hbs); have E7 := Aside0.mk (show gn ≠ gq by rw [hgx]; exact Nat.ne_of_lt (blk_lt (blk_far_ (blk_far_ N4.out E4.out) E4.out))); have E8 := Aside0.mk (show ga ≠ gq by rw [hgx]; exact Nat.ne_of_lt (blk_lt (blk_far_ (blk_far_ A4.out E5.out) E5.out))); have E9 := Aside0.mk (show gb ≠ gq by rw [hgx]; exact Nat.ne_of_lt (blk_lt (blk_far_ (blk_far_ B4.out E6.out) E6.out))); have E10 := Aside0.mk (show gm ≠ gq by rw [hgx]; exact Nat.ne_of_lt (blk_lt (blk_put (blk_put M4.out 0 (.int .i64 a) rfl) 1 (.int .i64 b) rfl))); have c5 : w5.cell? ⟨gq, 0, none⟩ = some .nilFunc := (blk_cell hbox 0).trans rfl; have f5 := blk_frozen hbox 0; clear HB4 N4 A4 B4 M4 c3 c4 f3 f4 hbs; clear hbox hb hgx) | ((with_reducible refine gate_dst (N := 11) rfl ?_); refine box_event ?hg (N := 11) ?hd (cs := #[.nilFunc, .nilFunc, .nilFunc, .nilFunc]) (t := 49) ?hr ?_; (case hd => rfl); (case hg => rfl); (case hr => first | (go_simp; done) | (go_simp; rfl)); intro gt hgx w6 hbox hb; have hbs := below_set (j := 0) (v := .func (.func 26) #[] #[.pointer (some ⟨ga, 0, none⟩), .pointer (some ⟨gn, 0, none⟩), .pointer (some ⟨gb, 0, none⟩)]) HB5.out GQ.out; have HB6 := Aside0.mk (below_step hbs hb); have N6 := Aside0.mk (blk_below (blk_far_ N5.out E7.out) hb); have A6 := Aside0.mk (blk_below (blk_far_ A5.out E8.out) hb); have B6 := Aside0.mk (blk_below (blk_far_ B5.out E9.out) hb); have M6 := Aside0.mk (blk_below (blk_far_ M5.out E10.out) hb); have Q6 := Aside0.mk (blk_below (blk_put Q5.out 0 (.func (.func 26) #[] #[.pointer (some ⟨ga, 0, none⟩), .pointer (some ⟨gn, 0, none⟩), .pointer (some ⟨gb, 0, none⟩)]) rfl) hb); have T6 := Aside0.mk hbox; have GT := Aside0.mk (show w.heap.size ≤ gt by rw [hgx]; exact below_size hbs); have E11 := Aside0.mk (show gn ≠ gt by rw [hgx]; exact Nat.ne_of_lt (blk_lt (blk_far_ N5.out E7.out))); have E12 := Aside0.mk (show ga ≠ gt by rw [hgx]; exact Nat.ne_of_lt (blk_lt (blk_far_ A5.out E8.out))); have E13 := Aside0.mk (show gb ≠ gt by rw [hgx]; exact Nat.ne_of_lt (blk_lt (blk_far_ B5.out E9.out))); have E14 := Aside0.mk (show gm ≠ gt by rw [hgx]; exact Nat.ne_of_lt (blk_lt (blk_far_ M5.out E10.out))); have E15 := Aside0.mk (show gq ≠ gt by rw [hgx]; exact Nat.ne_of_lt (blk_lt (blk_put Q5.out 0 (.func (.func 26) #[] #[.pointer (some ⟨ga, 0, none⟩), .pointer (some ⟨gn, 0, none⟩), .pointer (some ⟨gb, 0, none⟩)]) rfl))); have d0 : w6.cell? ⟨gt, 0, none⟩ = some .nilFunc := (blk_cell hbox 0).trans rfl; have d1 : w6.cell? ⟨gt, 1, none⟩ = some .nilFunc := (blk_cell hbox 1).trans rfl; have d2 : w6.cell? ⟨gt, 2, none⟩ = some .nilFunc := (blk_cell hbox 2).trans rfl; have d3 : w6.cell? ⟨gt, 3, none⟩ = some .nilFunc := (blk_cell hbox 3).trans rfl; have x0 := blk_frozen hbox 0; have x1 := blk_frozen hbox 1; have x2 := blk_frozen hbox 2; have x3 := blk_frozen hbox 3; clear HB5 N5 A5 B5 M5 Q5 c5 f5 hbs; clear hbox hb hgx))
  go_loopg [12, 30] 5 (fun kq v12 v30 w2 => ∃ (j : Int) (xs : List S28), v30 = .int .i64 j ∧ Aside0 (0 ≤ j ∧ j ≤ 4) ∧ Aside0 (outL kq a a2 b j xs = some r0) ∧ Aside0 (w2.heap[gm]? = some (.cells #[.int .i64 a, .int .i64 b] 28 (0, 0))) ∧ Aside0 (w2.heap[gn]? = some (.cells #[.int .i64 a2] 3 (0, 0))) ∧ Aside0 (w2.heap[ga]? = some (.cells #[.int .i64 a] 3 (0, 0))) ∧ Aside0 (w2.heap[gb]? = some (.cells #[.int .i64 b] 3 (0, 0))) ∧ Aside0 (w2.heap[gq]? = some (.cells #[.func (.func 26) #[] #[.pointer (some ⟨ga, 0, none⟩), .pointer (some ⟨gn, 0, none⟩), .pointer (some ⟨gb, 0, none⟩)]] 48 (0, 0))) ∧ Aside0 (Kd.R k28 28 w2 w.heap.size (fun k => k ≠ gm) v12 xs) ∧ Aside0 (Below w.heap.size w w2))
  case atStart => exact ⟨0, [], rfl, ⟨by omega⟩, H1, ⟨blk_far_ (blk_far_ (blk_far_ (blk_far_ M6.out E14.out) E14.out) E14.out) E14.out⟩, ⟨blk_far_ (blk_far_ (blk_far_ (blk_far_ N6.out E11.out) E11.out) E11.out) E11.out⟩, ⟨blk_far_ (blk_far_ (blk_far_ (blk_far_ A6.out E12.out) E12.out) E12.out) E12.out⟩, ⟨blk_far_ (blk_far_ (blk_far_ (blk_far_ B6.out E13.out) E13.out) E13.out) E13.out⟩, ⟨blk_far_ (blk_far_ (blk_far_ (blk_far_ Q6.out E15.out) E15.out) E15.out) E15.out⟩, ⟨Kd.R_nil _ _ _ _ _⟩, ⟨below_set (below_set (below_set (below_set HB6.out GT.out) GT.out) GT.out) GT.out⟩⟩
  case round =>
    clear H1 HB6 N6 A6 B6 M6 Q6 T6 d0 d1 d2 d3 x0 x1 x2 x3
    obtain ⟨j, xs, rfl, HJ, HA, M, NB, AB, BB, QB, HO, HB⟩ := hrel
    cases gk with
    | zero => exact absurd HA.out (by simp [outL])
    | succ k1 =>
      have H := HA.out
      clear HA
      rw [outL] at H
      by_cases c4 : j < 4
      · rw [if_pos c4] at H
        obtain ⟨ys, hy, H⟩ := Option.bind_eq_some_iff.mp H
        have HY := Aside0.mk hy
        have HZ := Aside0.mk H
        clear hy H
        have hj4 : j = 0 ∨ j = 1 ∨ j = 2 ∨ j = 3 := by have := HJ.out; omega
        clear HJ c4
        rcases hj4 with rfl | rfl | rfl | rfl
        · have HT := Aside0.mk (fun (W2 : World) (i : Int) (hq : W2.cell? ⟨gq, 0, none⟩ = some (.func (.func 26) #[] #[.pointer (some ⟨ga, 0, none⟩), .pointer (some ⟨gn, 0, none⟩), .pointer (some ⟨gb, 0, none⟩)])) (hh : Holds W2 ga gn gb a a2 b) (hd : den a2 (argJ 0 a2 i) ≠ 0) => show Calls Try.prog 27 #[.int .i64 i, .pointer (some ⟨gq, 0, none⟩)] W2 (fun e W3 => e = .returned (.agg #[.int .i64 (turnAt a a2 b 0 i).f0, .int .i64 (turnAt a a2 b 0 i).f1]) ∧ Below W2.heap.size W2 W3) by rw [turnAt_0]; rw [argJ_0] at hd; exact turn27_calls gq ga gn gb a a2 b i W2 hq hh hd)
          have hnn : wr.cell? ⟨gn, 0, none⟩ = some (.int .i64 a2) := (blk_cell NB.out 0).trans rfl
          go_wp2
          clear hnn
          replace HZ := Aside0.mk (show outL k1 a a2 b 1 ys = some r0 by have h := HZ.out; rw [show wrap64 ((0 : Int) + 1) = 1 by unfold wrap64; omega] at h; exact h)
          go_loopg [12, 34] inK (fun kq v12 v34 w2 => ∃ (i : Int) (xs : List S28), v34 = .int .i64 i ∧ Aside0 (inL kq a a2 b 0 i xs = some ys) ∧ Aside0 (w2.heap[gm]? = some (.cells #[.int .i64 a, .int .i64 b] 28 (0, 0))) ∧ Aside0 (w2.heap[gn]? = some (.cells #[.int .i64 a2] 3 (0, 0))) ∧ Aside0 (w2.heap[ga]? = some (.cells #[.int .i64 a] 3 (0, 0))) ∧ Aside0 (w2.heap[gb]? = some (.cells #[.int .i64 b] 3 (0, 0))) ∧ Aside0 (w2.heap[gq]? = some (.cells #[.func (.func 26) #[] #[.pointer (some ⟨ga, 0, none⟩), .pointer (some ⟨gn, 0, none⟩), .pointer (some ⟨gb, 0, none⟩)]] 48 (0, 0))) ∧ Aside0 (Kd.R k28 28 w2 w.heap.size (fun k => k ≠ gm) v12 xs) ∧ Aside0 (Below w.heap.size w w2))
          case atStart => exact ⟨0, xs, rfl, HY, M, NB, AB, BB, QB, HO, HB⟩
          case round =>
            clear HY M NB AB BB QB HO HB
            obtain ⟨i, xs, rfl, HA, M, NB, AB, BB, QB, HO, HB⟩ := hrel
            cases gk with
            | zero => exact absurd HA.out (by simp [inL])
            | succ k2 =>
              have H := HA.out
              clear HA
              rw [inL] at H
              by_cases c5 : i < a2
              · rw [if_pos c5] at H
                have t5 : decide (i < a2) = true := decide_eq_true c5
                clear c5
                obtain ⟨hd, H⟩ := some_of_ite H
                obtain ⟨hl, H⟩ := some_of_ite H
                have HD := Aside0.mk hd
                have LM := Aside0.mk hl
                obtain ⟨T, hT⟩ : ∃ T, turnAt a a2 b 0 i = T := ⟨_, rfl⟩
                have HTi := Aside0.mk (fun W2 hq hh => HT.out W2 i hq hh hd)
                rw [hT] at H HTi
                have HY := Aside0.mk H
                clear hd hl H hT
                go_wp2
                refine start_ (n := 9) (S := fun w' => w'.cell? ⟨gm, 0, none⟩ = some (.int .i64 a) ∧ w'.cell? ⟨gm, 1, none⟩ = some (.int .i64 b)) (ds := []) #[false, false, false, false, false, false, false, false, false] (by kernel_rfl) rfl rfl ⟨(blk_cell M.out 0).trans rfl, (blk_cell M.out 1).trans rfl⟩ (fun hHeld => ?_)
                generalize hwd : wr.drew = wd at hHeld ⊢
                replace M := Aside0.mk (show wd.heap[gm]? = _ by subst hwd; exact M.out)
                replace NB := Aside0.mk (show wd.heap[gn]? = _ by subst hwd; exact NB.out)
                replace AB := Aside0.mk (show wd.heap[ga]? = _ by subst hwd; exact AB.out)
                replace BB := Aside0.mk (show wd.heap[gb]? = _ by subst hwd; exact BB.out)
                replace QB := Aside0.mk (show wd.heap[gq]? = _ by subst hwd; exact QB.out)
                replace HO := Aside0.mk (show Kd.R k28 28 wd w.heap.size (fun k => k ≠ gm) u12 xs by subst hwd; exact Kd.R_drew HO.out)
                replace HB := Aside0.mk (show Below w.heap.size w wd by subst hwd; exact below_drew1 HB.out)
                clear hwd
                refine pure_ (i := 0) (N := some 37) (v := ?_) (a' := ?_) #[true, false, false, false, false, false, false, false, false] rfl rfl (by kernel_rfl) (fun _ _ _ h => h) (Or.inl ⟨by rfl, ?_⟩) ?_ ?_
                rotate_left
                · intro w'
                  go_simp
                  with_reducible rfl
                rotate_left
                · simp only [Act.put, List.setIfInBounds_toArray, List.set_cons_zero, List.set_cons_succ, i64_w, i32_w]
                  rfl
                refine pure_ (i := 2) (N := some 39) (v := ?_) (a' := ?_) #[true, false, true, false, false, false, false, false, false] rfl rfl (by kernel_rfl) (fun _ _ _ h => h) (Or.inl ⟨by rfl, ?_⟩) ?_ ?_
                rotate_left
                · intro w'
                  go_simp
                  with_reducible rfl
                rotate_left
                · simp only [Act.put, List.setIfInBounds_toArray, List.set_cons_zero, List.set_cons_succ, i64_w, i32_w]
                  rfl
                refine pure_ (i := 3) (N := some 40) (v := ?_) (a' := ?_) #[true, false, true, true, false, false, false, false, false] rfl rfl (by kernel_rfl) (fun _ _ _ h => h) (Or.inl ⟨by rfl, ?_⟩) ?_ ?_
                rotate_left
                · intro w'
                  go_simp
                  with_reducible rfl
                rotate_left
                · simp only [Act.put, List.setIfInBounds_toArray, List.set_cons_zero, List.set_cons_succ, i64_w, i32_w]
                  rfl
                refine take_ (i := 1) (N := some 38) (v := ?_) (a' := ?_) #[true, true, true, true, false, false, false, false, false] rfl rfl (by kernel_rfl) (fun _ _ _ h => h) (Or.inl ⟨by rfl, ?_⟩) hHeld ?_ ?_
                rotate_left
                · rintro w' ⟨s0, s1⟩
                  go_simp
                  with_reducible rfl
                rotate_left
                · simp only [Act.put, List.setIfInBounds_toArray, List.set_cons_zero, List.set_cons_succ, i64_w, i32_w]
                  rfl
                refine one_ (i := 4) (N := some 41) #[true, true, true, true, true, false, false, false, false] rfl rfl (by kernel_rfl) (by decide) (fun K hK => ?_)
                refine goesFV_ rfl rfl Try.func27 (by kernel_rfl) rfl #[.int .i64 i, .pointer (some ⟨gq, 0, none⟩)] (by rfl) rfl (by first | rfl | (go_simp; done)) ?_
                refine (HTi.out wd ((blk_cell QB.out 0).trans rfl) ⟨(blk_cell AB.out 0).trans rfl, (blk_cell NB.out 0).trans rfl, (blk_cell BB.out 0).trans rfl⟩).mono ?_
                rintro e w5 ⟨rfl, hb5⟩
                refine ⟨_, rfl, ?_⟩
                have M5 := Aside0.mk (blk_below M.out hb5); have N5 := Aside0.mk (blk_below NB.out hb5); have A5 := Aside0.mk (blk_below AB.out hb5); have B5 := Aside0.mk (blk_below BB.out hb5); have Q5 := Aside0.mk (blk_below QB.out hb5); have O5 := Aside0.mk (Kd.R_below HO.out hb5); have H5 := Aside0.mk (below_step HB.out hb5)
                clear M NB AB BB QB HO HB hb5 hHeld
                have M := M5; have NB := N5; have AB := A5; have BB := B5; have QB := Q5; have HO := O5; have HB := H5
                clear M5 N5 A5 B5 Q5 O5 H5
                refine hK.out _ _ ⟨(blk_cell M.out 0).trans rfl, (blk_cell M.out 1).trans rfl⟩ (fun hHeld => ?_)
                clear hK K
                refine norm_ (a' := ?_) ?_ ?_
                rotate_left
                · show Act.put _ (some 41) _ = _
                  simp only [Act.put, List.setIfInBounds_toArray, List.set_cons_zero, List.set_cons_succ, i64_w, i32_w]
                  rfl
                refine one_ (i := 5) (N := some 42) #[true, true, true, true, true, true, false, false, false] rfl rfl (by kernel_rfl) (by decide) (fun K hK => ?_)
                refine goes_ Try.func30 (by kernel_rfl) rfl #[.agg #[.int .i64 a, .int .i64 b], .agg #[.int .i64 T.f0, .int .i64 T.f1]] (by rfl) rfl rfl (by (try simp only [List.map_toArray, List.map_cons, List.map_nil]); first | done | rfl | (go_simp; done)) ?_
                refine (QCp.curve_plus.calls a b T.f0 T.f1 (wrap64 (a + T.f0)) (wrap64 (b + T.f1)) w5 rfl).mono ?_
                rintro e w6 ⟨rfl, hb5⟩
                refine ⟨_, rfl, ?_⟩
                have M5 := Aside0.mk (blk_below M.out hb5); have N5 := Aside0.mk (blk_below NB.out hb5); have A5 := Aside0.mk (blk_below AB.out hb5); have B5 := Aside0.mk (blk_below BB.out hb5); have Q5 := Aside0.mk (blk_below QB.out hb5); have O5 := Aside0.mk (Kd.R_below HO.out hb5); have H5 := Aside0.mk (below_step HB.out hb5)
                clear M NB AB BB QB HO HB hb5 hHeld
                have M := M5; have NB := N5; have AB := A5; have BB := B5; have QB := Q5; have HO := O5; have HB := H5
                clear M5 N5 A5 B5 Q5 O5 H5
                refine hK.out _ _ ⟨(blk_cell M.out 0).trans rfl, (blk_cell M.out 1).trans rfl⟩ (fun hHeld => ?_)
                clear hK K
                refine norm_ (a' := ?_) ?_ ?_
                rotate_left
                · show Act.put _ (some 42) _ = _
                  simp only [Act.put, List.setIfInBounds_toArray, List.set_cons_zero, List.set_cons_succ, i64_w, i32_w]
                  rfl
                refine one_ (i := 6) (N := some 43) #[true, true, true, true, true, true, true, false, false] rfl rfl (by kernel_rfl) (by decide) (fun K hK => ?_)
                refine value_ (w1 := ?_) (v := ?_) (by rfl) rfl ?_ ?_
                rotate_left 2
                · go_simp
                  constructor
                  · rfl
                  · rfl
                refine hK.out _ _ ⟨(blk_cell (blk_alloc M.out _) 0).trans rfl, (blk_cell (blk_alloc M.out _) 1).trans rfl⟩ (fun hHeld => ?_)
                clear hK K
                refine norm_ (a' := ?_) ?_ ?_
                rotate_left
                · show Act.put _ (some 43) _ = _
                  simp only [Act.put, List.setIfInBounds_toArray, List.set_cons_zero, List.set_cons_succ, i64_w, i32_w]
                  rfl
                refine one_ (i := 7) (N := some 44) #[true, true, true, true, true, true, true, true, false] rfl rfl (by kernel_rfl) (by decide) (fun K hK => ?_)
                refine Kd.R_append_step k28 (w0 := w) w.heap.size (by rfl) (.tmp 37) (.tmp 43) 23 28 (.agg #[(.int .i64 0), (.int .i64 0)]) 16 rfl Try.underlying23 info28 rfl (by decide) (by omega) u12 xs (⟨wrap64 (a + T.f0), wrap64 (b + T.f1)⟩ : S28) [.int .i64 (wrap64 (a + T.f0)), .int .i64 (wrap64 (b + T.f1))] (fun k => k ≠ gm) (fun _ => False) rfl rfl ?aP (fun _ hk => hk.elim) ?aF ?aO ?aB ?aS ?aL ?_
                (case aP => exact k28_mkM _ _ _ (⟨wrap64 (a + T.f0), wrap64 (b + T.f1)⟩ : S28))
                (case aB => exact HB.out)
                (case aF => exact (fun k hk => by have := blk_lt M.out; omega))
                (case aO => exact HO.out)
                (case aS => exact below_size HB.out)
                (case aL => have := LM.out; omega)
                intro v9 w9 ho hb hg hat
                have M5 := Aside0.mk (blk_grown M.out hg (Kd.R_away HO.out (fun _ h => h)))
                have N5 := Aside0.mk (blk_grown NB.out hg (Kd.R_ne HO.out NB.out (by decide)))
                have A5 := Aside0.mk (blk_grown AB.out hg (Kd.R_ne HO.out AB.out (by decide)))
                have B5 := Aside0.mk (blk_grown BB.out hg (Kd.R_ne HO.out BB.out (by decide)))
                have Q5 := Aside0.mk (blk_grown QB.out hg (Kd.R_ne HO.out QB.out (by decide)))
                have O5 := Aside0.mk ho
                have H5 := Aside0.mk hb
                clear M NB AB BB QB HO HB hHeld ho hb hg hat
                have M := M5; have NB := N5; have AB := A5; have BB := B5; have QB := Q5; have HO := O5; have HB := H5
                clear M5 N5 A5 B5 Q5 O5 H5
                refine hK.out _ _ ⟨(blk_cell M.out 0).trans rfl, (blk_cell M.out 1).trans rfl⟩ (fun hHeld => ?_)
                clear hK K
                refine norm_ (a' := ?_) ?_ ?_
                rotate_left
                · show Act.put _ (some 44) _ = _
                  simp only [Act.put, List.setIfInBounds_toArray, List.set_cons_zero, List.set_cons_succ, i64_w, i32_w]
                  rfl
                refine pure_ (i := 8) (N := some 12) (v := ?_) (a' := ?_) #[true, true, true, true, true, true, true, true, true] rfl rfl (by kernel_rfl) (fun _ _ _ h => h) (Or.inl ⟨by rfl, ?_⟩) ?_ ?_
                rotate_left
                · intro w'
                  go_simp
                  with_reducible rfl
                rotate_left
                · simp only [Act.put, List.setIfInBounds_toArray, List.set_cons_zero, List.set_cons_succ, i64_w, i32_w]
                  rfl
                refine done_ (by kernel_rfl) ?_
                go_wp2
                go_roundg k2
                case measure => omega
                case rel => exact ⟨_, _, rfl, HY, M, NB, AB, BB, QB, HO, HB⟩
              · rw [if_neg c5] at H
                have t5 : decide (i < a2) = false := decide_eq_false c5
                clear c5
                obtain rfl := Option.some.inj H
                clear H
                go_wp2
                go_roundg k1
                case measure => omega
                case rel => exact ⟨_, _, rfl, ⟨by omega⟩, HZ, M, NB, AB, BB, QB, HO, HB⟩
        · have HT := Aside0.mk (fun (W2 : World) (i : Int) (hq : W2.cell? ⟨gq, 0, none⟩ = some (.func (.func 26) #[] #[.pointer (some ⟨ga, 0, none⟩), .pointer (some ⟨gn, 0, none⟩), .pointer (some ⟨gb, 0, none⟩)])) (hh : Holds W2 ga gn gb a a2 b) (hd : den a2 (argJ 1 a2 i) ≠ 0) => show Calls Try.prog 28 #[.int .i64 i, .pointer (some ⟨gq, 0, none⟩), .pointer (some ⟨gn, 0, none⟩)] W2 (fun e W3 => e = .returned (.agg #[.int .i64 (turnAt a a2 b 1 i).f0, .int .i64 (turnAt a a2 b 1 i).f1]) ∧ Below W2.heap.size W2 W3) by rw [turnAt_1]; rw [argJ_1] at hd; exact turn28_calls gq ga gn gb a a2 b i W2 hq hh hd)
          have hnn : wr.cell? ⟨gn, 0, none⟩ = some (.int .i64 a2) := (blk_cell NB.out 0).trans rfl
          go_wp2
          clear hnn
          replace HZ := Aside0.mk (show outL k1 a a2 b 2 ys = some r0 by have h := HZ.out; rw [show wrap64 ((1 : Int) + 1) = 2 by unfold wrap64; omega] at h; exact h)
          go_loopg [12, 34] inK (fun kq v12 v34 w2 => ∃ (i : Int) (xs : List S28), v34 = .int .i64 i ∧ Aside0 (inL kq a a2 b 1 i xs = some ys) ∧ Aside0 (w2.heap[gm]? = some (.cells #[.int .i64 a, .int .i64 b] 28 (0, 0))) ∧ Aside0 (w2.heap[gn]? = some (.cells #[.int .i64 a2] 3 (0, 0))) ∧ Aside0 (w2.heap[ga]? = some (.cells #[.int .i64 a] 3 (0, 0))) ∧ Aside0 (w2.heap[gb]? = some (.cells #[.int .i64 b] 3 (0, 0))) ∧ Aside0 (w2.heap[gq]? = some (.cells #[.func (.func 26) #[] #[.pointer (some ⟨ga, 0, none⟩), .pointer (some ⟨gn, 0, none⟩), .pointer (some ⟨gb, 0, none⟩)]] 48 (0, 0))) ∧ Aside0 (Kd.R k28 28 w2 w.heap.size (fun k => k ≠ gm) v12 xs) ∧ Aside0 (Below w.heap.size w w2))
          case atStart => exact ⟨0, xs, rfl, HY, M, NB, AB, BB, QB, HO, HB⟩
          case round =>
            clear HY M NB AB BB QB HO HB
            obtain ⟨i, xs, rfl, HA, M, NB, AB, BB, QB, HO, HB⟩ := hrel
            cases gk with
            | zero => exact absurd HA.out (by simp [inL])
            | succ k2 =>
              have H := HA.out
              clear HA
              rw [inL] at H
              by_cases c5 : i < a2
              · rw [if_pos c5] at H
                have t5 : decide (i < a2) = true := decide_eq_true c5
                clear c5
                obtain ⟨hd, H⟩ := some_of_ite H
                obtain ⟨hl, H⟩ := some_of_ite H
                have HD := Aside0.mk hd
                have LM := Aside0.mk hl
                obtain ⟨T, hT⟩ : ∃ T, turnAt a a2 b 1 i = T := ⟨_, rfl⟩
                have HTi := Aside0.mk (fun W2 hq hh => HT.out W2 i hq hh hd)
                rw [hT] at H HTi
                have HY := Aside0.mk H
                clear hd hl H hT
                go_wp2
                refine start_ (n := 9) (S := fun w' => w'.cell? ⟨gm, 0, none⟩ = some (.int .i64 a) ∧ w'.cell? ⟨gm, 1, none⟩ = some (.int .i64 b)) (ds := []) #[false, false, false, false, false, false, false, false, false] (by kernel_rfl) rfl rfl ⟨(blk_cell M.out 0).trans rfl, (blk_cell M.out 1).trans rfl⟩ (fun hHeld => ?_)
                generalize hwd : wr.drew = wd at hHeld ⊢
                replace M := Aside0.mk (show wd.heap[gm]? = _ by subst hwd; exact M.out)
                replace NB := Aside0.mk (show wd.heap[gn]? = _ by subst hwd; exact NB.out)
                replace AB := Aside0.mk (show wd.heap[ga]? = _ by subst hwd; exact AB.out)
                replace BB := Aside0.mk (show wd.heap[gb]? = _ by subst hwd; exact BB.out)
                replace QB := Aside0.mk (show wd.heap[gq]? = _ by subst hwd; exact QB.out)
                replace HO := Aside0.mk (show Kd.R k28 28 wd w.heap.size (fun k => k ≠ gm) u12 xs by subst hwd; exact Kd.R_drew HO.out)
                replace HB := Aside0.mk (show Below w.heap.size w wd by subst hwd; exact below_drew1 HB.out)
                clear hwd
                refine pure_ (i := 0) (N := some 37) (v := ?_) (a' := ?_) #[true, false, false, false, false, false, false, false, false] rfl rfl (by kernel_rfl) (fun _ _ _ h => h) (Or.inl ⟨by rfl, ?_⟩) ?_ ?_
                rotate_left
                · intro w'
                  go_simp
                  with_reducible rfl
                rotate_left
                · simp only [Act.put, List.setIfInBounds_toArray, List.set_cons_zero, List.set_cons_succ, i64_w, i32_w]
                  rfl
                refine pure_ (i := 2) (N := some 39) (v := ?_) (a' := ?_) #[true, false, true, false, false, false, false, false, false] rfl rfl (by kernel_rfl) (fun _ _ _ h => h) (Or.inl ⟨by rfl, ?_⟩) ?_ ?_
                rotate_left
                · intro w'
                  go_simp
                  with_reducible rfl
                rotate_left
                · simp only [Act.put, List.setIfInBounds_toArray, List.set_cons_zero, List.set_cons_succ, i64_w, i32_w]
                  rfl
                refine pure_ (i := 3) (N := some 40) (v := ?_) (a' := ?_) #[true, false, true, true, false, false, false, false, false] rfl rfl (by kernel_rfl) (fun _ _ _ h => h) (Or.inl ⟨by rfl, ?_⟩) ?_ ?_
                rotate_left
                · intro w'
                  go_simp
                  with_reducible rfl
                rotate_left
                · simp only [Act.put, List.setIfInBounds_toArray, List.set_cons_zero, List.set_cons_succ, i64_w, i32_w]
                  rfl
                refine take_ (i := 1) (N := some 38) (v := ?_) (a' := ?_) #[true, true, true, true, false, false, false, false, false] rfl rfl (by kernel_rfl) (fun _ _ _ h => h) (Or.inl ⟨by rfl, ?_⟩) hHeld ?_ ?_
                rotate_left
                · rintro w' ⟨s0, s1⟩
                  go_simp
                  with_reducible rfl
                rotate_left
                · simp only [Act.put, List.setIfInBounds_toArray, List.set_cons_zero, List.set_cons_succ, i64_w, i32_w]
                  rfl
                refine one_ (i := 4) (N := some 41) #[true, true, true, true, true, false, false, false, false] rfl rfl (by kernel_rfl) (by decide) (fun K hK => ?_)
                refine goesFV_ rfl rfl Try.func28 (by kernel_rfl) rfl #[.int .i64 i, .pointer (some ⟨gq, 0, none⟩), .pointer (some ⟨gn, 0, none⟩)] (by rfl) rfl (by first | rfl | (go_simp; done)) ?_
                refine (HTi.out wd ((blk_cell QB.out 0).trans rfl) ⟨(blk_cell AB.out 0).trans rfl, (blk_cell NB.out 0).trans rfl, (blk_cell BB.out 0).trans rfl⟩).mono ?_
                rintro e w5 ⟨rfl, hb5⟩
                refine ⟨_, rfl, ?_⟩
                have M5 := Aside0.mk (blk_below M.out hb5); have N5 := Aside0.mk (blk_below NB.out hb5); have A5 := Aside0.mk (blk_below AB.out hb5); have B5 := Aside0.mk (blk_below BB.out hb5); have Q5 := Aside0.mk (blk_below QB.out hb5); have O5 := Aside0.mk (Kd.R_below HO.out hb5); have H5 := Aside0.mk (below_step HB.out hb5)
                clear M NB AB BB QB HO HB hb5 hHeld
                have M := M5; have NB := N5; have AB := A5; have BB := B5; have QB := Q5; have HO := O5; have HB := H5
                clear M5 N5 A5 B5 Q5 O5 H5
                refine hK.out _ _ ⟨(blk_cell M.out 0).trans rfl, (blk_cell M.out 1).trans rfl⟩ (fun hHeld => ?_)
                clear hK K
                refine norm_ (a' := ?_) ?_ ?_
                rotate_left
                · show Act.put _ (some 41) _ = _
                  simp only [Act.put, List.setIfInBounds_toArray, List.set_cons_zero, List.set_cons_succ, i64_w, i32_w]
                  rfl
                refine one_ (i := 5) (N := some 42) #[true, true, true, true, true, true, false, false, false] rfl rfl (by kernel_rfl) (by decide) (fun K hK => ?_)
                refine goes_ Try.func30 (by kernel_rfl) rfl #[.agg #[.int .i64 a, .int .i64 b], .agg #[.int .i64 T.f0, .int .i64 T.f1]] (by rfl) rfl rfl (by (try simp only [List.map_toArray, List.map_cons, List.map_nil]); first | done | rfl | (go_simp; done)) ?_
                refine (QCp.curve_plus.calls a b T.f0 T.f1 (wrap64 (a + T.f0)) (wrap64 (b + T.f1)) w5 rfl).mono ?_
                rintro e w6 ⟨rfl, hb5⟩
                refine ⟨_, rfl, ?_⟩
                have M5 := Aside0.mk (blk_below M.out hb5); have N5 := Aside0.mk (blk_below NB.out hb5); have A5 := Aside0.mk (blk_below AB.out hb5); have B5 := Aside0.mk (blk_below BB.out hb5); have Q5 := Aside0.mk (blk_below QB.out hb5); have O5 := Aside0.mk (Kd.R_below HO.out hb5); have H5 := Aside0.mk (below_step HB.out hb5)
                clear M NB AB BB QB HO HB hb5 hHeld
                have M := M5; have NB := N5; have AB := A5; have BB := B5; have QB := Q5; have HO := O5; have HB := H5
                clear M5 N5 A5 B5 Q5 O5 H5
                refine hK.out _ _ ⟨(blk_cell M.out 0).trans rfl, (blk_cell M.out 1).trans rfl⟩ (fun hHeld => ?_)
                clear hK K
                refine norm_ (a' := ?_) ?_ ?_
                rotate_left
                · show Act.put _ (some 42) _ = _
                  simp only [Act.put, List.setIfInBounds_toArray, List.set_cons_zero, List.set_cons_succ, i64_w, i32_w]
                  rfl
                refine one_ (i := 6) (N := some 43) #[true, true, true, true, true, true, true, false, false] rfl rfl (by kernel_rfl) (by decide) (fun K hK => ?_)
                refine value_ (w1 := ?_) (v := ?_) (by rfl) rfl ?_ ?_
                rotate_left 2
                · go_simp
                  constructor
                  · rfl
                  · rfl
                refine hK.out _ _ ⟨(blk_cell (blk_alloc M.out _) 0).trans rfl, (blk_cell (blk_alloc M.out _) 1).trans rfl⟩ (fun hHeld => ?_)
                clear hK K
                refine norm_ (a' := ?_) ?_ ?_
                rotate_left
                · show Act.put _ (some 43) _ = _
                  simp only [Act.put, List.setIfInBounds_toArray, List.set_cons_zero, List.set_cons_succ, i64_w, i32_w]
                  rfl
                refine one_ (i := 7) (N := some 44) #[true, true, true, true, true, true, true, true, false] rfl rfl (by kernel_rfl) (by decide) (fun K hK => ?_)
                refine Kd.R_append_step k28 (w0 := w) w.heap.size (by rfl) (.tmp 37) (.tmp 43) 23 28 (.agg #[(.int .i64 0), (.int .i64 0)]) 16 rfl Try.underlying23 info28 rfl (by decide) (by omega) u12 xs (⟨wrap64 (a + T.f0), wrap64 (b + T.f1)⟩ : S28) [.int .i64 (wrap64 (a + T.f0)), .int .i64 (wrap64 (b + T.f1))] (fun k => k ≠ gm) (fun _ => False) rfl rfl ?aP (fun _ hk => hk.elim) ?aF ?aO ?aB ?aS ?aL ?_
                (case aP => exact k28_mkM _ _ _ (⟨wrap64 (a + T.f0), wrap64 (b + T.f1)⟩ : S28))
                (case aB => exact HB.out)
                (case aF => exact (fun k hk => by have := blk_lt M.out; omega))
                (case aO => exact HO.out)
                (case aS => exact below_size HB.out)
                (case aL => have := LM.out; omega)
                intro v9 w9 ho hb hg hat
                have M5 := Aside0.mk (blk_grown M.out hg (Kd.R_away HO.out (fun _ h => h)))
                have N5 := Aside0.mk (blk_grown NB.out hg (Kd.R_ne HO.out NB.out (by decide)))
                have A5 := Aside0.mk (blk_grown AB.out hg (Kd.R_ne HO.out AB.out (by decide)))
                have B5 := Aside0.mk (blk_grown BB.out hg (Kd.R_ne HO.out BB.out (by decide)))
                have Q5 := Aside0.mk (blk_grown QB.out hg (Kd.R_ne HO.out QB.out (by decide)))
                have O5 := Aside0.mk ho
                have H5 := Aside0.mk hb
                clear M NB AB BB QB HO HB hHeld ho hb hg hat
                have M := M5; have NB := N5; have AB := A5; have BB := B5; have QB := Q5; have HO := O5; have HB := H5
                clear M5 N5 A5 B5 Q5 O5 H5
                refine hK.out _ _ ⟨(blk_cell M.out 0).trans rfl, (blk_cell M.out 1).trans rfl⟩ (fun hHeld => ?_)
                clear hK K
                refine norm_ (a' := ?_) ?_ ?_
                rotate_left
                · show Act.put _ (some 44) _ = _
                  simp only [Act.put, List.setIfInBounds_toArray, List.set_cons_zero, List.set_cons_succ, i64_w, i32_w]
                  rfl
                refine pure_ (i := 8) (N := some 12) (v := ?_) (a' := ?_) #[true, true, true, true, true, true, true, true, true] rfl rfl (by kernel_rfl) (fun _ _ _ h => h) (Or.inl ⟨by rfl, ?_⟩) ?_ ?_
                rotate_left
                · intro w'
                  go_simp
                  with_reducible rfl
                rotate_left
                · simp only [Act.put, List.setIfInBounds_toArray, List.set_cons_zero, List.set_cons_succ, i64_w, i32_w]
                  rfl
                refine done_ (by kernel_rfl) ?_
                go_wp2
                go_roundg k2
                case measure => omega
                case rel => exact ⟨_, _, rfl, HY, M, NB, AB, BB, QB, HO, HB⟩
              · rw [if_neg c5] at H
                have t5 : decide (i < a2) = false := decide_eq_false c5
                clear c5
                obtain rfl := Option.some.inj H
                clear H
                go_wp2
                go_roundg k1
                case measure => omega
                case rel => exact ⟨_, _, rfl, ⟨by omega⟩, HZ, M, NB, AB, BB, QB, HO, HB⟩
        · have HT := Aside0.mk (fun (W2 : World) (i : Int) (hq : W2.cell? ⟨gq, 0, none⟩ = some (.func (.func 26) #[] #[.pointer (some ⟨ga, 0, none⟩), .pointer (some ⟨gn, 0, none⟩), .pointer (some ⟨gb, 0, none⟩)])) (hh : Holds W2 ga gn gb a a2 b) (hd : den a2 (argJ 2 a2 i) ≠ 0) => show Calls Try.prog 26 #[.int .i64 i, .pointer (some ⟨ga, 0, none⟩), .pointer (some ⟨gn, 0, none⟩), .pointer (some ⟨gb, 0, none⟩)] W2 (fun e W3 => e = .returned (.agg #[.int .i64 (turnAt a a2 b 2 i).f0, .int .i64 (turnAt a a2 b 2 i).f1]) ∧ Below W2.heap.size W2 W3) by rw [turnAt_2]; rw [argJ_2] at hd; exact quarter_calls ga gn gb a a2 b i W2 hh hd)
          have hnn : wr.cell? ⟨gn, 0, none⟩ = some (.int .i64 a2) := (blk_cell NB.out 0).trans rfl
          go_wp2
          clear hnn
          replace HZ := Aside0.mk (show outL k1 a a2 b 3 ys = some r0 by have h := HZ.out; rw [show wrap64 ((2 : Int) + 1) = 3 by unfold wrap64; omega] at h; exact h)
          go_loopg [12, 34] inK (fun kq v12 v34 w2 => ∃ (i : Int) (xs : List S28), v34 = .int .i64 i ∧ Aside0 (inL kq a a2 b 2 i xs = some ys) ∧ Aside0 (w2.heap[gm]? = some (.cells #[.int .i64 a, .int .i64 b] 28 (0, 0))) ∧ Aside0 (w2.heap[gn]? = some (.cells #[.int .i64 a2] 3 (0, 0))) ∧ Aside0 (w2.heap[ga]? = some (.cells #[.int .i64 a] 3 (0, 0))) ∧ Aside0 (w2.heap[gb]? = some (.cells #[.int .i64 b] 3 (0, 0))) ∧ Aside0 (w2.heap[gq]? = some (.cells #[.func (.func 26) #[] #[.pointer (some ⟨ga, 0, none⟩), .pointer (some ⟨gn, 0, none⟩), .pointer (some ⟨gb, 0, none⟩)]] 48 (0, 0))) ∧ Aside0 (Kd.R k28 28 w2 w.heap.size (fun k => k ≠ gm) v12 xs) ∧ Aside0 (Below w.heap.size w w2))
          case atStart => exact ⟨0, xs, rfl, HY, M, NB, AB, BB, QB, HO, HB⟩
          case round =>
            clear HY M NB AB BB QB HO HB
            obtain ⟨i, xs, rfl, HA, M, NB, AB, BB, QB, HO, HB⟩ := hrel
            cases gk with
            | zero => exact absurd HA.out (by simp [inL])
            | succ k2 =>
              have H := HA.out
              clear HA
              rw [inL] at H
              by_cases c5 : i < a2
              · rw [if_pos c5] at H
                have t5 : decide (i < a2) = true := decide_eq_true c5
                clear c5
                obtain ⟨hd, H⟩ := some_of_ite H
                obtain ⟨hl, H⟩ := some_of_ite H
                have HD := Aside0.mk hd
                have LM := Aside0.mk hl
                obtain ⟨T, hT⟩ : ∃ T, turnAt a a2 b 2 i = T := ⟨_, rfl⟩
                have HTi := Aside0.mk (fun W2 hq hh => HT.out W2 i hq hh hd)
                rw [hT] at H HTi
                have HY := Aside0.mk H
                clear hd hl H hT
                go_wp2
                refine start_ (n := 9) (S := fun w' => w'.cell? ⟨gm, 0, none⟩ = some (.int .i64 a) ∧ w'.cell? ⟨gm, 1, none⟩ = some (.int .i64 b)) (ds := []) #[false, false, false, false, false, false, false, false, false] (by kernel_rfl) rfl rfl ⟨(blk_cell M.out 0).trans rfl, (blk_cell M.out 1).trans rfl⟩ (fun hHeld => ?_)
                generalize hwd : wr.drew = wd at hHeld ⊢
                replace M := Aside0.mk (show wd.heap[gm]? = _ by subst hwd; exact M.out)
                replace NB := Aside0.mk (show wd.heap[gn]? = _ by subst hwd; exact NB.out)
                replace AB := Aside0.mk (show wd.heap[ga]? = _ by subst hwd; exact AB.out)
                replace BB := Aside0.mk (show wd.heap[gb]? = _ by subst hwd; exact BB.out)
                replace QB := Aside0.mk (show wd.heap[gq]? = _ by subst hwd; exact QB.out)
                replace HO := Aside0.mk (show Kd.R k28 28 wd w.heap.size (fun k => k ≠ gm) u12 xs by subst hwd; exact Kd.R_drew HO.out)
                replace HB := Aside0.mk (show Below w.heap.size w wd by subst hwd; exact below_drew1 HB.out)
                clear hwd
                refine pure_ (i := 0) (N := some 37) (v := ?_) (a' := ?_) #[true, false, false, false, false, false, false, false, false] rfl rfl (by kernel_rfl) (fun _ _ _ h => h) (Or.inl ⟨by rfl, ?_⟩) ?_ ?_
                rotate_left
                · intro w'
                  go_simp
                  with_reducible rfl
                rotate_left
                · simp only [Act.put, List.setIfInBounds_toArray, List.set_cons_zero, List.set_cons_succ, i64_w, i32_w]
                  rfl
                refine pure_ (i := 2) (N := some 39) (v := ?_) (a' := ?_) #[true, false, true, false, false, false, false, false, false] rfl rfl (by kernel_rfl) (fun _ _ _ h => h) (Or.inl ⟨by rfl, ?_⟩) ?_ ?_
                rotate_left
                · intro w'
                  go_simp
                  with_reducible rfl
                rotate_left
                · simp only [Act.put, List.setIfInBounds_toArray, List.set_cons_zero, List.set_cons_succ, i64_w, i32_w]
                  rfl
                refine pure_ (i := 3) (N := some 40) (v := ?_) (a' := ?_) #[true, false, true, true, false, false, false, false, false] rfl rfl (by kernel_rfl) (fun _ _ _ h => h) (Or.inl ⟨by rfl, ?_⟩) ?_ ?_
                rotate_left
                · intro w'
                  go_simp
                  with_reducible rfl
                rotate_left
                · simp only [Act.put, List.setIfInBounds_toArray, List.set_cons_zero, List.set_cons_succ, i64_w, i32_w]
                  rfl
                refine take_ (i := 1) (N := some 38) (v := ?_) (a' := ?_) #[true, true, true, true, false, false, false, false, false] rfl rfl (by kernel_rfl) (fun _ _ _ h => h) (Or.inl ⟨by rfl, ?_⟩) hHeld ?_ ?_
                rotate_left
                · rintro w' ⟨s0, s1⟩
                  go_simp
                  with_reducible rfl
                rotate_left
                · simp only [Act.put, List.setIfInBounds_toArray, List.set_cons_zero, List.set_cons_succ, i64_w, i32_w]
                  rfl
                refine one_ (i := 4) (N := some 41) #[true, true, true, true, true, false, false, false, false] rfl rfl (by kernel_rfl) (by decide) (fun K hK => ?_)
                refine goesFV_ rfl rfl Try.func26 (by kernel_rfl) rfl #[.int .i64 i, .pointer (some ⟨ga, 0, none⟩), .pointer (some ⟨gn, 0, none⟩), .pointer (some ⟨gb, 0, none⟩)] (by rfl) rfl (by first | rfl | (go_simp; done)) ?_
                refine (HTi.out wd ((blk_cell QB.out 0).trans rfl) ⟨(blk_cell AB.out 0).trans rfl, (blk_cell NB.out 0).trans rfl, (blk_cell BB.out 0).trans rfl⟩).mono ?_
                rintro e w5 ⟨rfl, hb5⟩
                refine ⟨_, rfl, ?_⟩
                have M5 := Aside0.mk (blk_below M.out hb5); have N5 := Aside0.mk (blk_below NB.out hb5); have A5 := Aside0.mk (blk_below AB.out hb5); have B5 := Aside0.mk (blk_below BB.out hb5); have Q5 := Aside0.mk (blk_below QB.out hb5); have O5 := Aside0.mk (Kd.R_below HO.out hb5); have H5 := Aside0.mk (below_step HB.out hb5)
                clear M NB AB BB QB HO HB hb5 hHeld
                have M := M5; have NB := N5; have AB := A5; have BB := B5; have QB := Q5; have HO := O5; have HB := H5
                clear M5 N5 A5 B5 Q5 O5 H5
                refine hK.out _ _ ⟨(blk_cell M.out 0).trans rfl, (blk_cell M.out 1).trans rfl⟩ (fun hHeld => ?_)
                clear hK K
                refine norm_ (a' := ?_) ?_ ?_
                rotate_left
                · show Act.put _ (some 41) _ = _
                  simp only [Act.put, List.setIfInBounds_toArray, List.set_cons_zero, List.set_cons_succ, i64_w, i32_w]
                  rfl
                refine one_ (i := 5) (N := some 42) #[true, true, true, true, true, true, false, false, false] rfl rfl (by kernel_rfl) (by decide) (fun K hK => ?_)
                refine goes_ Try.func30 (by kernel_rfl) rfl #[.agg #[.int .i64 a, .int .i64 b], .agg #[.int .i64 T.f0, .int .i64 T.f1]] (by rfl) rfl rfl (by (try simp only [List.map_toArray, List.map_cons, List.map_nil]); first | done | rfl | (go_simp; done)) ?_
                refine (QCp.curve_plus.calls a b T.f0 T.f1 (wrap64 (a + T.f0)) (wrap64 (b + T.f1)) w5 rfl).mono ?_
                rintro e w6 ⟨rfl, hb5⟩
                refine ⟨_, rfl, ?_⟩
                have M5 := Aside0.mk (blk_below M.out hb5); have N5 := Aside0.mk (blk_below NB.out hb5); have A5 := Aside0.mk (blk_below AB.out hb5); have B5 := Aside0.mk (blk_below BB.out hb5); have Q5 := Aside0.mk (blk_below QB.out hb5); have O5 := Aside0.mk (Kd.R_below HO.out hb5); have H5 := Aside0.mk (below_step HB.out hb5)
                clear M NB AB BB QB HO HB hb5 hHeld
                have M := M5; have NB := N5; have AB := A5; have BB := B5; have QB := Q5; have HO := O5; have HB := H5
                clear M5 N5 A5 B5 Q5 O5 H5
                refine hK.out _ _ ⟨(blk_cell M.out 0).trans rfl, (blk_cell M.out 1).trans rfl⟩ (fun hHeld => ?_)
                clear hK K
                refine norm_ (a' := ?_) ?_ ?_
                rotate_left
                · show Act.put _ (some 42) _ = _
                  simp only [Act.put, List.setIfInBounds_toArray, List.set_cons_zero, List.set_cons_succ, i64_w, i32_w]
                  rfl
                refine one_ (i := 6) (N := some 43) #[true, true, true, true, true, true, true, false, false] rfl rfl (by kernel_rfl) (by decide) (fun K hK => ?_)
                refine value_ (w1 := ?_) (v := ?_) (by rfl) rfl ?_ ?_
                rotate_left 2
                · go_simp
                  constructor
                  · rfl
                  · rfl
                refine hK.out _ _ ⟨(blk_cell (blk_alloc M.out _) 0).trans rfl, (blk_cell (blk_alloc M.out _) 1).trans rfl⟩ (fun hHeld => ?_)
                clear hK K
                refine norm_ (a' := ?_) ?_ ?_
                rotate_left
                · show Act.put _ (some 43) _ = _
                  simp only [Act.put, List.setIfInBounds_toArray, List.set_cons_zero, List.set_cons_succ, i64_w, i32_w]
                  rfl
                refine one_ (i := 7) (N := some 44) #[true, true, true, true, true, true, true, true, false] rfl rfl (by kernel_rfl) (by decide) (fun K hK => ?_)
                refine Kd.R_append_step k28 (w0 := w) w.heap.size (by rfl) (.tmp 37) (.tmp 43) 23 28 (.agg #[(.int .i64 0), (.int .i64 0)]) 16 rfl Try.underlying23 info28 rfl (by decide) (by omega) u12 xs (⟨wrap64 (a + T.f0), wrap64 (b + T.f1)⟩ : S28) [.int .i64 (wrap64 (a + T.f0)), .int .i64 (wrap64 (b + T.f1))] (fun k => k ≠ gm) (fun _ => False) rfl rfl ?aP (fun _ hk => hk.elim) ?aF ?aO ?aB ?aS ?aL ?_
                (case aP => exact k28_mkM _ _ _ (⟨wrap64 (a + T.f0), wrap64 (b + T.f1)⟩ : S28))
                (case aB => exact HB.out)
                (case aF => exact (fun k hk => by have := blk_lt M.out; omega))
                (case aO => exact HO.out)
                (case aS => exact below_size HB.out)
                (case aL => have := LM.out; omega)
                intro v9 w9 ho hb hg hat
                have M5 := Aside0.mk (blk_grown M.out hg (Kd.R_away HO.out (fun _ h => h)))
                have N5 := Aside0.mk (blk_grown NB.out hg (Kd.R_ne HO.out NB.out (by decide)))
                have A5 := Aside0.mk (blk_grown AB.out hg (Kd.R_ne HO.out AB.out (by decide)))
                have B5 := Aside0.mk (blk_grown BB.out hg (Kd.R_ne HO.out BB.out (by decide)))
                have Q5 := Aside0.mk (blk_grown QB.out hg (Kd.R_ne HO.out QB.out (by decide)))
                have O5 := Aside0.mk ho
                have H5 := Aside0.mk hb
                clear M NB AB BB QB HO HB hHeld ho hb hg hat
                have M := M5; have NB := N5; have AB := A5; have BB := B5; have QB := Q5; have HO := O5; have HB := H5
                clear M5 N5 A5 B5 Q5 O5 H5
                refine hK.out _ _ ⟨(blk_cell M.out 0).trans rfl, (blk_cell M.out 1).trans rfl⟩ (fun hHeld => ?_)
                clear hK K
                refine norm_ (a' := ?_) ?_ ?_
                rotate_left
                · show Act.put _ (some 44) _ = _
                  simp only [Act.put, List.setIfInBounds_toArray, List.set_cons_zero, List.set_cons_succ, i64_w, i32_w]
                  rfl
                refine pure_ (i := 8) (N := some 12) (v := ?_) (a' := ?_) #[true, true, true, true, true, true, true, true, true] rfl rfl (by kernel_rfl) (fun _ _ _ h => h) (Or.inl ⟨by rfl, ?_⟩) ?_ ?_
                rotate_left
                · intro w'
                  go_simp
                  with_reducible rfl
                rotate_left
                · simp only [Act.put, List.setIfInBounds_toArray, List.set_cons_zero, List.set_cons_succ, i64_w, i32_w]
                  rfl
                refine done_ (by kernel_rfl) ?_
                go_wp2
                go_roundg k2
                case measure => omega
                case rel => exact ⟨_, _, rfl, HY, M, NB, AB, BB, QB, HO, HB⟩
              · rw [if_neg c5] at H
                have t5 : decide (i < a2) = false := decide_eq_false c5
                clear c5
                obtain rfl := Option.some.inj H
                clear H
                go_wp2
                go_roundg k1
                case measure => omega
                case rel => exact ⟨_, _, rfl, ⟨by omega⟩, HZ, M, NB, AB, BB, QB, HO, HB⟩
        · have HT := Aside0.mk (fun (W2 : World) (i : Int) (hq : W2.cell? ⟨gq, 0, none⟩ = some (.func (.func 26) #[] #[.pointer (some ⟨ga, 0, none⟩), .pointer (some ⟨gn, 0, none⟩), .pointer (some ⟨gb, 0, none⟩)])) (hh : Holds W2 ga gn gb a a2 b) (hd : den a2 (argJ 3 a2 i) ≠ 0) => show Calls Try.prog 29 #[.int .i64 i, .pointer (some ⟨gq, 0, none⟩), .pointer (some ⟨gn, 0, none⟩)] W2 (fun e W3 => e = .returned (.agg #[.int .i64 (turnAt a a2 b 3 i).f0, .int .i64 (turnAt a a2 b 3 i).f1]) ∧ Below W2.heap.size W2 W3) by rw [turnAt_3]; rw [argJ_3] at hd; exact turn29_calls gq ga gn gb a a2 b i W2 hq hh hd)
          have hnn : wr.cell? ⟨gn, 0, none⟩ = some (.int .i64 a2) := (blk_cell NB.out 0).trans rfl
          go_wp2
          clear hnn
          replace HZ := Aside0.mk (show outL k1 a a2 b 4 ys = some r0 by have h := HZ.out; rw [show wrap64 ((3 : Int) + 1) = 4 by unfold wrap64; omega] at h; exact h)
          go_loopg [12, 34] inK (fun kq v12 v34 w2 => ∃ (i : Int) (xs : List S28), v34 = .int .i64 i ∧ Aside0 (inL kq a a2 b 3 i xs = some ys) ∧ Aside0 (w2.heap[gm]? = some (.cells #[.int .i64 a, .int .i64 b] 28 (0, 0))) ∧ Aside0 (w2.heap[gn]? = some (.cells #[.int .i64 a2] 3 (0, 0))) ∧ Aside0 (w2.heap[ga]? = some (.cells #[.int .i64 a] 3 (0, 0))) ∧ Aside0 (w2.heap[gb]? = some (.cells #[.int .i64 b] 3 (0, 0))) ∧ Aside0 (w2.heap[gq]? = some (.cells #[.func (.func 26) #[] #[.pointer (some ⟨ga, 0, none⟩), .pointer (some ⟨gn, 0, none⟩), .pointer (some ⟨gb, 0, none⟩)]] 48 (0, 0))) ∧ Aside0 (Kd.R k28 28 w2 w.heap.size (fun k => k ≠ gm) v12 xs) ∧ Aside0 (Below w.heap.size w w2))
          case atStart => exact ⟨0, xs, rfl, HY, M, NB, AB, BB, QB, HO, HB⟩
          case round =>
            clear HY M NB AB BB QB HO HB
            obtain ⟨i, xs, rfl, HA, M, NB, AB, BB, QB, HO, HB⟩ := hrel
            cases gk with
            | zero => exact absurd HA.out (by simp [inL])
            | succ k2 =>
              have H := HA.out
              clear HA
              rw [inL] at H
              by_cases c5 : i < a2
              · rw [if_pos c5] at H
                have t5 : decide (i < a2) = true := decide_eq_true c5
                clear c5
                obtain ⟨hd, H⟩ := some_of_ite H
                obtain ⟨hl, H⟩ := some_of_ite H
                have HD := Aside0.mk hd
                have LM := Aside0.mk hl
                obtain ⟨T, hT⟩ : ∃ T, turnAt a a2 b 3 i = T := ⟨_, rfl⟩
                have HTi := Aside0.mk (fun W2 hq hh => HT.out W2 i hq hh hd)
                rw [hT] at H HTi
                have HY := Aside0.mk H
                clear hd hl H hT
                go_wp2
                refine start_ (n := 9) (S := fun w' => w'.cell? ⟨gm, 0, none⟩ = some (.int .i64 a) ∧ w'.cell? ⟨gm, 1, none⟩ = some (.int .i64 b)) (ds := []) #[false, false, false, false, false, false, false, false, false] (by kernel_rfl) rfl rfl ⟨(blk_cell M.out 0).trans rfl, (blk_cell M.out 1).trans rfl⟩ (fun hHeld => ?_)
                generalize hwd : wr.drew = wd at hHeld ⊢
                replace M := Aside0.mk (show wd.heap[gm]? = _ by subst hwd; exact M.out)
                replace NB := Aside0.mk (show wd.heap[gn]? = _ by subst hwd; exact NB.out)
                replace AB := Aside0.mk (show wd.heap[ga]? = _ by subst hwd; exact AB.out)
                replace BB := Aside0.mk (show wd.heap[gb]? = _ by subst hwd; exact BB.out)
                replace QB := Aside0.mk (show wd.heap[gq]? = _ by subst hwd; exact QB.out)
                replace HO := Aside0.mk (show Kd.R k28 28 wd w.heap.size (fun k => k ≠ gm) u12 xs by subst hwd; exact Kd.R_drew HO.out)
                replace HB := Aside0.mk (show Below w.heap.size w wd by subst hwd; exact below_drew1 HB.out)
                clear hwd
                refine pure_ (i := 0) (N := some 37) (v := ?_) (a' := ?_) #[true, false, false, false, false, false, false, false, false] rfl rfl (by kernel_rfl) (fun _ _ _ h => h) (Or.inl ⟨by rfl, ?_⟩) ?_ ?_
                rotate_left
                · intro w'
                  go_simp
                  with_reducible rfl
                rotate_left
                · simp only [Act.put, List.setIfInBounds_toArray, List.set_cons_zero, List.set_cons_succ, i64_w, i32_w]
                  rfl
                refine pure_ (i := 2) (N := some 39) (v := ?_) (a' := ?_) #[true, false, true, false, false, false, false, false, false] rfl rfl (by kernel_rfl) (fun _ _ _ h => h) (Or.inl ⟨by rfl, ?_⟩) ?_ ?_
                rotate_left
                · intro w'
                  go_simp
                  with_reducible rfl
                rotate_left
                · simp only [Act.put, List.setIfInBounds_toArray, List.set_cons_zero, List.set_cons_succ, i64_w, i32_w]
                  rfl
                refine pure_ (i := 3) (N := some 40) (v := ?_) (a' := ?_) #[true, false, true, true, false, false, false, false, false] rfl rfl (by kernel_rfl) (fun _ _ _ h => h) (Or.inl ⟨by rfl, ?_⟩) ?_ ?_
                rotate_left
                · intro w'
                  go_simp
                  with_reducible rfl
                rotate_left
                · simp only [Act.put, List.setIfInBounds_toArray, List.set_cons_zero, List.set_cons_succ, i64_w, i32_w]
                  rfl
                refine take_ (i := 1) (N := some 38) (v := ?_) (a' := ?_) #[true, true, true, true, false, false, false, false, false] rfl rfl (by kernel_rfl) (fun _ _ _ h => h) (Or.inl ⟨by rfl, ?_⟩) hHeld ?_ ?_
                rotate_left
                · rintro w' ⟨s0, s1⟩
                  go_simp
                  with_reducible rfl
                rotate_left
                · simp only [Act.put, List.setIfInBounds_toArray, List.set_cons_zero, List.set_cons_succ, i64_w, i32_w]
                  rfl
                refine one_ (i := 4) (N := some 41) #[true, true, true, true, true, false, false, false, false] rfl rfl (by kernel_rfl) (by decide) (fun K hK => ?_)
                refine goesFV_ rfl rfl Try.func29 (by kernel_rfl) rfl #[.int .i64 i, .pointer (some ⟨gq, 0, none⟩), .pointer (some ⟨gn, 0, none⟩)] (by rfl) rfl (by first | rfl | (go_simp; done)) ?_
                refine (HTi.out wd ((blk_cell QB.out 0).trans rfl) ⟨(blk_cell AB.out 0).trans rfl, (blk_cell NB.out 0).trans rfl, (blk_cell BB.out 0).trans rfl⟩).mono ?_
                rintro e w5 ⟨rfl, hb5⟩
                refine ⟨_, rfl, ?_⟩
                have M5 := Aside0.mk (blk_below M.out hb5); have N5 := Aside0.mk (blk_below NB.out hb5); have A5 := Aside0.mk (blk_below AB.out hb5); have B5 := Aside0.mk (blk_below BB.out hb5); have Q5 := Aside0.mk (blk_below QB.out hb5); have O5 := Aside0.mk (Kd.R_below HO.out hb5); have H5 := Aside0.mk (below_step HB.out hb5)
                clear M NB AB BB QB HO HB hb5 hHeld
                have M := M5; have NB := N5; have AB := A5; have BB := B5; have QB := Q5; have HO := O5; have HB := H5
                clear M5 N5 A5 B5 Q5 O5 H5
                refine hK.out _ _ ⟨(blk_cell M.out 0).trans rfl, (blk_cell M.out 1).trans rfl⟩ (fun hHeld => ?_)
                clear hK K
                refine norm_ (a' := ?_) ?_ ?_
                rotate_left
                · show Act.put _ (some 41) _ = _
                  simp only [Act.put, List.setIfInBounds_toArray, List.set_cons_zero, List.set_cons_succ, i64_w, i32_w]
                  rfl
                refine one_ (i := 5) (N := some 42) #[true, true, true, true, true, true, false, false, false] rfl rfl (by kernel_rfl) (by decide) (fun K hK => ?_)
                refine goes_ Try.func30 (by kernel_rfl) rfl #[.agg #[.int .i64 a, .int .i64 b], .agg #[.int .i64 T.f0, .int .i64 T.f1]] (by rfl) rfl rfl (by (try simp only [List.map_toArray, List.map_cons, List.map_nil]); first | done | rfl | (go_simp; done)) ?_
                refine (QCp.curve_plus.calls a b T.f0 T.f1 (wrap64 (a + T.f0)) (wrap64 (b + T.f1)) w5 rfl).mono ?_
                rintro e w6 ⟨rfl, hb5⟩
                refine ⟨_, rfl, ?_⟩
                have M5 := Aside0.mk (blk_below M.out hb5); have N5 := Aside0.mk (blk_below NB.out hb5); have A5 := Aside0.mk (blk_below AB.out hb5); have B5 := Aside0.mk (blk_below BB.out hb5); have Q5 := Aside0.mk (blk_below QB.out hb5); have O5 := Aside0.mk (Kd.R_below HO.out hb5); have H5 := Aside0.mk (below_step HB.out hb5)
                clear M NB AB BB QB HO HB hb5 hHeld
                have M := M5; have NB := N5; have AB := A5; have BB := B5; have QB := Q5; have HO := O5; have HB := H5
                clear M5 N5 A5 B5 Q5 O5 H5
                refine hK.out _ _ ⟨(blk_cell M.out 0).trans rfl, (blk_cell M.out 1).trans rfl⟩ (fun hHeld => ?_)
                clear hK K
                refine norm_ (a' := ?_) ?_ ?_
                rotate_left
                · show Act.put _ (some 42) _ = _
                  simp only [Act.put, List.setIfInBounds_toArray, List.set_cons_zero, List.set_cons_succ, i64_w, i32_w]
                  rfl
                refine one_ (i := 6) (N := some 43) #[true, true, true, true, true, true, true, false, false] rfl rfl (by kernel_rfl) (by decide) (fun K hK => ?_)
                refine value_ (w1 := ?_) (v := ?_) (by rfl) rfl ?_ ?_
                rotate_left 2
                · go_simp
                  constructor
                  · rfl
                  · rfl
                refine hK.out _ _ ⟨(blk_cell (blk_alloc M.out _) 0).trans rfl, (blk_cell (blk_alloc M.out _) 1).trans rfl⟩ (fun hHeld => ?_)
                clear hK K
                refine norm_ (a' := ?_) ?_ ?_
                rotate_left
                · show Act.put _ (some 43) _ = _
                  simp only [Act.put, List.setIfInBounds_toArray, List.set_cons_zero, List.set_cons_succ, i64_w, i32_w]
                  rfl
                refine one_ (i := 7) (N := some 44) #[true, true, true, true, true, true, true, true, false] rfl rfl (by kernel_rfl) (by decide) (fun K hK => ?_)
                refine Kd.R_append_step k28 (w0 := w) w.heap.size (by rfl) (.tmp 37) (.tmp 43) 23 28 (.agg #[(.int .i64 0), (.int .i64 0)]) 16 rfl Try.underlying23 info28 rfl (by decide) (by omega) u12 xs (⟨wrap64 (a + T.f0), wrap64 (b + T.f1)⟩ : S28) [.int .i64 (wrap64 (a + T.f0)), .int .i64 (wrap64 (b + T.f1))] (fun k => k ≠ gm) (fun _ => False) rfl rfl ?aP (fun _ hk => hk.elim) ?aF ?aO ?aB ?aS ?aL ?_
                (case aP => exact k28_mkM _ _ _ (⟨wrap64 (a + T.f0), wrap64 (b + T.f1)⟩ : S28))
                (case aB => exact HB.out)
                (case aF => exact (fun k hk => by have := blk_lt M.out; omega))
                (case aO => exact HO.out)
                (case aS => exact below_size HB.out)
                (case aL => have := LM.out; omega)
                intro v9 w9 ho hb hg hat
                have M5 := Aside0.mk (blk_grown M.out hg (Kd.R_away HO.out (fun _ h => h)))
                have N5 := Aside0.mk (blk_grown NB.out hg (Kd.R_ne HO.out NB.out (by decide)))
                have A5 := Aside0.mk (blk_grown AB.out hg (Kd.R_ne HO.out AB.out (by decide)))
                have B5 := Aside0.mk (blk_grown BB.out hg (Kd.R_ne HO.out BB.out (by decide)))
                have Q5 := Aside0.mk (blk_grown QB.out hg (Kd.R_ne HO.out QB.out (by decide)))
                have O5 := Aside0.mk ho
                have H5 := Aside0.mk hb
                clear M NB AB BB QB HO HB hHeld ho hb hg hat
                have M := M5; have NB := N5; have AB := A5; have BB := B5; have QB := Q5; have HO := O5; have HB := H5
                clear M5 N5 A5 B5 Q5 O5 H5
                refine hK.out _ _ ⟨(blk_cell M.out 0).trans rfl, (blk_cell M.out 1).trans rfl⟩ (fun hHeld => ?_)
                clear hK K
                refine norm_ (a' := ?_) ?_ ?_
                rotate_left
                · show Act.put _ (some 44) _ = _
                  simp only [Act.put, List.setIfInBounds_toArray, List.set_cons_zero, List.set_cons_succ, i64_w, i32_w]
                  rfl
                refine pure_ (i := 8) (N := some 12) (v := ?_) (a' := ?_) #[true, true, true, true, true, true, true, true, true] rfl rfl (by kernel_rfl) (fun _ _ _ h => h) (Or.inl ⟨by rfl, ?_⟩) ?_ ?_
                rotate_left
                · intro w'
                  go_simp
                  with_reducible rfl
                rotate_left
                · simp only [Act.put, List.setIfInBounds_toArray, List.set_cons_zero, List.set_cons_succ, i64_w, i32_w]
                  rfl
                refine done_ (by kernel_rfl) ?_
                go_wp2
                go_roundg k2
                case measure => omega
                case rel => exact ⟨_, _, rfl, HY, M, NB, AB, BB, QB, HO, HB⟩
              · rw [if_neg c5] at H
                have t5 : decide (i < a2) = false := decide_eq_false c5
                clear c5
                obtain rfl := Option.some.inj H
                clear H
                go_wp2
                go_roundg k1
                case measure => omega
                case rel => exact ⟨_, _, rfl, ⟨by omega⟩, HZ, M, NB, AB, BB, QB, HO, HB⟩
      · rw [if_neg c4] at H
        have hj4 : j = 4 := by have := HJ.out; omega
        subst hj4
        obtain rfl := Option.some.inj H
        obtain ⟨l0, H3⟩ := some_of_ite H2.out
        obtain ⟨l1, H3⟩ := some_of_ite H3
        obtain rfl := Option.some.inj H3
        have LM := Aside0.mk l1
        obtain ⟨gy, co, eo, _, _, _, _⟩ := Kd.R_form HO.out l0
        subst eo
        have p0 : (0 : Int) ≤ 0 := Int.le_refl _
        have q0 : (0 : Int) < (xs.length : Int) := by omega
        obtain ⟨ad, ea, hx0, hx1⟩ := at_T28 (Kd.R_reads' HO.out).2.2 0 p0 q0
        cases ea
        have qi0 : (0 < xs.length) = True := eq_true (by omega)
        rw [show ((0 : Int)).toNat = 0 from rfl, show 0 * 2 = 0 from rfl, Addr.add_zero'] at hx0 hx1
        replace p0 := eq_true p0
        replace q0 := eq_true q0
        clear H H2 H3 l0 l1 c4 HJ
        go_wp2_with (first | ((with_reducible refine gate_builtin (b := .append) (xs := #[.tmp 47, .tmp 51]) rfl ?_); at_builtin; refine Kd.R_append k28 (w0 := w) w.heap.size rfl (.tmp 47) (.tmp 51) 23 28 (.agg #[(.int .i64 0), (.int .i64 0)]) 16 rfl Try.underlying23 info28 rfl (by decide) (by omega) (.slice (some ⟨gy, 0, none⟩) xs.length co) xs (rd_T28 xs 0) [.int .i64 (rd_T28 xs 0).f0, .int .i64 (rd_T28 xs 0).f1] (fun k => k ≠ gm) (fun _ => False) rfl rfl ?aP (fun _ hk => hk.elim) ?aF ?aO ?aB ?aS ?aL ?_; (case aP => exact k28_mkM _ _ _ (rd_T28 xs 0)); (case aB => exact HB.out); (case aF => exact (fun k hk => by have := blk_lt M.out; omega)); (case aO => exact HO.out); (case aS => exact below_size HB.out); (case aL => have := LM.out; omega); intro v9 w9 ho hb hg hat; have O9 := Aside0.mk ho; have B9 := Aside0.mk hb; clear ho hb hg hat))
        go_ret
        exact ⟨_, rfl, Kd.R_mono O9.out (fun _ _ => trivial), B9.out⟩
end Go.Proofs.Ytfpcejkjabmeeaa.QCI
