/- push, of the first and of the second frame. -/
import Derived.Test.YtagadehcbpoihaaDoorFTextSl
import Derived.Deep.RegionLaw
namespace Go.Proofs.YtagadehcbpoihaaDoor.Sane5
open Go.RowKit Go.Proofs.YtagadehcbpoihaaDoorW.PrintWords Go.Proofs.YtagadehcbpoihaaDoorW.PrintLast Go.Proofs.YtagadehcbpoihaaDoorW.PrintMore Go.Proofs.YtagadehcbpoihaaDoorN Go.Proofs.YtagadehcbpoihaaDoor.Str Go.Proofs.YtagadehcbpoihaaDoor.QSl
set_option linter.unusedVariables false
set_option linter.unusedSimpArgs false
/-- A frame in five cells. -/
def fr (k : Int) (nm : ByteArray) (L : Value) (at_ : Int) (args : Value) : List Value := [.int .i64 k, .string nm, L, .int .i64 at_, args]
structure Stk (sb B : Nat) (rows : List (List Value)) (w : World) : Prop where
  st : ∃ v, w.heap[sb]? = some (.cells #[v, .bool true] 56 (0, 0)) ∧ (Kd.raw 5).R 68 w B (fun k => k ≠ sb) v rows
  hB : B ≤ w.heap.size
  hs : B ≤ sb
theorem box_read (W : World) (f : List Value) (hf : f.length = 5) (h1 : ∀ u ∈ f, u.oneCell' = true) : (Kd.raw 5).C (W.alloc (.cells f.toArray 68)) (some ⟨W.heap.size, 0, none⟩) 1 [f] := by
  refine ⟨rfl, by decide, fun _ => ⟨_, rfl, fun j p hj => ?_⟩⟩
  cases j with
  | succ j => simp at hj
  | zero =>
    obtain rfl : f = p := by simpa using hj
    refine ⟨f, hf, ⟨rfl, hf, h1⟩, fun i u hu => ?_⟩
    rw [add_at, Nat.zero_add, Nat.zero_mul, Nat.zero_add]
    rw [blk_cell (blk_new W (.cells f.toArray 68))]
    simpa using hu
set_option maxHeartbeats 4000000 in
set_option maxRecDepth 100000 in
theorem push0 (sb B : Nat) (a0 : Int) (a1 : ByteArray) (a2 : Value) (a3 : Int) (a4 : Value) (h2 : ∃ A n c, a2 = .slice A n c) (h4 : ∃ A n c, a4 = .slice A n c) (w : World) (h : Stk sb B [] w) (hv : w.heap[sb]? = some (.cells #[.slice none 0 0, .bool true] 56 (0, 0))) :
    Calls Tryd.prog 34 #[.pointer (some ⟨sb, 0, none⟩), .agg (fr a0 a1 a2 a3 a4).toArray] w fun e w' => e = .returned (.int .i64 0) ∧ Stk sb B [fr a0 a1 a2 a3 a4] w' ∧ Kept w w' (fun k => k = sb) ∧ Below B w w' := by
  obtain ⟨A2, n2, c2, rfl⟩ := h2
  obtain ⟨A4, n4, c4, rfl⟩ := h4
  have H := Aside0.mk h
  have HV := Aside0.mk hv
  have hu68 := Tryd.underlying68
  have h1 := Aside0.mk (show ∀ u ∈ fr a0 a1 (.slice A2 n2 c2) a3 (.slice A4 n4 c4), u.oneCell' = true by
    intro u hu
    simp only [fr, List.mem_cons, List.not_mem_nil, or_false] at hu
    rcases hu with rfl | rfl | rfl | rfl | rfl <;> rfl)
  clear h hv
  go_enter Tryd.func34, Tryd.ntmps34
  go_wp2_with (first | ((with_reducible refine gate_dst (N := 3) rfl ?_); refine box_event ?hg (N := 3) ?hd (cs := (fr a0 a1 (.slice A2 n2 c2) a3 (.slice A4 n4 c4)).toArray) (t := 68) ?hr ?_; (case hd => rfl); (case hg => rfl); (case hr => first | (go_simp; done) | (go_simp; rfl)); intro gb hg w3 hbox hb; have X3 := Aside0.mk hbox; have V3 := Aside0.mk (blk_below HV.out hb); have B3 := Aside0.mk (hb.mono H.out.hB); have K3 := Aside0.mk (Kept.of_below hb (fun k => k = sb)); have S3 := Aside0.mk (Nat.le_trans H.out.hB hb.size); have k0 : w3.cell? ⟨gb, 0, none⟩ = some (.int .i64 a0) := (blk_cell hbox 0).trans rfl; have k1 : w3.cell? ⟨gb, 1, none⟩ = some (.string a1) := (blk_cell hbox 1).trans rfl; have k2 : w3.cell? ⟨gb, 2, none⟩ = some (.slice A2 n2 c2) := (blk_cell hbox 2).trans rfl; have k3 : w3.cell? ⟨gb, 3, none⟩ = some (.int .i64 a3) := (blk_cell hbox 3).trans rfl; have k4 : w3.cell? ⟨gb, 4, none⟩ = some (.slice A4 n4 c4) := (blk_cell hbox 4).trans rfl; have s0 : w3.cell? ⟨sb, 0, none⟩ = some (.slice none 0 0) := (blk_cell V3.out 0).trans rfl; have sA : ∀ o, (w3.alloc o).cell? ⟨sb, 0, none⟩ = some (.slice none 0 0) := fun o => (blk_cell (blk_alloc V3.out o) 0).trans rfl; clear hbox hb hg))
  go_loopg [5] 1 (fun kq v5 w' => v5 = .int .i64 0 ∧ w' = w3)
  case atStart => exact ⟨rfl, rfl⟩
  case round =>
    obtain ⟨rfl, rfl⟩ := hrel
    go_wp2
    have HR := Aside0.mk (show (Kd.raw 5).C ((wr.alloc (.cells (fr a0 a1 (.slice A2 n2 c2) a3 (.slice A4 n4 c4)).toArray 68)).drew) (some ⟨wr.heap.size, 0, none⟩) 1 [(fr a0 a1 (.slice A2 n2 c2) a3 (.slice A4 n4 c4))] from Kd.C_drew (box_read wr _ rfl h1.out))
    have HW := Aside0.mk (show Below B w ((wr.alloc (.cells (fr a0 a1 (.slice A2 n2 c2) a3 (.slice A4 n4 c4)).toArray 68)).drew) from below_drew1 (B3.out.trans ((below_alloc (Below.refl wr.heap.size wr) _).mono S3.out)))
    have HSZ := Aside0.mk (show B ≤ ((wr.alloc (.cells (fr a0 a1 (.slice A2 n2 c2) a3 (.slice A4 n4 c4)).toArray 68)).drew).heap.size from Nat.le_trans S3.out (below_alloc (Below.refl wr.heap.size wr) _).size)
    have HVW := Aside0.mk (show ((wr.alloc (.cells (fr a0 a1 (.slice A2 n2 c2) a3 (.slice A4 n4 c4)).toArray 68)).drew).heap[sb]? = some (.cells #[.slice none 0 0, .bool true] 56 (0, 0)) from blk_alloc V3.out _)
    have HFR := Aside0.mk (show ∀ k, ((wr.alloc (.cells (fr a0 a1 (.slice A2 n2 c2) a3 (.slice A4 n4 c4)).toArray 68)).drew).heap.size ≤ k → k ≠ sb from fun k hk e => by have h1 := blk_lt HVW.out; omega)
    have HK := Aside0.mk (show Kept w ((wr.alloc (.cells (fr a0 a1 (.slice A2 n2 c2) a3 (.slice A4 n4 c4)).toArray 68)).drew) (fun k => k = sb) from (K3.out.alloc _).drew)
    go_region_law (first | (refine Kd.R_append_rows_step (Kd.raw 5) (w0 := w) (W := ((wr.alloc (.cells (fr a0 a1 (.slice A2 n2 c2) a3 (.slice A4 n4 c4)).toArray 68)).drew)) B rfl (.tmp 47) (.tmp 49) 54 68 (.agg #[.int .i64 0, .string ⟨#[]⟩, .slice none 0 0, .int .i64 0, .slice none 0 0]) 80 rfl Tryd.underlying54 info51 rfl raw5 pb51 (.slice none 0 0) [] [(fr a0 a1 (.slice A2 n2 c2) a3 (.slice A4 n4 c4))] _ _ _ (fun k => k ≠ sb) (fun _ => False) rfl rfl (Kd.R_nil _ _ _ _ _) HR.out (fun _ _ h => h) (fun _ h => h.elim) HFR.out HW.out HSZ.out (by decide) ?_; intro v6 w6 ho6 hb6 hg6 hat6; obtain ⟨A6, c6, e6⟩ := Kd.R_slice ho6; subst e6; have G6 := Aside0.mk (blk_grown HVW.out hg6 (by simp [Value.ownBlock])); have O6 := Aside0.mk ho6; have B6 := Aside0.mk hb6; have K6 := Aside0.mk hg6; have s6 : w6.cell? ⟨sb, 0, none⟩ = some (.slice none 0 0) := (blk_cell G6.out 0).trans rfl; have z6 : w6.frozen? ⟨sb, 0, none⟩ = false := blk_frozen G6.out 0; clear ho6 hb6 hg6 hat6) | (go_simp; go_at_call 51; refine (clone51_nil _).mono ?_; rintro e w5 ⟨rfl, rfl⟩))
    all_goals
      go_wp2
      refine bodyPost_ret (results_tmp rfl _ _ _) rfl ?_
      refine ⟨rfl, ⟨⟨_, blk_put G6.out 0 _ rfl, Kd.R_far (p := ⟨sb, 0, none⟩) O6.out (fun k hk => hk) _⟩, ?_, H.out.hs⟩, (Kept.of_grown K6.out HK.out (fun k hk => by simp [Value.ownBlock] at hk)).setCell (p := ⟨sb, 0, none⟩) (Or.inl rfl) _, B6.out.setCell H.out.hs _⟩
      have h5 := Nat.le_trans HSZ.out K6.out.size
      show B ≤ (w6.setCell ⟨sb, 0, none⟩ _).heap.size
      simp [World.setCell]
      omega
end Go.Proofs.YtagadehcbpoihaaDoor.Sane5
