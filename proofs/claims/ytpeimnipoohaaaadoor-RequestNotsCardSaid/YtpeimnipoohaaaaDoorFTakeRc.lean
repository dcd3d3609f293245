/- What the closure of request.Condition does: it cuts a text and lays the two parts into the two variables that it holds. -/
import Derived.Test.YtpeimnipoohaaaaDoorQRqx2
import Derived.Test.YtpeimnipoohaaaaDoorFnVal
import Derived.Test.YtpeimnipoohaaaaDoorSetC
namespace Go.Proofs.YtpeimnipoohaaaaDoor.QRc
open Go.Proofs.YtpeimnipoohaaaaDoor.QRq Go.RowKit Go.Proofs.YtpeimnipoohaaaaDoorW.PrintWords Go.Proofs.YtpeimnipoohaaaaDoorW.PrintLast Go.Proofs.YtpeimnipoohaaaaDoorW.PrintMore
set_option linter.unusedVariables false
set_option linter.unusedSimpArgs false
set_option maxHeartbeats 8000000 in
set_option maxRecDepth 100000 in
theorem take_calls (s n x : ByteArray) (gc gr : Nat) (c0 c1 c2 c3 c4 c5 v : Value) (w : World) (h : request_cut.f s = some (n, x)) (hc : w.heap[gc]? = some (.cells #[c0, c1, c2, c3, c4, c5] 35 (0, 0))) (hr : w.heap[gr]? = some (.cells #[v] 9 (0, 0))) (hne : gr ≠ gc) :
    Calls Tryd.prog 33 #[.string s, .pointer (some ⟨gc, 0, none⟩), .pointer (some ⟨gr, 0, none⟩)] w fun e w' => ∃ w1, e = .returned (.tuple #[]) ∧ Below w.heap.size w w1 ∧ w' = (w1.setCell ⟨gc, 2, none⟩ (.string n)).setCell ⟨gr, 0, none⟩ (.string x) := by
  have hu35 := Tryd.underlying35
  have H := Aside0.mk h
  have BC := Aside0.mk hc
  have BR := Aside0.mk hr
  have hne' := hne.symm
  clear h hc hr
  go_enter Tryd.func33, Tryd.ntmps33
  go_wp2_with (first | ((with_reducible refine gate_callee (f := 34) rfl ?_); refine goesL_ (some 6) rfl rfl Tryd.func34 (by kernel_rfl) rfl #[.string s] rfl (by (try simp only [List.map_toArray, List.map_cons, List.map_nil]); first | done | rfl) ?_; (with_reducible refine (request_cut.calls s n x _ H.out).mono ?_); rintro e w1 ⟨rfl, hb⟩; refine ⟨_, rfl, ?_⟩; have HB := Aside0.mk hb; have BC1 := Aside0.mk (blk_below BC.out hb); have BR1 := Aside0.mk (blk_below BR.out hb); clear hb BC BR; have hc2 : w1.cell? ⟨gc, 2, none⟩ = some c2 := (blk_cell BC1.out 2).trans rfl; have hf2 := blk_frozen BC1.out 2; have hr0 : w1.cell? ⟨gr, 0, none⟩ = some v := (blk_cell BR1.out 0).trans rfl; have hf0 := blk_frozen BR1.out 0))
  refine bodyPost_end (results_none rfl _ _ _) rfl ?_
  exact ⟨w1, rfl, HB.out, rfl⟩
end Go.Proofs.YtpeimnipoohaaaaDoor.QRc
