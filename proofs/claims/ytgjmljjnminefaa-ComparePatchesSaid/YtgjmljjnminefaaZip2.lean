/- Shorter words for what a printed text says most: a world that has only grown or drawn, rows of marks of what is done, cells that were there. -/
import Derived.Test.YtgjmljjnminefaaWLast
import Derived.Test.YtgjmljjnminefaaWTab
import Derived.Test.YtgjmljjnminefaaWMore
import Derived.Test.YtgjmljjnminefaaWNEv
namespace Go.Proofs.Ytgjmljjnminefaa.Zip2
open Go.RowKit Go.Proofs.YtgjmljjnminefaaW.PrintWords Go.Proofs.YtgjmljjnminefaaW.PrintLast Go.Proofs.YtgjmljjnminefaaW.PrintMore
/-- The first k, and those of is, are done. -/
def fl (n k : Nat) (is : List Nat) : Array Bool := ⟨(List.range n).map fun j => Nat.blt j k || is.any (Nat.beq j)⟩
inductive GwP : World → World → Prop
  | refl (w) : GwP w w
  | alloc {w w'} (o) (h : GwP w w') : GwP w (w'.alloc o)
  | drewN {w w'} (m) (h : GwP w w') : GwP w (w'.drewN m)
  | drew {w w'} (h : GwP w w') : GwP w w'.drew
class Gw (w w' : World) : Prop where
  out : GwP w w'
instance (w : World) : Gw w w := ⟨.refl w⟩
instance {w w' : World} [h : Gw w w'] (o : Obj) : Gw w (w'.alloc o) := ⟨.alloc o h.out⟩
instance {w w' : World} [h : Gw w w'] (m : Nat) : Gw w (w'.drewN m) := ⟨.drewN m h.out⟩
instance {w w' : World} [h : Gw w w'] : Gw w w'.drew := ⟨.drew h.out⟩
section
variable {w0 W W' : World}
theorem gB (HB : Aside0 (Below w0.heap.size w0 W)) [h : Gw W W'] : Below w0.heap.size w0 W' := by
  obtain ⟨h⟩ := h
  obtain ⟨HB⟩ := HB
  induction h with
  | refl => exact HB
  | alloc o h ih => exact below_alloc ih o
  | drewN m h ih => exact pw_below_drewN ih m
  | drew h ih => exact below_drew1 ih
theorem gw [h : Gw W W'] : Below W.heap.size W W' := gB ⟨Below.refl _ _⟩
theorem gK {g : Nat} {o : Obj} (h : Aside0 (W.heap[g]? = some o)) [Gw W W'] : W'.heap[g]? = some o := blk_below h.out gw
variable {α : Type} {d : Kd α} {e base : Nat} {ok : Nat → Prop} {v : Value} {xs : List α}
theorem gN (h : Aside0 (Kd.N d e W base ok v xs)) [Gw W W'] : Kd.N d e W' base ok v xs := Kd.N_below h.out gw
theorem gR (h : Aside0 (Kd.R d e W base ok v xs)) [Gw W W'] : Kd.R d e W' base ok v xs := Kd.R_below h.out gw
theorem gV (h : Aside0 (Kd.V d e W base ok v xs)) [Gw W W'] : Kd.V d e W' base ok v xs := Kd.V_below h.out gw
theorem gS (h : Aside0 (Kd.S d e W base ok v xs)) [Gw W W'] : Kd.S d e W' base ok v xs := Kd.S_below h.out gw
end
theorem cl {w W : World} {p : Addr} {v : Value} (HB : Below w.heap.size w W) (h : w.cell? p = some v) : W.cell? p = some v := (HB.cell (World.block_lt_of_cell? w _ h)).trans h
theorem an {a : Addr} {n g : Nat} (h : a.block ≠ g) : (a.add n).block ≠ g := by rw [add_block]; exact h
end Go.Proofs.Ytgjmljjnminefaa.Zip2
