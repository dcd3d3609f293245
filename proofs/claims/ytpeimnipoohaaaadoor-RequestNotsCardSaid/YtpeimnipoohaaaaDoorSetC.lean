/- A store leaves which places there are. -/
import Derived.WalkKit
namespace Go.Proofs.YtpeimnipoohaaaaDoor.SetC
open Go
theorem isSome_set (w : World) (p q : Addr) (x : Value) : ((w.setCell p x).cell? q).isSome = (w.cell? q).isSome := by
  unfold World.cell? World.setCell
  simp only [Array.getElem?_modify]
  by_cases h : p.block = q.block
  · rw [if_pos h]
    cases hg : w.heap[q.block]? with
    | none => rfl
    | some o =>
      cases o with
      | cells c e f =>
        show Option.isSome (if q.spot.isSome = true then none else (if p.spot.isSome = true then c else c.setIfInBounds p.off x)[q.off]?) = Option.isSome (if q.spot.isSome = true then none else c[q.off]?)
        by_cases h1 : q.spot.isSome = true
        · rw [if_pos h1, if_pos h1]
        · rw [if_neg h1, if_neg h1]
          by_cases h2 : p.spot.isSome = true
          · rw [if_pos h2]
          · rw [if_neg h2, Array.getElem?_setIfInBounds]
            by_cases h3 : p.off = q.off
            · rw [if_pos h3, h3]
              by_cases h4 : q.off < c.size
              · rw [if_pos h4, Array.getElem?_eq_getElem h4]; rfl
              · rw [if_neg h4, Array.getElem?_eq_none (by omega)]
            · rw [if_neg h3]
      | _ => rfl
  · rw [if_neg h]
end Go.Proofs.YtpeimnipoohaaaaDoor.SetC
