/- 'With enough rounds': a printed function's answer, told without counting rounds; rows read place by place. -/
import Derived.Test.YtagadehcbpoihaaDoorWLast
import Derived.Test.YtagadehcbpoihaaDoorWMore
import Derived.Test.YtagadehcbpoihaaDoorNum
namespace Go.Proofs.YtagadehcbpoihaaDoor.Evl
open Go.RowKit Go.Proofs.YtagadehcbpoihaaDoorW.PrintWords Go.Proofs.YtagadehcbpoihaaDoorW.PrintLast Go.Proofs.YtagadehcbpoihaaDoorW.PrintMore Go.Proofs.YtagadehcbpoihaaDoorN
def Evl {α : Type} (f : Nat → Option α) (v : α) : Prop := ∃ K, ∀ k, K ≤ k → f k = some v
namespace Evl
variable {α β : Type} {f : Nat → Option α} {v : α}
theorem some (v : α) : Evl (fun _ => some v) v := ⟨0, fun _ _ => rfl⟩
theorem of_eq {g : Nat → Option α} (h : Evl f v) (e : ∀ k, g k = f k) : Evl g v := by
  obtain ⟨K, h⟩ := h
  exact ⟨K, fun k hk => (e k).trans (h k hk)⟩
theorem succ (h : Evl (fun k => f (k + 1)) v) : Evl f v := by
  obtain ⟨K, h⟩ := h
  refine ⟨K + 1, fun k hk => ?_⟩
  obtain ⟨j, rfl⟩ : ∃ j, k = j + 1 := ⟨k - 1, by omega⟩
  exact h j (by omega)
theorem bind {g : Nat → α → Option β} {u : β} (h : Evl f v) (h2 : Evl (fun k => g k v) u) : Evl (fun k => (f k).bind (g k)) u := by
  obtain ⟨K, h⟩ := h
  obtain ⟨K2, h2⟩ := h2
  refine ⟨max K K2, fun k hk => ?_⟩
  show (f k).bind (g k) = _
  rw [h k (by omega)]
  exact h2 k (by omega)
theorem pos {c : Prop} [Decidable c] {a b : Nat → Option α} (hc : c) (h : Evl a v) : Evl (fun k => if c then a k else b k) v := h.of_eq fun _ => if_pos hc
theorem neg {c : Prop} [Decidable c] {a b : Nat → Option α} (hc : ¬ c) (h : Evl b v) : Evl (fun k => if c then a k else b k) v := h.of_eq fun _ => if_neg hc
theorem ite {c : Prop} [Decidable c] {a b : Nat → Option α} (h1 : c → Evl a v) (h2 : ¬ c → Evl b v) : Evl (fun k => if c then a k else b k) v := by
  by_cases hc : c
  · exact pos hc (h1 hc)
  · exact neg hc (h2 hc)
theorem out (h : Evl f v) : ∃ k, f k = Option.some v := by
  obtain ⟨K, h⟩ := h
  exact ⟨K, h K (Nat.le_refl _)⟩
theorem uniq {u : α} (h : Evl f v) (h2 : Evl f u) : v = u := by
  obtain ⟨K, h⟩ := h
  obtain ⟨K2, h2⟩ := h2
  exact Option.some.inj ((h (max K K2) (by omega)).symm.trans (h2 (max K K2) (by omega)))
end Evl
/-- With enough rounds there is an answer of this kind. -/
def EvG {α : Type} (f : Nat → Option α) (G : α → Prop) : Prop := ∃ v, Evl f v ∧ G v
namespace EvG
variable {α β : Type} {f : Nat → Option α} {G : α → Prop}
theorem mk {v : α} (h : Evl f v) (g : G v) : EvG f G := ⟨v, h, g⟩
theorem succ (h : EvG (fun k => f (k + 1)) G) : EvG f G := by
  obtain ⟨v, h, g⟩ := h
  exact ⟨v, h.succ, g⟩
theorem bind {v : α} {g : Nat → α → Option β} {H : β → Prop} (h : Evl f v) (h2 : EvG (fun k => g k v) H) : EvG (fun k => (f k).bind (g k)) H := by
  obtain ⟨u, h3, g3⟩ := h2
  exact ⟨u, h.bind h3, g3⟩
theorem pos {c : Prop} [Decidable c] {a b : Nat → Option α} (hc : c) (h : EvG a G) : EvG (fun k => if c then a k else b k) G := by
  obtain ⟨v, h, g⟩ := h
  exact ⟨v, Evl.pos hc h, g⟩
theorem neg {c : Prop} [Decidable c] {a b : Nat → Option α} (hc : ¬ c) (h : EvG b G) : EvG (fun k => if c then a k else b k) G := by
  obtain ⟨v, h, g⟩ := h
  exact ⟨v, Evl.neg hc h, g⟩
theorem ite {c : Prop} [Decidable c] {a b : Nat → Option α} (h1 : c → EvG a G) (h2 : ¬ c → EvG b G) : EvG (fun k => if c then a k else b k) G := by
  by_cases hc : c
  · exact pos hc (h1 hc)
  · exact neg hc (h2 hc)
end EvG
theorem wn {i : Nat} (h : i < 4611686018427387904) : wrap64 ((i : Int) + 1) = ((i + 1 : Nat) : Int) := by
  rw [w64 (by omega) (by omega)]; omega
theorem drop_getD {α : Type} (l : List α) (i : Nat) (z : α) (h : i < l.length) : l.drop i = l.getD ((i : Int).toNat) z :: l.drop (i + 1) := by
  rw [List.drop_eq_getElem_cons h, Int.toNat_natCast, List.getD_eq_getElem?_getD, List.getElem?_eq_getElem h]
  rfl
end Go.Proofs.YtagadehcbpoihaaDoor.Evl
