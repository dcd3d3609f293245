/- A text up to the first of a byte. -/
import Derived.Test.YtagadehcbpoihaaDoorStr
import Derived.Lib.Bytealg
namespace Go.Proofs.YtagadehcbpoihaaDoor.Cut
open Go Go.RowKit Go.Proofs.YtagadehcbpoihaaDoor.Str
set_option linter.unusedSimpArgs false
/-- Up to the first of a byte; what stands behind it, if there is one. -/
def cutB (d : UInt8) : List UInt8 → Option (List UInt8 × List UInt8)
  | [] => none
  | c :: l => if c = d then some ([], l) else (cutB d l).map fun p => (c :: p.1, p.2)
theorem cut_eq {d : UInt8} : ∀ {l p q : List UInt8}, cutB d l = some (p, q) → l = p ++ d :: q ∧ ∀ c ∈ p, c ≠ d
  | [], p, q, h => by cases h
  | c :: l, p, q, h => by
    rw [cutB] at h
    split at h
    · rename_i hc
      obtain ⟨rfl, rfl⟩ := Prod.mk.inj (Option.some.inj h)
      exact ⟨by rw [hc]; rfl, fun _ h => by cases h⟩
    · rename_i hc
      obtain ⟨⟨p', q'⟩, h1, h2⟩ := Option.map_eq_some_iff.1 h
      obtain ⟨rfl, rfl⟩ := Prod.mk.inj h2
      obtain ⟨rfl, h3⟩ := cut_eq h1
      refine ⟨rfl, fun e he => ?_⟩
      rcases List.mem_cons.1 he with rfl | he
      · exact hc
      · exact h3 e he
theorem cut_none {d : UInt8} : ∀ {l : List UInt8}, cutB d l = none → ∀ c ∈ l, c ≠ d
  | [], _, c, h => by cases h
  | e :: l, h, c, hc => by
    rw [cutB] at h
    split at h
    · cases h
    · rename_i he
      rcases List.mem_cons.1 hc with rfl | hc
      · exact he
      · exact cut_none (Option.map_eq_none_iff.1 h) c hc
theorem ix_no (d : UInt8) : ∀ l : List UInt8, (∀ c ∈ l, c ≠ d) → Lib.indexByte l d = -1
  | [], _ => rfl
  | c :: l, h => by
    have ih := ix_no d l (fun e he => h e (List.mem_cons_of_mem _ he))
    rw [Lib.indexByte, ih]
    simp [h c (List.mem_cons_self ..)]
theorem ix_at (d : UInt8) : ∀ (a q : List UInt8), (∀ c ∈ a, c ≠ d) → Lib.indexByte (a ++ d :: q) d = (a.length : Int)
  | [], q, _ => by
    rw [List.nil_append, Lib.indexByte]
    simp
  | c :: a, q, h => by
    have ih := ix_at d a q (fun e he => h e (List.mem_cons_of_mem _ he))
    rw [List.cons_append, Lib.indexByte, ih, List.length_cons]
    simp [h c (List.mem_cons_self ..)]
    try omega
theorem ix_cut (d : UInt8) (l : List UInt8) : Lib.indexByte l d = match cutB d l with | none => -1 | some p => (p.1.length : Int) := by
  cases h : cutB d l with
  | none => exact ix_no d l (cut_none h)
  | some p =>
    obtain ⟨h1, h2⟩ := cut_eq (p := p.1) (q := p.2) h
    rw [h1]
    exact ix_at d p.1 p.2 h2
theorem cut_len {d : UInt8} {s p q : List UInt8} (h : cutB d s = some (p, q)) : s.length = p.length + (q.length + 1) := by
  have h1 := congrArg List.length (cut_eq h).1
  rw [List.length_append, List.length_cons] at h1
  exact h1
end Go.Proofs.YtagadehcbpoihaaDoor.Cut
