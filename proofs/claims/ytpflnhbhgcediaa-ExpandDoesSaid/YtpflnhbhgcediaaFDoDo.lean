/- 'same' and 'sane' as the print wants them. -/
import Derived.Test.YtpflnhbhgcediaaQDox0
import Derived.Test.YtpflnhbhgcediaaFBothEa
namespace Go.Proofs.Ytpflnhbhgcediaa.QDo
open Go.RowKit Go.Proofs.YtpflnhbhgcediaaW.PrintWords Go.Proofs.YtpflnhbhgcediaaW.PrintLast Go.Proofs.YtpflnhbhgcediaaW.PrintMore Go.Proofs.YtpflnhbhgcediaaN Go.Proofs.Ytpflnhbhgcediaa.Str
set_option linter.unusedVariables false
def small (l : List ByteArray) : Bool := decide (l.length ≤ 1000) && l.all (fun a => decide (a.size ≤ 100000))
theorem small_an {l : List ByteArray} (h : small l = true) (a : Ex4.As) : (Ex4.anL l a).length ≤ 100000 := by
  have h2 : ∀ x ∈ l, x.size ≤ 100000 := by
    intro x hx
    unfold small at h
    rw [Bool.and_eq_true, List.all_eq_true] at h
    exact of_decide_eq_true (h.2 x hx)
  rw [Ex4.anL, Array.length_toList]
  show (Ex4.ansB l a).size ≤ 100000
  unfold Ex4.ansB
  split
  · exact Nat.zero_le _
  · unfold rdOf
    rw [List.getD_eq_getElem?_getD]
    cases hx : l[((max 0 (Ex4.ansN a)).tmod (l.length : Int)).toNat]? with
    | none => exact Nat.zero_le _
    | some x => exact h2 x (List.mem_of_getElem? hx)
def frisketlaw04_same.f (a0 : ByteArray) (a1 : Bool) (l2 : List ByteArray) : Option Bool := if a0.size < 1000000 ∧ small l2 = true then some true else none
theorem frisketlaw04_same.calls (a0 : ByteArray) (a1 : Bool) (A2 : Option Addr) (c2 : Nat) (l2 : List ByteArray) (r : Bool) (w : World) (hr2 : Kd.C Kd.string w A2 l2.length l2) (hc2 : l2.length ≤ c2) (h : frisketlaw04_same.f a0 a1 l2 = some r) :
    Calls Try.prog 9 #[.string a0, .bool a1, .slice A2 l2.length c2] w fun e w' => e = .returned (.bool r) ∧ Below w.heap.size w w' := by
  unfold frisketlaw04_same.f at h
  split at h
  · rename_i hc
    obtain rfl := Option.some.inj h
    have hl : l2.length ≤ 1000 := by
      have := hc.2
      unfold small at this
      rw [Bool.and_eq_true] at this
      exact of_decide_eq_true this.1
    have g := Ex4.same_true a1 l2 hl (small_an hc.2) A2 c2 a0.data.toList (by rw [Array.length_toList]; exact Nat.lt_trans hc.1 (by decide)) w hr2 hc2
    rw [← mkB_data] at g
    exact g
  · cases h
def frisketlaw04_sane.f : Option Bool := some true
theorem frisketlaw04_sane.calls (r : Bool) (w : World) (h : frisketlaw04_sane.f = some r) :
    Calls Try.prog 8 #[] w fun e w' => e = .returned (.bool r) ∧ Below w.heap.size w w' := by
  obtain rfl := Option.some.inj h
  exact Sane4.sane_calls w
end Go.Proofs.Ytpflnhbhgcediaa.QDo
