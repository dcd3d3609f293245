/- What strings.SplitN computes at a separator of one byte; the functions that the first print has shown. -/
import Derived.Test.YtpeimnipoohaaaaDoorQRcx0
import Derived.Test.YtpeimnipoohaaaaDoorLay2
import Derived.Test.YtpeimnipoohaaaaDoorSplitOne
import Derived.Test.YtpeimnipoohaaaaDoorQRs
namespace Go.Proofs.YtpeimnipoohaaaaDoor.QRc
open Go.RowKit Go.Proofs.YtpeimnipoohaaaaDoorW.PrintWords Go.Proofs.YtpeimnipoohaaaaDoorW.PrintLast Go.Proofs.YtpeimnipoohaaaaDoorW.PrintMore
set_option linter.unusedVariables false
def strings_SplitN.f (a0 : ByteArray) (a1 : ByteArray) (a2 : Int) : Option (List ByteArray) :=
  match a1.data.toList with
  | [c] => if a0.size < 900000 ∧ 1 ≤ a2 ∧ a2 ≤ 1000 then some (Lib.splitB ⟨#[c]⟩ 0 (min a2.toNat (a0.size + 1) - 1) a0) else none
  | _ => none
theorem splitB_ne (sep : ByteArray) (k : Nat) (s : ByteArray) : Lib.splitB sep 0 k s ≠ [] := by
  cases k with
  | zero => simp [Lib.splitB]
  | succ k => rw [Lib.splitB]; split <;> simp
theorem splitB_len (sep : ByteArray) : ∀ (k : Nat) (s : ByteArray), (Lib.splitB sep 0 k s).length ≤ k + 1
  | 0, s => by simp [Lib.splitB]
  | k + 1, s => by
    rw [Lib.splitB]
    split
    · simp
    · simp only [List.length_cons]
      have := splitB_len sep k (s.extract ((Lib.indexB s sep).toNat + sep.size) s.size)
      omega
theorem strings_SplitN.calls (a0 : ByteArray) (a1 : ByteArray) (a2 : Int) (r : List ByteArray) (w : World) (h : strings_SplitN.f a0 a1 a2 = some r) :
    Calls Tryd.prog 36 #[.string a0, .string a1, .int .i64 a2] w fun e w' => ∃ v_ : Value, e = .returned v_ ∧ Kd.R Kd.string 9 w' w.heap.size (fun _ => True) v_ r ∧ Below w.heap.size w w' := by
  unfold strings_SplitN.f at h
  split at h
  · rename_i c hc
    split at h
    · rename_i hk
      cases h
      obtain rfl : a1 = ⟨#[c]⟩ := by
        obtain ⟨d⟩ := a1
        have : d.toList = [c] := hc
        congr 1
        exact Array.toList_inj.1 this
      have e : a2 = ((a2.toNat : Nat) : Int) := by omega
      have hm : min a2.toNat (a0.size + 1) ≤ 1000000 := by omega
      have hp : min a2.toNat (a0.size + 1) - 1 + 1 = min a2.toNat (a0.size + 1) := by omega
      have hs := SplitOne.splitN_one Lay2.l147 (by kernel_rfl) a0 c a2.toNat w (by omega) (by omega) (by omega)
      rw [← e] at hs
      refine hs.mono fun e w' ⟨h1, h2⟩ => ⟨_, h1, ?_, ?_⟩
      · rw [h2]
        exact SplitOne.row_made 9 _ _ w (by have := splitB_len ⟨#[c]⟩ (min a2.toNat (a0.size + 1) - 1) a0; omega) hm (splitB_ne _ _ _)
      · rw [h2]
        exact (Below.refl _ _).alloc (Nat.le_refl _) _
    · cases h
  · cases h
end Go.Proofs.YtpeimnipoohaaaaDoor.QRc
