/- strings.SplitN at a separator of one byte. -/
import Derived.Shelf.Strings.Split
import Derived.Test.YtpeimnipoohaaaaDoorWMore
namespace Go.Proofs.YtpeimnipoohaaaaDoor.SplitOne
open Go.Shelf Go.RowKit Go.Lib Go.Proofs Go.Proofs.YtpeimnipoohaaaaDoorW.PrintWords Go.Proofs.YtpeimnipoohaaaaDoorW.PrintLast Go.Proofs.YtpeimnipoohaaaaDoorW.PrintMore
variable {P : Program} {ρ : Ren}
set_option linter.unusedVariables false
theorem index_one (s : ByteArray) (c : UInt8) : Lib.indexB s ⟨#[c]⟩ = Lib.indexByte s.data.toList c := by
  have h := Lib.one s ⟨#[c]⟩ rfl
  have e : ((((⟨#[c]⟩ : ByteArray)[0]'(show 0 < (⟨#[c]⟩ : ByteArray).size from Nat.one_pos)).toNat : Int)).toNat.toUInt8 = c := by
    show ((c.toNat : Int)).toNat.toUInt8 = c
    simp
  exact h.trans (congrArg (Lib.indexByte s.data.toList) e)
set_option maxHeartbeats 4000000 in
set_option maxRecDepth 1000000 in
theorem splitN_one (L : Lays.n147 P ρ) (hi9 : (P.info? (ρ.t 9)).map (fun i => (i.zero, i.size, i.bytes)) = some (some (.string ByteArray.empty), 1, 16)) (s : ByteArray) (c : UInt8) (n : Nat) (w : World)
    (hs : s.size < 4294967281) (hn : 1 ≤ n) (hn63 : n ≤ 9223372036854775807) :
    Calls P (ρ.f 147) #[.string s, .string ⟨#[c]⟩, .int .i64 n] w fun e w' =>
      e = .returned (.slice (some ⟨w.heap.size, 0, none⟩) (Lib.splitB ⟨#[c]⟩ 0 (min n (s.size + 1) - 1) s).length (min n (s.size + 1))) ∧ w' = w.alloc (.cells (Lib.cellsOf (Lib.splitB ⟨#[c]⟩ 0 (min n (s.size + 1) - 1) s) (min n (s.size + 1))) (ρ.t 9)) := by
  have hI : ∀ (x : ByteArray) (k : Array Value), x.size ≤ s.size → Calls P (ρ.f 143) #[.string x, .string ⟨#[c]⟩] (w.alloc (.cells k (ρ.t 9))) fun e w' => e = .returned (.int .i64 (Lib.indexB x ⟨#[c]⟩)) ∧ w' = w.alloc (.cells k (ρ.t 9)) := fun x k _ => by
    have h := Any.strings_Index_one { L with } x c (w.alloc (.cells k (ρ.t 9)))
    rw [index_one]
    exact h
  have hC : Calls P (ρ.f 138) #[.string s, .string ⟨#[c]⟩] w fun e w' => e = .returned (.int .i64 (Lib.countB s ⟨#[c]⟩)) ∧ w' = w := by
    refine (Any.strings_Count_one { L with } s c w).mono fun e w' ⟨he, hw⟩ => ⟨?_, hw⟩
    rw [he]
    show _ = Ending.returned (Value.int .i64 ((Lib.count s.data.toList [c] : Nat) : Int))
    rw [Lib.count_one]
    rfl
  have hg := Any.strings_genSplit_core { L with } hi9 s ⟨#[c]⟩ 0 (n : Int) (min n (s.size + 1)) w hs (Nat.le_refl 1) (Nat.zero_le _) hI hC (by omega) (by omega) (by rw [if_neg (by omega)]; omega)
  have t3 := L.t3; have t9 := L.t9; have t31 := L.t31
  have a3 := L.a3; have a9 := L.a9; have a31 := L.a31
  have z3 := L.z3; have v3 := L.v3; have z9 := L.z9; have v9 := L.v9; have z31 := L.z31; have v31 := L.v31
  have e221 : ∀ args w, (callFunc (ρ.f 221) args).run P w = .ok (.enter (ρ.f 221) args) w := enters_of L.f221 (by kernel_rfl) rfl
  go_enter L.f147, Body.n147_ntmps ρ
  go_wp2_with (go_at_fn (ρ.f 221); refine hg.mono ?_; rintro e w' ⟨rfl, hw⟩; rw [hw])
  go_ret
  exact ⟨rfl, rfl⟩
/-- What it has made, as a row of the call's own. -/
theorem row_made (t : TypeId) (L : List ByteArray) (n : Nat) (w : World) (h1 : L.length ≤ n) (hn : n ≤ 1000000) (hL : L ≠ []) :
    Kd.R Kd.string t (w.alloc (.cells (Lib.cellsOf L n) t)) w.heap.size (fun _ => True) (.slice (some ⟨w.heap.size, 0, none⟩) L.length n) L := by
  refine Kd.R_of_own ⟨by simp [encs], Or.inr ⟨w.heap.size, n, Lib.cellsOf L n, rfl, Nat.le_refl _, heap_alloc_new w _, h1, by unfold maxLen; omega, by rw [Lib.cellsOf_size h1, Nat.mul_one], ?_⟩⟩ fun _ _ => trivial
  rw [Nat.mul_one]
  unfold Lib.cellsOf encs
  rw [List.take_left' (by simp)]
end Go.Proofs.YtpeimnipoohaaaaDoor.SplitOne
