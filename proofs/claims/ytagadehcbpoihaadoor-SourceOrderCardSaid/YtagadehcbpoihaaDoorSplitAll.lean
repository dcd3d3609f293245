/- strings.Split at a separator of one byte. -/
import Derived.Shelf.Strings.Split
import Derived.Test.YtagadehcbpoihaaDoorWMore
import Derived.Test.YtagadehcbpoihaaDoorLines5
namespace Go.Proofs.YtagadehcbpoihaaDoor.SplitAll
open Go.Shelf Go.RowKit Go.Lib Go.Proofs Go.Proofs.YtagadehcbpoihaaDoorW.PrintWords Go.Proofs.YtagadehcbpoihaaDoorW.PrintLast Go.Proofs.YtagadehcbpoihaaDoorW.PrintMore Go.Proofs.YtagadehcbpoihaaDoor.Lines5 Go.Proofs.YtagadehcbpoihaaDoor.Str
variable {P : Program} {ρ : Ren}
set_option linter.unusedVariables false
set_option maxHeartbeats 4000000 in
set_option maxRecDepth 1000000 in
theorem split_one (L : Lays.n146 P ρ) (hi9 : (P.info? (ρ.t 9)).map (fun i => (i.zero, i.size, i.bytes)) = some (some (.string ByteArray.empty), 1, 16)) (s : ByteArray) (c : UInt8) (w : World) (hs : s.size < 4294967281) :
    Calls P (ρ.f 146) #[.string s, .string ⟨#[c]⟩] w fun e w' =>
      e = .returned (.slice (some ⟨w.heap.size, 0, none⟩) (Lib.countB s ⟨#[c]⟩ + 1) (Lib.countB s ⟨#[c]⟩ + 1)) ∧ w' = w.alloc (.cells ((Lib.splitB ⟨#[c]⟩ 0 (Lib.countB s ⟨#[c]⟩) s).map Value.string).toArray (ρ.t 9)) := by
  have hI : ∀ (x : ByteArray) (k : Array Value), x.size ≤ s.size → Calls P (ρ.f 143) #[.string x, .string ⟨#[c]⟩] (w.alloc (.cells k (ρ.t 9))) fun e w' => e = .returned (.int .i64 (Lib.indexB x ⟨#[c]⟩)) ∧ w' = w.alloc (.cells k (ρ.t 9)) := fun x k _ => by
    have h := Any.strings_Index_one { L with } x c (w.alloc (.cells k (ρ.t 9)))
    rw [Lines5.index_one]
    exact h
  have hC : Calls P (ρ.f 138) #[.string s, .string ⟨#[c]⟩] w fun e w' => e = .returned (.int .i64 (Lib.countB s ⟨#[c]⟩)) ∧ w' = w := by
    refine (Any.strings_Count_one { L with } s c w).mono fun e w' ⟨he, hw⟩ => ⟨?_, hw⟩
    rw [he]
    show _ = Ending.returned (Value.int .i64 ((Lib.count s.data.toList [c] : Nat) : Int))
    rw [Lib.count_one]
    rfl
  have h1 : 1 ≤ (⟨#[c]⟩ : ByteArray).size := Nat.le_refl 1
  have hle := Lib.countB_le (⟨#[c]⟩ : ByteArray) h1 s.size s (Nat.le_refl _)
  have hlen := Lib.splitB_all (⟨#[c]⟩ : ByteArray) h1 0 _ s rfl
  have hg := Any.strings_genSplit_core { L with } hi9 s ⟨#[c]⟩ 0 (-1) (Lib.countB s ⟨#[c]⟩ + 1) w hs h1 (Nat.zero_le _) hI hC (by decide) (by decide) (by rw [if_pos (by decide)]; omega)
  rw [Nat.add_sub_cancel, hlen] at hg
  have e2 : Lib.cellsOf (Lib.splitB ⟨#[c]⟩ 0 (Lib.countB s ⟨#[c]⟩) s) (Lib.countB s ⟨#[c]⟩ + 1) = ((Lib.splitB ⟨#[c]⟩ 0 (Lib.countB s ⟨#[c]⟩) s).map Value.string).toArray := by rw [← hlen]; exact Lib.cellsOf_full _
  rw [e2] at hg
  have t3 := L.t3; have t9 := L.t9; have t31 := L.t31
  have a3 := L.a3; have a9 := L.a9; have a31 := L.a31
  have z3 := L.z3; have v3 := L.v3; have z9 := L.z9; have v9 := L.v9; have z31 := L.z31; have v31 := L.v31
  have e221 : ∀ args w, (callFunc (ρ.f 221) args).run P w = .ok (.enter (ρ.f 221) args) w := enters_of L.f221 (by kernel_rfl) rfl
  go_enter L.f146, Body.n146_ntmps ρ
  go_wp2_with (go_at_fn (ρ.f 221); refine hg.mono ?_; rintro e w' ⟨rfl, hw⟩; rw [hw])
  go_ret
  exact ⟨rfl, rfl⟩
theorem count_eq (l : List UInt8) : Lib.countB (mkB l) ⟨#[10]⟩ = l.count 10 := by
  show Lib.count (mkB l).data.toList [10] = _
  rw [data_mkB, Lib.count_one]
/-- A text's pieces, as a row of the call's own. -/
theorem split_row (L : Lays.n146 P ρ) (hi9 : (P.info? (ρ.t 9)).map (fun i => (i.zero, i.size, i.bytes)) = some (some (.string ByteArray.empty), 1, 16)) (l : List UInt8) (w : World) (hl : l.length < 1000000000) :
    Calls P (ρ.f 146) #[.string (mkB l), .string ⟨#[10]⟩] w fun e w' => ∃ v, e = .returned v ∧ Kd.R Kd.string (ρ.t 9) w' w.heap.size (fun _ => True) v ((spl (l.count 10) l).map mkB) ∧ Below w.heap.size w w' := by
  refine (split_one L hi9 (mkB l) 10 w (by rw [size_mkB]; omega)).mono ?_
  rintro e w' ⟨rfl, rfl⟩
  rw [count_eq, splitB_spl]
  have hlen := spl_len l
  have hc : l.count 10 ≤ l.length := List.count_le_length
  refine ⟨_, rfl, ?_, below_alloc (Below.refl _ _) _⟩
  have e1 : l.count 10 + 1 = ((spl (l.count 10) l).map mkB).length := by rw [List.length_map, hlen]
  rw [e1]
  refine Kd.R_of_own ⟨by simp [encs], Or.inr ⟨w.heap.size, _, _, rfl, Nat.le_refl _, heap_alloc_new w _, Nat.le_refl _, by unfold maxLen; rw [← e1]; omega, by simp, ?_⟩⟩ fun _ _ => trivial
  unfold encs
  simp
  rw [List.take_of_length_le (by rw [List.length_map]; exact Nat.le_refl _)]
end Go.Proofs.YtagadehcbpoihaaDoor.SplitAll
