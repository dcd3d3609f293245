/- strings.IndexAny and strings.ContainsAny at texts of any length that there is, and a set of bytes below 128. -/
import Derived.Test.YtpeimnipoohaaaaDoorIdxAny
namespace Go.Proofs.YtpeimnipoohaaaaDoor.IdxAny
open Go.Shelf Go.RowKit Go.Lib Go.Proofs
variable {P : Program} {ρ : Ren}
set_option linter.unusedVariables false
set_option maxHeartbeats 8000000 in
set_option maxRecDepth 1000000 in
theorem any_big (L : Lays.n153 P ρ) (h116 : (P.info? (ρ.t 116)).map (fun i => (i.zero, i.size)) = some (some (.agg (Array.replicate 256 (.bool false))), 256)) (s chars : ByteArray) (w : World) (h2 : 2 ≤ chars.size) (h8 : 8 < s.size) (hs : s.size < 4611686018427387904) (hcs : chars.size < 4294967281) (hascii : ∀ b ∈ chars.data.toList, b.toNat < 128) :
    Calls P (ρ.f 153) #[.string s, .string chars] w fun e w' => e = .returned (.int .i64 (Lib.indexAny s.data.toList chars.data.toList)) ∧ Below w.heap.size w w' := by
  have hM := Any.strings_makeASCIISet { L with } (zero_of_info h116).1 (zero_of_info h116).2 chars w hcs fun j b hj => hascii b (List.mem_of_getElem? hj)
  clear hascii
  obtain ⟨S, hS⟩ : ∃ S, Lib.setCells chars.data.toList = S := ⟨_, rfl⟩
  have hsz : S.size = 256 := by rw [← hS]; exact Lib.setCells_size _
  have hone := Lib.setCells_one chars.data.toList
  have hat : ∀ x : UInt8, S[x.toNat]? = some (.bool (chars.data.toList.contains x)) := fun x => by rw [← hS]; exact Lib.setCells_at _ _
  rw [hS] at hM hone
  obtain ⟨W, hW⟩ : ∃ W, (w.alloc (.cells S (ρ.t 116))).alloc (.cells S (ρ.t 116)) = W := ⟨_, rfl⟩
  have hbW : Below w.heap.size w W := by rw [← hW]; exact ((Below.refl _ _).alloc (Nat.le_refl _) _).alloc (by simp) _
  have hput : (storeCells ⟨w.heap.size + 1, 0, none⟩ S.toList 0).run P ((w.alloc (.cells S (ρ.t 116))).alloc (.cells (Array.replicate 256 (.bool false)) (ρ.t 116))) = .ok () W := by
    have h := run_storeCells_new (P := P) (w.alloc (.cells S (ρ.t 116))) (ρ.t 116) (Array.replicate 256 (.bool false)) S (by rw [hsz]; exact (zero_of_info h116).2) (by rw [hsz, Array.size_replicate]) hone
    rw [← hW]
    simpa using h
  have HC : Aside (∀ x : UInt8, W.cell? ⟨w.heap.size + 1, x.toNat, none⟩ = some (.bool (chars.data.toList.contains x))) := fun x => by
    rw [← hW, World.cell?_alloc_at _ _ _ _ (by simp)]
    exact hat x
  clear hat hone hS
  have hv116 := (zero_of_info h116).1
  have hemp : chars.toList.isEmpty = false := by
    rw [Lib.toList_data]
    cases h : chars.data.toList with
    | nil => have := Lib.size_eq chars; rw [h, List.length_nil] at this; omega
    | cons _ _ => rfl
  have hn1 : ((chars.size : Int) == 1) = false := beq_eq_false_iff_ne.2 (by omega)
  have h8z : decide ((8 : Int) < (s.size : Int)) = true := decide_eq_true (by omega)
  have t3 := L.t3; have a3 := L.a3; have z3 := L.z3; have v3 := L.v3
  have t4 := L.t4; have a4 := L.a4; have z4 := L.z4; have v4 := L.v4
  have t5 := L.t5; have a5 := L.a5; have z5 := L.z5; have v5 := L.v5
  have t9 := L.t9; have a9 := L.a9; have z9 := L.z9; have v9 := L.v9
  have t21 := L.t21; have a21 := L.a21; have z21 := L.z21; have v21 := L.v21
  have t116 := L.t116
  have e226 : ∀ args w, (callFunc (ρ.f 226) args).run P w = .ok (.enter (ρ.f 226) args) w := enters_of L.f226 (by kernel_rfl) rfl
  have e227 : ∀ args w, (callFunc (ρ.f 227) args).run P w = .ok (.enter (ρ.f 227) args) w := enters_of L.f227 (by kernel_rfl) rfl
  have e228 : ∀ args w, (callFunc (ρ.f 228) args).run P w = .ok (.enter (ρ.f 228) args) w := enters_of L.f228 (by kernel_rfl) rfl
  go_enter L.f153, Body.n153_ntmps ρ
  go_wp2_with (first
    | (go_at_fn (ρ.f 226); refine (Any.strings_shouldUseASCIISet { L with } _ _).mono ?_; rintro e w' ⟨rfl, hw⟩; rw [hw, h8z])
    | (go_at_fn (ρ.f 227); refine hM.mono ?_; rintro e w' ⟨rfl, hw⟩; rw [hw]))
  simp only [L.z116, Result.andThen, ↓reduceIte, hput]
  rw [Oper.upon_skip]
  go_wp2
  clear hM hput
  go_loopg [8] s.size (fun g s8 wx => ∃ i : Nat, i + g = s.size ∧ s8 = .int .i64 i ∧ wx = W ∧ Lib.NoAny s.data.toList chars.data.toList i)
  case atStart => exact ⟨0, by omega, rfl, by first | rfl | exact hW, Lib.NoAny.zero _ _⟩
  case round =>
    obtain ⟨i, hig, rfl, rfl, hno⟩ := hrel
    have HN : Aside (Lib.NoAny s.data.toList chars.data.toList i) := hno
    clear hno
    cases gk with
    | zero =>
      obtain rfl : i = s.size := by omega
      have hiz : ¬ ((s.size : Int) < (s.size : Int)) := by omega
      go_wp2
      go_ret
      exact ⟨by rw [Lib.indexAny_none (by rw [← Lib.size_eq]; exact HN)]; rfl, hbW⟩
    | succ g =>
      have hi : i < s.size := by omega
      have hiz : (i : Int) < (s.size : Int) := by omega
      have hwi : wrap64 ((i : Int) + 1) = (i : Int) + 1 := by unfold wrap64; omega
      obtain ⟨x, hx⟩ : ∃ x : UInt8, s[i]'hi = x := ⟨_, rfl⟩
      have Hx : Aside (s.data.toList[i]? = some x) := by rw [← hx]; exact Lib.data_getElem? s i hi
      have hcx := HC x
      cases hin : chars.data.toList.contains x <;> rw [hin] at hcx
      · go_wp2_with (go_at_fn (ρ.f 228); refine (Any.asciiSet_contains { L with } _ x _ _ hcx).mono ?_; rintro e w' ⟨rfl, hw⟩; rw [hw])
        go_roundg g
        case measure => omega
        case rel => exact ⟨i + 1, by omega, by first | rfl | (rw [hwi]; rfl) | simp, rfl, Lib.NoAny.succ HN Hx hin⟩
      · go_wp2_with (go_at_fn (ρ.f 228); refine (Any.asciiSet_contains { L with } _ x _ _ hcx).mono ?_; rintro e w' ⟨rfl, hw⟩; rw [hw])
        go_ret
        exact ⟨by rw [Lib.indexAny_hit HN Hx hin]; rfl, hbW⟩
theorem contains_big (L : Lays.n150 P ρ) (h116 : (P.info? (ρ.t 116)).map (fun i => (i.zero, i.size)) = some (some (.agg (Array.replicate 256 (.bool false))), 256)) (s chars : ByteArray) (w : World) (h2 : 2 ≤ chars.size) (hs : s.size < 4611686018427387904) (hcs : chars.size < 4294967281) (hascii : ∀ b ∈ chars.data.toList, b.toNat < 128) :
    Calls P (ρ.f 150) #[.string s, .string chars] w fun e w' => e = .returned (.bool (Lib.containsAny s.data.toList chars.data.toList)) ∧ Below w.heap.size w w' := by
  have c : Calls P (ρ.f 153) #[.string s, .string chars] w fun e w' => e = .returned (.int .i64 (Lib.indexAny s.data.toList chars.data.toList)) ∧ Below w.heap.size w w' := by
    by_cases h8 : s.size ≤ 8
    · exact any_short { L with } s chars w h2 h8 hcs hascii
    · exact any_big { L with } h116 s chars w h2 (by omega) hs hcs hascii
  have t3 := L.t3; have a3 := L.a3; have z3 := L.z3; have v3 := L.v3
  have t4 := L.t4; have a4 := L.a4; have z4 := L.z4; have v4 := L.v4
  have t9 := L.t9; have a9 := L.a9; have z9 := L.z9; have v9 := L.v9
  have e153 : ∀ args w, (callFunc (ρ.f 153) args).run P w = .ok (.enter (ρ.f 153) args) w := enters_of L.f153 (by kernel_rfl) rfl
  go_enter L.f150, Body.n150_ntmps ρ
  go_wp2_with (go_at_fn (ρ.f 153); refine c.mono ?_; rintro e w' ⟨rfl, hw⟩)
  go_ret
  exact ⟨rfl, hw⟩
end Go.Proofs.YtpeimnipoohaaaaDoor.IdxAny
