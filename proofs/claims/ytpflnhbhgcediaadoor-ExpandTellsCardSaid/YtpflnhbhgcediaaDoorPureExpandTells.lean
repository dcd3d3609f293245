/- ExpandTells, the plain law: which texts are plain, which names stand in one, and how it is protected, are as the document says. -/
import Derived.Test.YtpflnhbhgcediaaDoorTell5
namespace Go.Proofs.YtpflnhbhgcediaaDoor.Pure
open Go.RowKit Go.Proofs.YtpflnhbhgcediaaDoor.QTe Go.Proofs.YtpflnhbhgcediaaDoorW.PrintWords Go.Proofs.YtpflnhbhgcediaaDoorW.PrintLast Go.Proofs.YtpflnhbhgcediaaDoorN Go.Proofs.YtpflnhbhgcediaaDoor.Evl Go.Proofs.YtpflnhbhgcediaaDoor.Str Go.Proofs.YtpflnhbhgcediaaDoor.Tell4 Go.Proofs.YtpflnhbhgcediaaDoor.Plain4 Go.Proofs.YtpflnhbhgcediaaDoor.Names4
set_option linter.unusedVariables false
set_option linter.unusedSimpArgs false
theorem list_l (l : List ByteArray) (hl : l.length < 1000000) : ∀ (m i : Nat), i + m = l.length → Evl (fun k => frisketlaw04_list.l0 k l l (i : Int)) true
  | 0, i, e => by
    refine Evl.succ ?_
    simp only [frisketlaw04_list.l0]
    exact Evl.neg (by omega) (Evl.some _)
  | m + 1, i, e => by
    have ih := list_l l hl m (i + 1) (by omega)
    refine Evl.succ ?_
    simp only [frisketlaw04_list.l0]
    rw [wn (by omega)]
    exact Evl.pos (by omega) (Evl.pos (by omega) (Evl.pos (by omega) (Evl.pos trivial ih)))
theorem list_ev (l : List ByteArray) (hl : l.length < 1000000) : Evl (fun k => frisketlaw04_list.f k l l) true := by
  unfold frisketlaw04_list.f
  exact Evl.pos rfl (list_l l hl l.length 0 (by omega))
theorem tells_ev (l : List UInt8) (hl : l.length < 100000) : Evl (fun k => frisketlaw04_tells.f k (mkB l)) true := by
  unfold frisketlaw04_tells.f
  rw [protect_f l hl]
  refine Evl.bind (Evl.some _) ?_
  refine Evl.bind (f := fun k => frisketref04_Protect.f k (mkB l)) (rprotect_ev l hl) ?_
  refine Evl.pos rfl (Evl.pos rfl ?_)
  rw [plain_f l hl]
  refine Evl.bind (Evl.some _) ?_
  refine Evl.bind (f := fun k => frisketref04_Plain.f k (mkB l)) (rplain_ev l hl) ?_
  rw [bne_self_eq_false]
  refine Evl.succ ?_
  simp only [frisketlaw04_tells.j0]
  refine Evl.neg (by decide) ?_
  rw [names_f l hl]
  refine Evl.bind (Evl.some _) ?_
  refine Evl.bind (f := fun k => frisketref04_Names.f k (mkB l)) (rnames_ev l.length l (Nat.le_refl _) hl (l.length + 1) (Nat.lt_succ_self _)) ?_
  have hn : (nmB (l.length + 1) l).length < 1000000 := by
    have := nms_len (l.length + 1) l
    unfold nmB
    rw [List.length_map]
    omega
  exact Evl.bind (f := fun k => frisketlaw04_list.f k (nmB (l.length + 1) l) (nmB (l.length + 1) l)) (list_ev _ hn) (Evl.some _)
theorem tells_ba (s : ByteArray) (hs : s.size < 100000) : Evl (fun k => frisketlaw04_tells.f k s) true := by
  have h := tells_ev s.data.toList (by rw [Array.length_toList]; exact hs)
  rwa [← mkB_data s] at h
theorem bits_round (P : List ByteArray) (h24 : P.length = 24) (h8 : ∀ y ∈ P, y.size ≤ 8) (x0 : List Int) (x3 : ByteArray) (i : Nat) (hi : i < x0.length) (hl : x0.length ≤ 60) (hs : x3.size ≤ 8 * i) (hw : 0 ≤ rd x0 (i : Int) ∧ rd x0 (i : Int) < 256)
    (f : Nat → ByteArray → Int → Option ByteArray) (G : ByteArray → Prop) (ih : ∀ s : ByteArray, s.size ≤ 8 * (i + 1) → EvG (fun k => f k s ((i + 1 : Nat) : Int)) G) :
    EvG (fun k => (some P).bind fun y => (if 0 ≤ (i : Int) then (if (y.length : Int) = 0 then none else (if 0 ≤ (Int.tmod (wrap64 (rd x0 (i : Int))) (y.length : Int)) then (if (Int.tmod (wrap64 (rd x0 (i : Int))) (y.length : Int)) < (y.length : Int) then (if x3.size + (rdOf ByteArray.empty y (Int.tmod (wrap64 (rd x0 (i : Int))) (y.length : Int))).size ≤ 9223372036854775807 then f k (x3 ++ (rdOf ByteArray.empty y (Int.tmod (wrap64 (rd x0 (i : Int))) (y.length : Int)))) (wrap64 ((i : Int) + 1)) else none) else none) else none)) else none)) G := by
  refine EvG.bind (Evl.some P) ?_
  rw [h24, wn (by omega), w64 (x := rd x0 (i : Int)) (by omega) (by omega)]
  obtain ⟨z, hz⟩ : ∃ z, rd x0 (i : Int) = z := ⟨_, rfl⟩
  rw [hz] at hw ⊢
  have hm : Int.tmod z ((24 : Nat) : Int) = z % 24 := Int.tmod_eq_emod_of_nonneg hw.1
  rw [hm]
  have h0 : 0 ≤ z % 24 := Int.emod_nonneg _ (by decide)
  have h1 : z % 24 < 24 := Int.emod_lt_of_pos _ (by decide)
  have hp : (rdOf ByteArray.empty P (z % 24)).size ≤ 8 := by
    unfold rdOf
    rw [List.getD_eq_getElem?_getD, List.getElem?_eq_getElem (by omega), Option.getD_some]
    exact h8 _ (List.getElem_mem _)
  clear hm hz
  refine EvG.pos (by omega) (EvG.neg (by decide) (EvG.pos h0 (EvG.pos h1 (EvG.pos (by omega) (ih _ ?_)))))
  rw [ByteArray.size_append]
  omega
theorem bits_l (x0 : List Int) (hl : x0.length ≤ 60) (hw : ∀ x ∈ x0, 0 ≤ x ∧ x < 256) : ∀ (m i : Nat) (s : ByteArray), i + m = x0.length → s.size ≤ 8 * i → EvG (fun k => frisketlaw04_bits.l0 k x0 s (i : Int)) (fun t => t.size ≤ 8 * 60)
  | 0, i, s, e, hs => by
    refine EvG.succ ?_
    simp only [frisketlaw04_bits.l0]
    exact EvG.neg (by omega) (EvG.mk (Evl.some _) (by omega))
  | m + 1, i, s, e, hs => by
    have ih := fun t ht => bits_l x0 hl hw m (i + 1) t (by omega) ht
    have hr : 0 ≤ rd x0 (i : Int) ∧ rd x0 (i : Int) < 256 := by
      unfold rd
      rw [Int.toNat_natCast, List.getD_eq_getElem?_getD, List.getElem?_eq_getElem (by omega), Option.getD_some]
      exact hw _ (List.getElem_mem _)
    refine EvG.succ ?_
    simp only [frisketlaw04_bits.l0]
    refine EvG.pos (by omega) ?_
    exact bits_round _ rfl (by decide) x0 s i (by omega) hl hs hr (fun k => frisketlaw04_bits.l0 k x0) _ ih
theorem ExpandTells : frisketlaw04_ExpandTells.Pure := by
  intro a0 l1 h0 h1 h2 h3
  have hw : ∀ x ∈ l1, 0 ≤ x ∧ x < 256 := by
    intro x hx
    have := h3 x hx
    simp [Lit.wf, IntKind.min, IntKind.max, IntKind.signed, IntKind.bits] at this
    omega
  refine Evl.out ?_
  unfold frisketlaw04_ExpandTells.f
  have hsane : Evl (fun k => frisketlaw04_ExpandTells.j0 k a0 l1 true) true := by
    refine Evl.succ ?_
    simp only [frisketlaw04_ExpandTells.j0]
    exact Evl.pos trivial (Evl.bind (Evl.some true) (Evl.some true))
  refine Evl.ite (fun _ => hsane) (fun c => ?_)
  by_cases c2 : (l1.length : Int) > 60
  · rw [decide_eq_true c2]
    exact hsane
  · rw [decide_eq_false c2]
    refine Evl.succ ?_
    simp only [frisketlaw04_ExpandTells.j0]
    obtain ⟨t, ht, hts⟩ := bits_l l1 (by omega) hw l1.length 0 (⟨#[]⟩ : ByteArray) (by omega) (Nat.zero_le _)
    refine Evl.neg (by decide) (Evl.bind (f := fun k => frisketlaw04_tells.f k a0) (tells_ba a0 (by omega)) (Evl.pos rfl (Evl.bind (f := fun k => frisketlaw04_bits.f k l1) ht (Evl.bind (f := fun k => frisketlaw04_tells.f k t) (tells_ba t (by omega)) (Evl.pos rfl ?_)))))
    exact Evl.bind (Evl.some true) (Evl.some true)
end Go.Proofs.YtpflnhbhgcediaaDoor.Pure
