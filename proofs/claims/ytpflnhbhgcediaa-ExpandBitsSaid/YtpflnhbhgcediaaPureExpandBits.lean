/- ExpandBits, the plain law: texts and answers that are made of parts are short. -/
import Derived.Test.YtpflnhbhgcediaaRdExpandBits
import Derived.Test.YtpflnhbhgcediaaEvl
import Derived.Test.YtpflnhbhgcediaaStr
namespace Go.Proofs.Ytpflnhbhgcediaa.PureExpandBits
open Go.RowKit Go.Proofs.YtpflnhbhgcediaaR Go.Proofs.Ytpflnhbhgcediaa.QBt Go.Proofs.YtpflnhbhgcediaaW.PrintWords Go.Proofs.YtpflnhbhgcediaaW.PrintLast Go.Proofs.YtpflnhbhgcediaaN Go.Proofs.Ytpflnhbhgcediaa.Evl
set_option linter.unusedVariables false
set_option linter.unusedSimpArgs false
theorem bits_round (P : List ByteArray) (h24 : P.length = 24) (h8 : ∀ y ∈ P, y.size ≤ 8) (x0 : List Int) (x3 : ByteArray) (i : Nat) (hi : i < x0.length) (hl : x0.length ≤ 60) (hs : x3.size ≤ 8 * i) (hw : 0 ≤ rd x0 (i : Int) ∧ rd x0 (i : Int) < 256)
    (f : Nat → ByteArray → Int → Option ByteArray) (G : ByteArray → Prop) (ih : ∀ s : ByteArray, s.size ≤ 8 * (i + 1) → EvG (fun k => f k s ((i + 1 : Nat) : Int)) G) :
    EvG (fun k => (some P).bind fun y => (if 0 ≤ (i : Int) then (if (y.length : Int) = 0 then none else (if 0 ≤ (Int.tmod (wrap64 (rd x0 (i : Int))) (y.length : Int)) then (if (Int.tmod (wrap64 (rd x0 (i : Int))) (y.length : Int)) < (y.length : Int) then (if x3.size + (rdOf ByteArray.empty y (Int.tmod (wrap64 (rd x0 (i : Int))) (y.length : Int))).size ≤ 9223372036854775807 then f k (x3 ++ (rdOf ByteArray.empty y (Int.tmod (wrap64 (rd x0 (i : Int))) (y.length : Int)))) (wrap64 ((i : Int) + 1)) else none) else none) else none)) else none)) G := by
  refine EvG.bind (Evl.some P) ?_
  rw [h24, wn (by omega), w64 (x := rd x0 (i : Int)) (by omega) (by omega)]
  obtain ⟨z, hz⟩ : ∃ z, rd x0 (i : Int) = z := ⟨_, rfl⟩
  rw [hz] at hw ⊢
  have hm : Int.tmod z ((24 : Nat) : Int) = z % 24 := Int.tmod_eq_emod_of_nonneg hw.1
  rw [hm]
  have h0 : 0 ≤ z % 24 := Int.emod_nonneg _ (by decide)
  have h1 : z % 24 < 24 := Int.emod_lt_of_pos _ (by decide)
  have hp : (rdOf ByteArray.empty P (z % 24)).size ≤ 8 := by
    unfold rdOf
    rw [List.getD_eq_getElem?_getD, List.getElem?_eq_getElem (by omega), Option.getD_some]
    exact h8 _ (List.getElem_mem _)
  clear hm hz
  refine EvG.pos (by omega) (EvG.neg (by decide) (EvG.pos h0 (EvG.pos h1 (EvG.pos (by omega) (ih _ ?_)))))
  rw [ByteArray.size_append]
  omega
theorem bits_l (x0 : List Int) (hl : x0.length ≤ 60) (hw : ∀ x ∈ x0, 0 ≤ x ∧ x < 256) : ∀ (m i : Nat) (s : ByteArray), i + m = x0.length → s.size ≤ 8 * i → EvG (fun k => frisketlaw04_bits.l0 k x0 s (i : Int)) (fun t => t.size ≤ 8 * 60)
  | 0, i, s, e, hs => by
    refine EvG.succ ?_
    simp only [frisketlaw04_bits.l0]
    exact EvG.neg (by omega) (EvG.mk (Evl.some _) (by omega))
  | m + 1, i, s, e, hs => by
    have ih := fun t ht => bits_l x0 hl hw m (i + 1) t (by omega) ht
    have hr : 0 ≤ rd x0 (i : Int) ∧ rd x0 (i : Int) < 256 := by
      unfold rd
      rw [Int.toNat_natCast, List.getD_eq_getElem?_getD, List.getElem?_eq_getElem (by omega), Option.getD_some]
      exact hw _ (List.getElem_mem _)
    refine EvG.succ ?_
    simp only [frisketlaw04_bits.l0]
    refine EvG.pos (by omega) ?_
    exact bits_round _ rfl (by decide) x0 s i (by omega) hl hs hr (fun k => frisketlaw04_bits.l0 k x0) _ ih
theorem bits_ev (l : List Int) (hl : l.length ≤ 60) (hw : ∀ x ∈ l, 0 ≤ x ∧ x < 256) : EvG (fun k => frisketlaw04_bits.f k l) (fun t => t.size ≤ 8 * 60) := by
  unfold frisketlaw04_bits.f
  exact bits_l l hl hw l.length 0 (⟨#[]⟩ : ByteArray) (by omega) (Nat.zero_le _)
theorem same_ok (a : ByteArray) (b : Bool) (l : List ByteArray) (ha : a.size ≤ 8 * 60) (hl : l.length ≤ 6) (hs : ∀ x ∈ l, x.size ≤ 8 * 60) : frisketlaw04_same.f a b l = some true := by
  have hsm : small l = true := by
    unfold small
    rw [Bool.and_eq_true, List.all_eq_true]
    exact ⟨decide_eq_true (by omega), fun x hx => decide_eq_true (by have := hs x hx; omega)⟩
  exact if_pos ⟨by omega, hsm⟩
theorem bits_loop (x0 : List Int) (h0 : x0.length ≤ 60) (hw0 : ∀ x ∈ x0, 0 ≤ x ∧ x < 256) (x1 : Bool) (x2 : List (List Int)) (h2 : x2.length ≤ 6) (hw2 : ∀ q ∈ x2, ∀ x ∈ q, 0 ≤ x ∧ x < 256) :
    ∀ (m i : Nat) (xs : List ByteArray), i + m = x2.length → xs.length ≤ i → (∀ a ∈ xs, a.size ≤ 8 * 60) → Evl (fun k => frisketlaw04_ExpandBits.l0 k x0 x1 x2 xs (i : Int)) true
  | 0, i, xs, e, hx, hs => by
    obtain ⟨t, ht, hts⟩ := bits_ev x0 h0 hw0
    refine Evl.succ ?_
    simp only [frisketlaw04_ExpandBits.l0]
    refine Evl.neg (by omega) (Evl.bind (f := fun k => frisketlaw04_bits.f k x0) ht ?_)
    rw [same_ok t x1 xs hts (by omega) hs]
    exact Evl.bind (Evl.some true) (Evl.pos rfl (Evl.bind (Evl.some true) (Evl.some true)))
  | m + 1, i, xs, e, hx, hs => by
    have hq : rd_L3 x2 (i : Int) ∈ x2 := by
      unfold rd_L3
      rw [Int.toNat_natCast, List.getD_eq_getElem?_getD, List.getElem?_eq_getElem (by omega), Option.getD_some]
      exact List.getElem_mem _
    obtain ⟨q, hqe⟩ : ∃ q, rd_L3 x2 (i : Int) = q := ⟨_, rfl⟩
    rw [hqe] at hq
    refine Evl.succ ?_
    simp only [frisketlaw04_ExpandBits.l0]
    rw [wn (by omega), hqe]
    refine Evl.pos (by omega) (Evl.pos (by omega) ?_)
    by_cases h20 : (q.length : Int) > 20
    · exact Evl.pos h20 (Evl.bind (Evl.some true) (Evl.some true))
    · obtain ⟨t, ht, hts⟩ := bits_ev q (by omega) (hw2 q hq)
      refine Evl.neg h20 (Evl.bind (f := fun k => frisketlaw04_bits.f k q) ht (Evl.pos (by omega) ?_))
      refine bits_loop x0 h0 hw0 x1 x2 h2 hw2 m (i + 1) (xs ++ [t]) (by omega) (by rw [List.length_append, List.length_cons, List.length_nil]; omega) ?_
      intro a ha
      rcases List.mem_append.1 ha with ha | ha
      · exact hs a ha
      · rw [List.mem_singleton.1 ha]
        exact hts
theorem ExpandBits (l0 : List Int) (a1 : Bool) (l2 : List (List Int)) (g0 : R26.good l0) (g2 : R27.good l2) : ∃ k, frisketlaw04_ExpandBits.f k l0 a1 l2 = some true := by
  have hu : ∀ x : Int, (Lit.int .u8 x).wf = true → 0 ≤ x ∧ x < 256 := by
    intro x hx
    simp [Lit.wf, IntKind.min, IntKind.max, IntKind.signed, IntKind.bits] at hx
    omega
  have hw0 : ∀ x ∈ l0, 0 ≤ x ∧ x < 256 := fun x hx => hu x (g0.2.2 x hx)
  have hw2 : ∀ q ∈ l2, ∀ x ∈ q, 0 ≤ x ∧ x < 256 := fun q hq x hx => hu x ((g2.2.2 q hq).2.2 x hx)
  refine Evl.out ?_
  unfold frisketlaw04_ExpandBits.f
  have hsane : Evl (fun k => frisketlaw04_ExpandBits.j0 k l0 a1 l2 true) true := by
    refine Evl.succ ?_
    simp only [frisketlaw04_ExpandBits.j0]
    exact Evl.pos trivial (Evl.bind (Evl.some true) (Evl.some true))
  refine Evl.ite (fun _ => hsane) (fun c => ?_)
  by_cases c2 : (l2.length : Int) > 6
  · rw [decide_eq_true c2]
    exact hsane
  · rw [decide_eq_false c2]
    refine Evl.succ ?_
    simp only [frisketlaw04_ExpandBits.j0]
    exact Evl.neg (by decide) (bits_loop l0 (by omega) hw0 a1 l2 (by omega) hw2 l2.length 0 [] (by omega) (Nat.le_refl _) (fun a ha => by cases ha))
end Go.Proofs.Ytpflnhbhgcediaa.PureExpandBits
