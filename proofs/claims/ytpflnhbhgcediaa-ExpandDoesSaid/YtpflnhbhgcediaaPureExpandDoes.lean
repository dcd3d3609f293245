/- ExpandDoes, the plain law: a text that is not too long is answered as the document says. -/
import Derived.Test.YtpflnhbhgcediaaRdExpandDoes
import Derived.Test.YtpflnhbhgcediaaEvl
import Derived.Test.YtpflnhbhgcediaaStr
namespace Go.Proofs.Ytpflnhbhgcediaa.PureExpandDoes
open Go.RowKit Go.Proofs.YtpflnhbhgcediaaR Go.Proofs.Ytpflnhbhgcediaa.QDo Go.Proofs.YtpflnhbhgcediaaW.PrintWords Go.Proofs.YtpflnhbhgcediaaW.PrintLast Go.Proofs.YtpflnhbhgcediaaN Go.Proofs.Ytpflnhbhgcediaa.Evl
set_option linter.unusedVariables false
set_option linter.unusedSimpArgs false
theorem light_any (l : List ByteArray) (hl : l.length < 1000000000000000) : ∀ (m i : Nat) (x : Int), i + m = l.length → EvG (fun k => frisketlaw04_light.l0 k l x (i : Int)) (fun r => r = true → l.length ≤ 20)
  | 0, i, x, e => by
    refine EvG.succ ?_
    simp only [frisketlaw04_light.l0]
    refine EvG.neg (by omega) (EvG.ite (fun c => EvG.mk (Evl.some _) (fun h => ?_)) (fun c => EvG.mk (Evl.some _) (fun h => by cases h)))
    have := of_decide_eq_true h
    omega
  | m + 1, i, x, e => by
    refine EvG.succ ?_
    simp only [frisketlaw04_light.l0]
    rw [wn (by omega)]
    exact EvG.pos (by omega) (EvG.pos (by omega) (light_any l hl m (i + 1) _ (by omega)))
theorem light_sum (l : List ByteArray) (h20 : l.length ≤ 20) (hs : ∀ a ∈ l, a.size ≤ 140737488351232) : ∀ (m i n : Nat), i + m = l.length → n ≤ (i + 1) * 140737488351232 → EvG (fun k => frisketlaw04_light.l0 k l (n : Int) (i : Int)) (fun r => r = true → n ≤ 2500 ∧ ∀ a ∈ l.drop i, a.size ≤ 2500)
  | 0, i, n, e, hn => by
    refine EvG.succ ?_
    simp only [frisketlaw04_light.l0]
    refine EvG.neg (by omega) (EvG.ite (fun c => EvG.mk (Evl.some _) (fun h => ⟨by omega, ?_⟩)) (fun c => EvG.mk (Evl.some _) (fun h => by cases h)))
    rw [List.drop_eq_nil_of_le (by omega)]
    intro a ha
    cases ha
  | m + 1, i, n, e, hn => by
    have hi : i < l.length := by omega
    have hz : rdOf ByteArray.empty l (i : Int) = l[i] := by
      unfold rdOf
      rw [Int.toNat_natCast, List.getD_eq_getElem?_getD, List.getElem?_eq_getElem hi, Option.getD_some]
    have h1 := hs l[i] (List.getElem_mem hi)
    obtain ⟨v, hv, hg⟩ := light_sum l h20 hs m (i + 1) (n + l[i].size) (by omega) (by omega)
    refine EvG.succ ?_
    simp only [frisketlaw04_light.l0]
    rw [wn (by omega), hz, w64 (x := (n : Int) + (l[i].size : Int)) (by omega) (by omega), show (n : Int) + (l[i].size : Int) = ((n + l[i].size : Nat) : Int) by omega]
    refine EvG.pos (by omega) (EvG.pos (by omega) (EvG.mk hv (fun h => ?_)))
    obtain ⟨g1, g2⟩ := hg h
    refine ⟨by omega, fun a ha => ?_⟩
    rw [List.drop_eq_getElem_cons hi] at ha
    rcases List.mem_cons.1 ha with rfl | ha
    · omega
    · exact g2 a ha
theorem ExpandDoes (a0 : ByteArray) (a1 : Bool) (l2 : List ByteArray) (g0 : R9.good a0) (g2 : R22.good l2) : ∃ k, frisketlaw04_ExpandDoes.f k a0 a1 l2 = some true := by
  have h0 : a0.size ≤ 140737488351232 := g0
  have hl : l2.length < 1000000000000000 := by
    have h := g2.2.1
    omega
  have hs : ∀ a ∈ l2, a.size ≤ 140737488351232 := fun a ha => g2.2.2 a ha
  have key : EvG (fun k => frisketlaw04_light.f k a0 l2) (fun r => r = true → frisketlaw04_same.f a0 a1 l2 = some true) := by
    unfold frisketlaw04_light.f
    by_cases h20 : l2.length ≤ 20
    · obtain ⟨v, hv, hg⟩ := light_sum l2 h20 hs l2.length 0 a0.size (by omega) (by omega)
      refine EvG.mk hv (fun h => ?_)
      obtain ⟨g1, g2⟩ := hg h
      rw [List.drop_zero] at g2
      have hsm : small l2 = true := by
        unfold small
        rw [Bool.and_eq_true, List.all_eq_true]
        exact ⟨decide_eq_true (by omega), fun a ha => decide_eq_true (by have := g2 a ha; omega)⟩
      exact if_pos ⟨by omega, hsm⟩
    · obtain ⟨v, hv, hg⟩ := light_any l2 hl l2.length 0 (a0.size : Int) (by omega)
      exact EvG.mk hv (fun h => absurd (hg h) h20)
  obtain ⟨v, hv, hg⟩ := key
  refine Evl.out ?_
  unfold frisketlaw04_ExpandDoes.f
  refine Evl.bind (f := fun k => frisketlaw04_light.f k a0 l2) hv ?_
  refine Evl.ite (fun c => ?_) (fun c => ?_)
  · rw [hg c]
    exact Evl.bind (Evl.some true) (Evl.pos rfl (Evl.bind (Evl.some true) (Evl.some true)))
  · exact Evl.bind (Evl.some true) (Evl.some true)
end Go.Proofs.Ytpflnhbhgcediaa.PureExpandDoes
