/- A control line is written as the document says, or refused. No condition. -/
import Derived.Test.YtpeimnipoohaaaaDoorWriteRw
import Derived.Test.YtpeimnipoohaaaaDoorRdRequestWrites
namespace Go.Proofs.YtpeimnipoohaaaaDoor.PureRequestWrites
open Go.RowKit Go.Proofs.YtpeimnipoohaaaaDoorR Go.Proofs.YtpeimnipoohaaaaDoorW.PrintWords Go.Proofs.YtpeimnipoohaaaaDoorW.PrintLast Go.Proofs.YtpeimnipoohaaaaDoorW.PrintMore Go.Proofs.YtpeimnipoohaaaaDoorN Go.Proofs.YtpeimnipoohaaaaDoor.Evl Go.Proofs.YtpeimnipoohaaaaDoor.Str Go.Proofs.YtpeimnipoohaaaaDoor.QRq Go.Proofs.YtpeimnipoohaaaaDoor.QRw Go.Proofs.YtpeimnipoohaaaaDoor.P06
set_option linter.unusedVariables false
theorem more_l1 (l2 : List (List Int)) (h8 : l2.length ≤ 8) (hw : ∀ q ∈ l2, ∀ x ∈ q, (Lit.int .u8 x).wf = true) : ∀ (d i : Nat), i + d = l2.length → ∀ M : List (List UInt8), M.length = i → (∀ a ∈ M, a.length ≤ 300) →
    Evl (fun k => frisketlaw06_RequestWrites.l1 k l2 (strs M) (i : Int)) true
  | 0, i, h, M, hM, hm => by
    refine Evl.succ ?_
    simp only [frisketlaw06_RequestWrites.l1]
    have hn : ([120, 120] : List UInt8).length < 100000000 := by decide
    refine Evl.neg (by omega) (Evl.bind (Write_prog [120, 120] M 300 (by decide) hm (by omega) (by omega)) (Evl.bind (Write_ref [120, 120] M 300 hn hm (by omega) (by omega)) (Evl.pos rfl (Evl.pos rfl (Evl.bind sane_f (Evl.some _))))))
  | d + 1, i, h, M, hM, hm => by
    have hi : i < l2.length := by omega
    have hrd : rd_L5 l2 (i : Int) ∈ l2 := by
      unfold rd_L5
      rw [List.getD_eq_getElem?_getD, Int.toNat_natCast, List.getElem?_eq_getElem hi]
      exact List.getElem_mem hi
    refine Evl.succ ?_
    simp only [frisketlaw06_RequestWrites.l1]
    refine Evl.pos (by omega) (Evl.pos (by omega) ?_)
    by_cases hl : ((rd_L5 l2 (i : Int)).length : Int) > 12
    · exact Evl.pos hl (Evl.bind sane_f (Evl.some _))
    · obtain ⟨t, ht, htl⟩ := bits_f (rd_L5 l2 (i : Int)) (by omega) (hw _ hrd)
      refine Evl.neg hl (Evl.bind ht (Evl.pos (by rw [strs_len]; omega) ?_))
      have e : strs M ++ [mkB t] = strs (M ++ [t]) := by simp [strs]
      rw [e, wn (by omega)]
      refine more_l1 l2 h8 hw d (i + 1) (by omega) (M ++ [t]) (by simp; omega) fun a ha => ?_
      rcases List.mem_append.1 ha with ha | ha
      · exact hm a ha
      · rw [List.mem_singleton.1 ha]; exact htl
theorem RequestWrites (a0 : ByteArray) (l1 : List ByteArray) (l2 : List (List Int)) (g0 : R9.good a0) (g1 : R25.good l1) (g2 : R39.good l2) : ∃ k, frisketlaw06_RequestWrites.f k a0 l1 l2 = some true := by
  refine Evl.out (f := fun k => frisketlaw06_RequestWrites.f k a0 l1 l2) ?_
  have h0 : a0.size ≤ 140737488351232 := g0
  have h1 : ∀ x ∈ l1, x.size ≤ 140737488351232 := g1.2.2
  have hll : l1.length * 16 ≤ 140737488351232 := g1.2.1
  have h2 : ∀ q ∈ l2, ∀ x ∈ q, (Lit.int .u8 x).wf = true := fun q hq x hx => (g2.2.2 q hq).2.2 x hx
  clear g0 g1 g2
  have good : Evl (fun k => frisketlaw06_RequestWrites.j1 k a0 l1 l2 true) true := by
    refine Evl.succ ?_
    simp only [frisketlaw06_RequestWrites.j1]
    exact Evl.pos trivial (Evl.bind sane_f (Evl.some _))
  have loop : Evl (fun k => if fin (a0.size : Int) l1 > 2500 then (frisketlaw06_RequestWrites.j1 k a0 l1 l2 true) else (if (l1.length : Int) > 30 then (frisketlaw06_RequestWrites.j1 k a0 l1 l2 true) else (frisketlaw06_RequestWrites.j1 k a0 l1 l2 (decide ((l2.length : Int) > 8))))) true →
      ∀ (d i : Nat) (s : Int), i + d = l1.length → fin s (l1.drop i) = fin (a0.size : Int) l1 → Evl (fun k => frisketlaw06_RequestWrites.l0 k a0 l1 l2 s (i : Int)) true := by
    intro he d
    induction d with
    | zero =>
      intro i s h hs
      rw [List.drop_eq_nil_of_le (by omega)] at hs
      refine Evl.succ ?_
      simp only [frisketlaw06_RequestWrites.l0]
      refine Evl.neg (by omega) ?_
      have e : s = fin (a0.size : Int) l1 := hs
      rw [e]
      exact he
    | succ d ih =>
      intro i s h hs
      have hi : i < l1.length := by omega
      refine Evl.succ ?_
      simp only [frisketlaw06_RequestWrites.l0]
      refine Evl.pos (by omega) (Evl.pos (by omega) ?_)
      rw [wn (by omega)]
      refine ih (i + 1) _ (by omega) ?_
      rw [← hs, List.drop_eq_getElem_cons hi]
      have e : rdOf ByteArray.empty l1 (i : Int) = l1[i]'hi := by
        unfold rdOf
        rw [List.getD_eq_getElem?_getD, Int.toNat_natCast, List.getElem?_eq_getElem hi]
        rfl
      rw [e]
      rfl
  unfold frisketlaw06_RequestWrites.f
  refine loop ?_ l1.length 0 _ (by omega) (by rw [List.drop_zero])
  by_cases hbig : fin (a0.size : Int) l1 > 2500
  · exact Evl.pos hbig good
  refine Evl.neg hbig ?_
  by_cases h30 : (l1.length : Int) > 30
  · exact Evl.pos h30 good
  refine Evl.neg h30 ?_
  by_cases h8 : (l2.length : Int) > 8
  · rw [decide_eq_true h8]; exact good
  · rw [decide_eq_false h8]
    obtain ⟨e1, e2⟩ := fin_exact l1 (a0.size : Int) h1 (by omega) (by omega)
    have hn : a0.data.toList.length ≤ 2500 := by have := Lib.size_eq a0; omega
    have hL : ∀ a ∈ l1.map (fun s => s.data.toList), a.length ≤ 2500 := fun a ha => by
      obtain ⟨x, hx, rfl⟩ := List.mem_map.1 ha
      have := e2 x hx
      have := Lib.size_eq x
      omega
    have hll : (l1.map fun s => s.data.toList).length ≤ 40 := by rw [List.length_map]; omega
    refine Evl.succ ?_
    simp only [frisketlaw06_RequestWrites.j1]
    rw [mkB_data a0, strs_of l1]
    generalize (l1.map fun s => s.data.toList) = L at *
    generalize a0.data.toList = n at *
    refine Evl.neg (by decide) (Evl.bind (Write_prog n L 2500 (by omega) hL hll (by omega)) (Evl.bind (Write_ref n L 2500 (by omega) hL hll (by omega)) (Evl.pos rfl ?_)))
    rw [show ((line n L).2 != (line n L).2) = false from bne_self_eq_false _]
    refine Evl.succ ?_
    simp only [frisketlaw06_RequestWrites.j2]
    exact Evl.neg (by decide) (more_l1 l2 (by omega) h2 l2.length 0 (by omega) [] rfl (fun a ha => by cases ha))
end Go.Proofs.YtpeimnipoohaaaaDoor.PureRequestWrites
