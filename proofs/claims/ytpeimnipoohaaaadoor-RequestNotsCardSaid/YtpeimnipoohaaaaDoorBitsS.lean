/- Texts out of numbers; the law of words. -/
import Derived.Test.YtpeimnipoohaaaaDoorSplitS
namespace Go.Proofs.YtpeimnipoohaaaaDoor.P06
open Go.RowKit Go.Proofs.YtpeimnipoohaaaaDoorW.PrintWords Go.Proofs.YtpeimnipoohaaaaDoorW.PrintLast Go.Proofs.YtpeimnipoohaaaaDoorW.PrintMore Go.Proofs.YtpeimnipoohaaaaDoorN Go.Proofs.YtpeimnipoohaaaaDoor.Evl Go.Proofs.YtpeimnipoohaaaaDoor.Str Go.Proofs.YtpeimnipoohaaaaDoor.QRq
set_option linter.unusedVariables false
set_option linter.unusedSimpArgs false
theorem rdOf_small {L : List ByteArray} (h : ∀ p ∈ L, p.size ≤ 5) (i : Int) : (rdOf ByteArray.empty L i).size ≤ 5 := by
  unfold rdOf
  rw [List.getD_eq_getElem?_getD]
  cases hg : L[i.toNat]? with
  | none => simp
  | some p => exact h p (List.mem_of_getElem? hg)
set_option maxHeartbeats 1000000 in
theorem bits_l0 (l : List Int) (hl : l.length < 100000000) (hw : ∀ x ∈ l, 0 ≤ x ∧ x ≤ 255) : ∀ (d i : Nat), i + d = l.length → ∀ (out : List UInt8), out.length + 5 * d < 1000000000 →
    ∃ t, Evl (fun k => frisketlaw06_bits.l0 k l (mkB out) (i : Int)) (mkB t) ∧ t.length ≤ out.length + 5 * d
  | 0, i, h, out, ho => by
    refine ⟨out, Evl.succ ?_, by omega⟩
    simp only [frisketlaw06_bits.l0]
    exact Evl.neg (by omega) (Evl.some _)
  | d + 1, i, h, out, ho => by
    have hx : 0 ≤ rd l (i : Int) ∧ rd l (i : Int) ≤ 255 := by
      unfold rd
      rw [List.getD_eq_getElem?_getD, Int.toNat_natCast, List.getElem?_eq_getElem (by omega)]
      exact hw _ (List.getElem_mem _)
    obtain ⟨L, hL, h25, h5⟩ : ∃ L : List ByteArray, L = [(⟨#[32]⟩ : ByteArray), (⟨#[9]⟩ : ByteArray), (⟨#[97]⟩ : ByteArray), (⟨#[98, 99]⟩ : ByteArray), (⟨#[34]⟩ : ByteArray), (⟨#[34, 34]⟩ : ByteArray), (⟨#[92]⟩ : ByteArray), (⟨#[92, 32]⟩ : ByteArray), (⟨#[92, 34]⟩ : ByteArray), (⟨#[46]⟩ : ByteArray), (⟨#[39]⟩ : ByteArray), (⟨#[33]⟩ : ByteArray), (⟨#[111]⟩ : ByteArray), (⟨#[101]⟩ : ByteArray), (⟨#[100]⟩ : ByteArray), (⟨#[114]⟩ : ByteArray), (⟨#[39, 97, 39, 98, 39]⟩ : ByteArray), (⟨#[124, 120, 124, 120, 124]⟩ : ByteArray), (⟨#[49]⟩ : ByteArray), (⟨#[43]⟩ : ByteArray), (⟨#[92, 123]⟩ : ByteArray), (⟨#[92, 125]⟩ : ByteArray), (⟨#[120, 32, 121]⟩ : ByteArray), (⟨#[123]⟩ : ByteArray), (⟨#[125]⟩ : ByteArray)] ∧ L.length = 25 ∧ ∀ p ∈ L, p.size ≤ 5 := ⟨_, rfl, rfl, by decide⟩
    have hm0 : 0 ≤ Int.tmod (wrap64 (rd l (i : Int))) (L.length : Int) := by
      rw [w64 (by omega) (by omega), Int.tmod_eq_emod_of_nonneg hx.1, h25]; omega
    have hm1 : Int.tmod (wrap64 (rd l (i : Int))) (L.length : Int) < (L.length : Int) := by
      rw [w64 (by omega) (by omega), Int.tmod_eq_emod_of_nonneg hx.1, h25]; omega
    have hp := rdOf_small h5 (Int.tmod (wrap64 (rd l (i : Int))) (L.length : Int))
    obtain ⟨u, hu⟩ : ∃ u, rdOf ByteArray.empty L (Int.tmod (wrap64 (rd l (i : Int))) (L.length : Int)) = mkB u := ⟨_, mkB_data _⟩
    rw [hu, size_mkB] at hp
    obtain ⟨t, ht, hlen⟩ := bits_l0 l hl hw d (i + 1) (by omega) (out ++ u) (by rw [List.length_append]; omega)
    refine ⟨t, Evl.succ ?_, by rw [List.length_append] at hlen; omega⟩
    simp only [frisketlaw06_bits.l0]
    rw [← hL]
    refine Evl.pos (by omega) (Evl.bind (Evl.some L) (Evl.pos (by omega) (Evl.neg (by omega) (Evl.pos hm0 (Evl.pos hm1 ?_)))))
    rw [hu, append_mkB, size_mkB, size_mkB, wn (by omega)]
    exact Evl.pos (by omega) ht
theorem bits_f (l : List Int) (hl : l.length ≤ 60) (hw : ∀ x ∈ l, (Lit.int .u8 x).wf = true) : ∃ t, Evl (fun k => frisketlaw06_bits.f k l) (mkB t) ∧ t.length ≤ 300 := by
  obtain ⟨t, h1, h2⟩ := bits_l0 l (by omega) (fun x hx => u8_wf.1 (hw x hx)) l.length 0 (by omega) [] (by simp; omega)
  refine ⟨t, ?_, by simp at h2; omega⟩
  unfold frisketlaw06_bits.f
  exact h1
end Go.Proofs.YtpeimnipoohaaaaDoor.P06
