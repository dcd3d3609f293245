/- Texts out of numbers; braces; the laws of words and of braces. -/
import Derived.Test.YtpeimnipoohaaaaDoorSplitRq
import Derived.Test.YtpeimnipoohaaaaDoorQRqx8
namespace Go.Proofs.YtpeimnipoohaaaaDoor.P06
open Go.RowKit Go.Proofs.YtpeimnipoohaaaaDoorW.PrintWords Go.Proofs.YtpeimnipoohaaaaDoorW.PrintLast Go.Proofs.YtpeimnipoohaaaaDoorW.PrintMore Go.Proofs.YtpeimnipoohaaaaDoorN Go.Proofs.YtpeimnipoohaaaaDoor.Evl Go.Proofs.YtpeimnipoohaaaaDoor.Str Go.Proofs.YtpeimnipoohaaaaDoor.QRq
set_option linter.unusedVariables false
set_option linter.unusedSimpArgs false
theorem rdOf_small {L : List ByteArray} (h : ∀ p ∈ L, p.size ≤ 5) (i : Int) : (rdOf ByteArray.empty L i).size ≤ 5 := by
  unfold rdOf
  rw [List.getD_eq_getElem?_getD]
  cases hg : L[i.toNat]? with
  | none => simp
  | some p => exact h p (List.mem_of_getElem? hg)
set_option maxHeartbeats 1000000 in
theorem bits_l0 (l : List Int) (hl : l.length < 100000000) (hw : ∀ x ∈ l, 0 ≤ x ∧ x ≤ 255) : ∀ (d i : Nat), i + d = l.length → ∀ (out : List UInt8), out.length + 5 * d < 1000000000 →
    ∃ t, Evl (fun k => frisketlaw06_bits.l0 k l (mkB out) (i : Int)) (mkB t) ∧ t.length ≤ out.length + 5 * d
  | 0, i, h, out, ho => by
    refine ⟨out, Evl.succ ?_, by omega⟩
    simp only [frisketlaw06_bits.l0]
    exact Evl.neg (by omega) (Evl.some _)
  | d + 1, i, h, out, ho => by
    have hx : 0 ≤ rd l (i : Int) ∧ rd l (i : Int) ≤ 255 := by
      unfold rd
      rw [List.getD_eq_getElem?_getD, Int.toNat_natCast, List.getElem?_eq_getElem (by omega)]
      exact hw _ (List.getElem_mem _)
    obtain ⟨L, hL, h25, h5⟩ : ∃ L : List ByteArray, L = [(⟨#[32]⟩ : ByteArray), (⟨#[9]⟩ : ByteArray), (⟨#[97]⟩ : ByteArray), (⟨#[98, 99]⟩ : ByteArray), (⟨#[34]⟩ : ByteArray), (⟨#[34, 34]⟩ : ByteArray), (⟨#[92]⟩ : ByteArray), (⟨#[92, 32]⟩ : ByteArray), (⟨#[92, 34]⟩ : ByteArray), (⟨#[46]⟩ : ByteArray), (⟨#[39]⟩ : ByteArray), (⟨#[33]⟩ : ByteArray), (⟨#[111]⟩ : ByteArray), (⟨#[101]⟩ : ByteArray), (⟨#[100]⟩ : ByteArray), (⟨#[114]⟩ : ByteArray), (⟨#[39, 97, 39, 98, 39]⟩ : ByteArray), (⟨#[124, 120, 124, 120, 124]⟩ : ByteArray), (⟨#[49]⟩ : ByteArray), (⟨#[43]⟩ : ByteArray), (⟨#[92, 123]⟩ : ByteArray), (⟨#[92, 125]⟩ : ByteArray), (⟨#[120, 32, 121]⟩ : ByteArray), (⟨#[123]⟩ : ByteArray), (⟨#[125]⟩ : ByteArray)] ∧ L.length = 25 ∧ ∀ p ∈ L, p.size ≤ 5 := ⟨_, rfl, rfl, by decide⟩
    have hm0 : 0 ≤ Int.tmod (wrap64 (rd l (i : Int))) (L.length : Int) := by
      rw [w64 (by omega) (by omega), Int.tmod_eq_emod_of_nonneg hx.1, h25]; omega
    have hm1 : Int.tmod (wrap64 (rd l (i : Int))) (L.length : Int) < (L.length : Int) := by
      rw [w64 (by omega) (by omega), Int.tmod_eq_emod_of_nonneg hx.1, h25]; omega
    have hp := rdOf_small h5 (Int.tmod (wrap64 (rd l (i : Int))) (L.length : Int))
    obtain ⟨u, hu⟩ : ∃ u, rdOf ByteArray.empty L (Int.tmod (wrap64 (rd l (i : Int))) (L.length : Int)) = mkB u := ⟨_, mkB_data _⟩
    rw [hu, size_mkB] at hp
    obtain ⟨t, ht, hlen⟩ := bits_l0 l hl hw d (i + 1) (by omega) (out ++ u) (by rw [List.length_append]; omega)
    refine ⟨t, Evl.succ ?_, by rw [List.length_append] at hlen; omega⟩
    simp only [frisketlaw06_bits.l0]
    rw [← hL]
    refine Evl.pos (by omega) (Evl.bind (Evl.some L) (Evl.pos (by omega) (Evl.neg (by omega) (Evl.pos hm0 (Evl.pos hm1 ?_)))))
    rw [hu, append_mkB, size_mkB, size_mkB, wn (by omega)]
    exact Evl.pos (by omega) ht
theorem bits_f (l : List Int) (hl : l.length ≤ 60) (hw : ∀ x ∈ l, (Lit.int .u8 x).wf = true) : ∃ t, Evl (fun k => frisketlaw06_bits.f k l) (mkB t) ∧ t.length ≤ 300 := by
  obtain ⟨t, h1, h2⟩ := bits_l0 l (by omega) (fun x hx => u8_wf.1 (hw x hx)) l.length 0 (by omega) [] (by simp; omega)
  refine ⟨t, ?_, by simp at h2; omega⟩
  unfold frisketlaw06_bits.f
  exact h1
theorem RequestWords_ev (l : List Int) (hw : ∀ x ∈ l, (Lit.int .u8 x).wf = true) : Evl (fun k => frisketlaw06_RequestWords.f k l) true := by
  unfold frisketlaw06_RequestWords.f
  by_cases h : (l.length : Int) > 60
  · exact Evl.pos h (Evl.bind sane_f (Evl.some _))
  · obtain ⟨t, h1, h2⟩ := bits_f l (by omega) hw
    have hw := wds_len t.length (t.dropWhile bl)
    refine Evl.neg h (Evl.bind h1 (Evl.bind (Words_f t (by omega)) (Evl.bind (Words_ref t (by omega)) (Evl.bind (list_f _ (by rw [List.length_map]; omega)) (Evl.pos rfl (Evl.pos (by rw [size_mkB]; omega) ?_))))))
    have e1 : (⟨#[46]⟩ : ByteArray) ++ mkB t = mkB (46 :: t) := append_mkB [46] t
    have e2 : (⟨#[39]⟩ : ByteArray) ++ mkB t = mkB (39 :: t) := append_mkB [39] t
    rw [e1, e2]
    exact Evl.bind (splits_f _ 46 39 (by simp only [List.length_cons]; omega)) (Evl.pos rfl (Evl.bind (splits_f _ 46 39 (by simp only [List.length_cons]; omega)) (Evl.pos rfl (Evl.bind (splits_f t 33 124 (by omega)) (Evl.pos rfl (Evl.bind sane_f (Evl.some _)))))))
set_option maxHeartbeats 1000000 in
theorem braces_l0 (s : List UInt8) (hs : s.length < 1000000) : ∀ (m i d : Nat), s.length ≤ i + m → i ≤ s.length + 1 → d ≤ 2000000 + i →
    ∃ r : Int × Int, Evl (fun k => request_Braces.l0 k (mkB s) (d : Int) (i : Int)) r ∧ Evl (fun k => frisketref06_Braces.l0 k (mkB s) (d : Int) (i : Int)) r := by
  intro m
  induction m using Nat.strongRecOn with
  | ind m ih =>
  intro i d hi hi2 hd
  have w1 : wrap64 ((i : Int) + 1) = ((i + 1 : Nat) : Int) := wn (by omega)
  have w2 : wrap64 (((i + 1 : Nat) : Int) + 1) = ((i + 2 : Nat) : Int) := wn (by omega)
  by_cases hl : i + 1 < s.length
  · have hb0 : bt (mkB s) (i : Int) = ((s[i]'(by omega)).toNat : Int) := bt_mkB s i (by omega)
    have hb1 : bt (mkB s) ((i + 1 : Nat) : Int) = ((s[i + 1]'hl).toNat : Int) := bt_mkB s (i + 1) hl
    generalize (s[i]'(by omega)) = x at hb0
    generalize (s[i + 1]'hl) = y at hb1
    have goP : ∀ {r : Int × Int}, Evl (fun k => if bt (mkB s) (i : Int) = 92 then (if 0 ≤ wrap64 ((i : Int) + 1) then (if bt (mkB s) (wrap64 ((i : Int) + 1)) = 123 then (request_Braces.l0 k (mkB s) (wrap64 ((d : Int) + 1)) (wrap64 (wrap64 ((i : Int) + 1) + 1))) else (if bt (mkB s) (wrap64 ((i : Int) + 1)) = 125 then (if (d : Int) = 1 then (some (0, wrap64 (wrap64 ((i : Int) + 1) + 1))) else (request_Braces.l0 k (mkB s) (mx (wrap64 ((d : Int) - 1)) 0) (wrap64 (wrap64 ((i : Int) + 1) + 1)))) else (request_Braces.l0 k (mkB s) (d : Int) (wrap64 (wrap64 ((i : Int) + 1) + 1))))) else none) else (request_Braces.l0 k (mkB s) (d : Int) (wrap64 ((i : Int) + 1)))) r → Evl (fun k => request_Braces.l0 k (mkB s) (d : Int) (i : Int)) r := by
      intro r h
      refine Evl.succ ?_
      simp only [request_Braces.l0]
      exact Evl.pos (by rw [w1, size_mkB]; omega) (Evl.pos (by omega) (Evl.pos (by rw [size_mkB]; omega) h))
    have goR : ∀ {r : Int × Int}, Evl (fun k => if bt (mkB s) (i : Int) = 92 then (if 0 ≤ wrap64 ((i : Int) + 1) then (if bt (mkB s) (wrap64 ((i : Int) + 1)) = 123 then (frisketref06_Braces.j1 k (mkB s) (wrap64 ((d : Int) + 1)) (wrap64 ((i : Int) + 1))) else (frisketref06_Braces.j1 k (mkB s) (d : Int) (wrap64 ((i : Int) + 1)))) else none) else (frisketref06_Braces.l0 k (mkB s) (d : Int) (wrap64 ((i : Int) + 1)))) r → Evl (fun k => frisketref06_Braces.l0 k (mkB s) (d : Int) (i : Int)) r := by
      intro r h
      refine Evl.succ ?_
      simp only [frisketref06_Braces.l0]
      exact Evl.pos (by rw [w1, size_mkB]; omega) (Evl.pos (by omega) (Evl.pos (by rw [size_mkB]; omega) h))
    rw [w1, w2, hb0, hb1] at goP
    rw [w1, hb0, hb1] at goR
    have wd1 : wrap64 ((d : Int) + 1) = ((d + 1 : Nat) : Int) := wn (by omega)
    have goJ : ∀ (e : Nat) {r : Int × Int}, Evl (fun k => if ((y.toNat : Int) = 125) then frisketref06_Braces.j2 k (mkB s) (e : Int) ((i + 1 : Nat) : Int) (decide ((e : Int) > 0)) else frisketref06_Braces.j2 k (mkB s) (e : Int) ((i + 1 : Nat) : Int) false) r → Evl (fun k => frisketref06_Braces.j1 k (mkB s) (e : Int) ((i + 1 : Nat) : Int)) r := by
      intro e r h
      refine Evl.succ ?_
      simp only [frisketref06_Braces.j1]
      rw [hb1]
      exact Evl.pos (by omega) (Evl.pos (by rw [size_mkB]; omega) h)
    have goF : ∀ (e : Nat) {r : Int × Int}, Evl (fun k => frisketref06_Braces.l0 k (mkB s) (e : Int) ((i + 2 : Nat) : Int)) r → Evl (fun k => frisketref06_Braces.j2 k (mkB s) (e : Int) ((i + 1 : Nat) : Int) false) r := by
      intro e r h
      refine Evl.succ ?_
      simp only [frisketref06_Braces.j2]
      rw [w2]
      exact Evl.neg (by decide) h
    generalize (x.toNat : Int) = X at *
    generalize (y.toNat : Int) = Y at *
    clear hb0 hb1
    by_cases h92 : X = 92
    · by_cases h123 : Y = 123
      · obtain ⟨r, p1, p2⟩ := ih (m - 2) (by omega) (i + 2) (d + 1) (by omega) (by omega) (by omega)
        refine ⟨r, goP (Evl.pos h92 (Evl.pos (by omega) (Evl.pos h123 ?_))), goR (Evl.pos h92 (Evl.pos (by omega) (Evl.pos h123 ?_)))⟩
        · rw [wd1]; exact p1
        · rw [wd1]; exact goJ (d + 1) (Evl.neg (by omega) (goF (d + 1) p2))
      · by_cases h125 : Y = 125
        · by_cases hd1 : d = 1
          · subst hd1
            refine ⟨(0, ((i + 2 : Nat) : Int)), goP (Evl.pos h92 (Evl.pos (by omega) (Evl.neg h123 (Evl.pos h125 (Evl.pos rfl (Evl.some _)))))), goR (Evl.pos h92 (Evl.pos (by omega) (Evl.neg h123 (goJ 1 (Evl.pos h125 ?_)))))⟩
            rw [decide_eq_true (show ((1 : Nat) : Int) > 0 by omega)]
            refine Evl.succ ?_
            simp only [frisketref06_Braces.j2]
            rw [w2]
            exact Evl.pos trivial (Evl.pos (by rw [w64 (by omega) (by omega)]; omega) (Evl.some _))
          · by_cases hd0 : d = 0
            · subst hd0
              obtain ⟨r, p1, p2⟩ := ih (m - 2) (by omega) (i + 2) 0 (by omega) (by omega) (by omega)
              refine ⟨r, goP (Evl.pos h92 (Evl.pos (by omega) (Evl.neg h123 (Evl.pos h125 (Evl.neg (by omega) ?_))))), goR (Evl.pos h92 (Evl.pos (by omega) (Evl.neg h123 (goJ 0 (Evl.pos h125 ?_)))))⟩
              · rw [show mx (wrap64 (((0 : Nat) : Int) - 1)) 0 = ((0 : Nat) : Int) from by rw [w64 (by omega) (by omega), mx_eq]; omega]
                exact p1
              · rw [decide_eq_false (show ¬ ((0 : Nat) : Int) > 0 by omega)]
                exact goF 0 p2
            · obtain ⟨r, p1, p2⟩ := ih (m - 2) (by omega) (i + 2) (d - 1) (by omega) (by omega) (by omega)
              have wd : wrap64 ((d : Int) - 1) = ((d - 1 : Nat) : Int) := by rw [w64 (by omega) (by omega)]; omega
              refine ⟨r, goP (Evl.pos h92 (Evl.pos (by omega) (Evl.neg h123 (Evl.pos h125 (Evl.neg (by omega) ?_))))), goR (Evl.pos h92 (Evl.pos (by omega) (Evl.neg h123 (goJ d (Evl.pos h125 ?_)))))⟩
              · rw [wd, mx_eq, Int.max_eq_left (by omega)]; exact p1
              · rw [decide_eq_true (show ((d : Nat) : Int) > 0 by omega)]
                refine Evl.succ ?_
                simp only [frisketref06_Braces.j2]
                rw [w2, wd]
                exact Evl.pos trivial (Evl.neg (by omega) p2)
        · obtain ⟨r, p1, p2⟩ := ih (m - 2) (by omega) (i + 2) d (by omega) (by omega) (by omega)
          exact ⟨r, goP (Evl.pos h92 (Evl.pos (by omega) (Evl.neg h123 (Evl.neg h125 p1)))), goR (Evl.pos h92 (Evl.pos (by omega) (Evl.neg h123 (goJ d (Evl.neg h125 (goF d p2))))))⟩
    · obtain ⟨r, p1, p2⟩ := ih (m - 1) (by omega) (i + 1) d (by omega) (by omega) (by omega)
      exact ⟨r, goP (Evl.neg h92 p1), goR (Evl.neg h92 p2)⟩
  · refine ⟨((d : Int), -1), Evl.succ ?_, Evl.succ ?_⟩
    · simp only [request_Braces.l0]
      exact Evl.neg (by rw [w1, size_mkB]; omega) (Evl.some _)
    · simp only [frisketref06_Braces.l0]
      exact Evl.neg (by rw [w1, size_mkB]; omega) (Evl.some _)
theorem braces_f (s : List UInt8) (hs : s.length < 1000000) (d : Int) (h0 : d ≤ 1000000) : Evl (fun k => frisketlaw06_braces.f k (mkB s) d) true := by
  obtain ⟨r, p1, p2⟩ := braces_l0 s hs s.length 0 d.toNat (by omega) (by omega) (by omega)
  have e1 : mx d 0 = ((d.toNat : Nat) : Int) := by rw [mx_eq]; omega
  have e2 : mx 0 d = ((d.toNat : Nat) : Int) := by rw [mx_eq]; omega
  have q1 : Evl (fun k => request_Braces.f k (mkB s) d) r := by unfold request_Braces.f; rw [e1]; exact p1
  have q2 : Evl (fun k => frisketref06_Braces.f k (mkB s) d) r := by unfold frisketref06_Braces.f; rw [e2]; exact p2
  unfold frisketlaw06_braces.f
  refine Evl.bind q1 (Evl.bind q2 (Evl.pos rfl ?_))
  rw [beq_self_eq_true]
  exact Evl.some _
theorem RequestBraces_ev (a : ByteArray) (l : List Int) (d : Int) (hw : ∀ x ∈ l, (Lit.int .u8 x).wf = true) : Evl (fun k => frisketlaw06_RequestBraces.f k a l d) true := by
  rw [mkB_data a]
  generalize a.data.toList = s
  have good : Evl (fun k => frisketlaw06_RequestBraces.j0 k (mkB s) l d true) true := by
    refine Evl.succ ?_
    simp only [frisketlaw06_RequestBraces.j0]
    exact Evl.pos trivial (Evl.bind sane_f (Evl.some _))
  unfold frisketlaw06_RequestBraces.f
  rw [size_mkB]
  by_cases h1 : (s.length : Int) > 2200
  · exact Evl.pos h1 good
  by_cases h2 : (l.length : Int) > 60
  · exact Evl.neg h1 (Evl.pos h2 good)
  by_cases h3 : d > 1000000
  · exact Evl.neg h1 (Evl.neg h2 (Evl.pos h3 good))
  refine Evl.neg h1 (Evl.neg h2 (Evl.neg h3 ?_))
  by_cases h4 : d < -1000000
  · rw [decide_eq_true h4]; exact good
  · rw [decide_eq_false h4]
    obtain ⟨t, h5, h6⟩ := bits_f l (by omega) hw
    refine Evl.succ ?_
    simp only [frisketlaw06_RequestBraces.j0]
    exact Evl.neg (by decide) (Evl.bind (braces_f s (by omega) d (by omega)) (Evl.pos rfl (Evl.bind h5 (Evl.bind (braces_f t (by omega) d (by omega)) (Evl.pos rfl (Evl.bind h5 (Evl.bind (braces_f t (by omega) 1 (by omega)) (Evl.pos rfl (Evl.bind sane_f (Evl.some _))))))))))
end Go.Proofs.YtpeimnipoohaaaaDoor.P06
