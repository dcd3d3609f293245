/- The stack never has more than 50 frames: the law's walk. -/
import Derived.Test.YtagadehcbpoihaaDoorFDeepSl
namespace Go.Proofs.YtagadehcbpoihaaDoor.Sane5
open Go.RowKit Go.Proofs.YtagadehcbpoihaaDoorW.PrintWords Go.Proofs.YtagadehcbpoihaaDoorW.PrintLast Go.Proofs.YtagadehcbpoihaaDoorW.PrintMore Go.Proofs.YtagadehcbpoihaaDoorN Go.Proofs.YtagadehcbpoihaaDoor.Str Go.Proofs.YtagadehcbpoihaaDoor.QSl Go.Proofs.YtagadehcbpoihaaDoor.FnVal
set_option linter.unusedVariables false
set_option linter.unusedSimpArgs false
theorem k60 (n : Int) : ∃ K : Nat, K < 60 ∧ wrap64 ((IntKind.u64.wrap n).tmod 60) = (K : Int) := by
  have h0 : 0 ≤ IntKind.u64.wrap n := by
    show 0 ≤ n % 18446744073709551616
    omega
  have h1 : (IntKind.u64.wrap n).tmod 60 = IntKind.u64.wrap n % 60 := Int.tmod_eq_emod_of_nonneg h0
  rw [h1]
  generalize IntKind.u64.wrap n = m at h0
  refine ⟨(m % 60).toNat, by omega, ?_⟩
  unfold wrap64
  omega
theorem tn_mac {fs : List Fm} (h : ∀ f ∈ fs, f.k = 2) : tn fs fs.length = fs.length := by
  cases hl : fs.length with
  | zero => rfl
  | succ n =>
    rw [tn, if_neg]
    have hlt : n < fs.length := by omega
    rw [List.getElem?_eq_getElem hlt]
    have := h fs[n] (List.getElem_mem hlt)
    simp [Fm.gone, this]
theorem tn_wait {fs : List Fm} (h : ∀ f ∈ fs, f.k = 2) {f : Fm} (hf : f.gone = true) : tn (fs ++ [f]) (fs ++ [f]).length = fs.length := by
  have e1 : (fs ++ [f]).length = fs.length + 1 := by simp
  rw [e1, tn, if_pos (by simp [hf])]
  have e2 : ∀ n, n ≤ fs.length → tn (fs ++ [f]) n = tn fs n := by
    intro n
    induction n with
    | zero => intro _; rfl
    | succ n ih =>
      intro hn
      rw [tn, tn, List.getElem?_append_left (by omega), ih (by omega)]
  rw [e2 _ (Nat.le_refl _)]
  exact tn_mac h
/-- Next, of a wait that has just been put on top. -/
theorem next_wait (sb B gl cl : Nat) (hcl : 1 ≤ cl) (fs : List Fm) (hsz : fs.length ≤ 800) (y : ByteArray) (w : World) (h : Stk sb B (fs.map Fm.row ++ [(Fm.mk 3 ⟨#[]⟩ (some ⟨gl, 0, none⟩) 1 cl 0 none 0 0).row]) w) (hR : (Kd.raw 5).R 34 w B (fun _ => True) (.slice (some ⟨gl, 0, none⟩) 1 cl) [ln y]) :
    Calls Tryd.prog 16 #[.pointer (some ⟨sb, 0, none⟩)] w fun e w' => e = .returned (.tuple #[.agg (ln y).toArray, .int .i64 0]) ∧ Stk sb B ((fs ++ [Fm.mk 3 ⟨#[]⟩ (some ⟨gl, 0, none⟩) 1 cl 1 none 0 0]).map Fm.row) w' ∧ Below B w w' := by
  have e1 : fs.map Fm.row ++ [(Fm.mk 3 ⟨#[]⟩ (some ⟨gl, 0, none⟩) 1 cl 0 none 0 0).row] = (fs ++ [Fm.mk 3 ⟨#[]⟩ (some ⟨gl, 0, none⟩) 1 cl 0 none 0 0]).map Fm.row := by simp
  rw [e1] at h
  refine (next_any sb B (fs ++ [Fm.mk 3 ⟨#[]⟩ (some ⟨gl, 0, none⟩) 1 cl 0 none 0 0]) (by simp; omega) fs.length gl 0 1 cl 3 ⟨#[]⟩ none 0 0 (by simp) (by decide) (by decide) hcl ?_ (fun c _ => c = ln y) (fun _ _ _ _ h => h) w h ?_).mono ?_
  · intro a g ha hg
    have := (List.getElem?_eq_some_iff.1 hg).1
    simp at this
    omega
  · intro W hW
    have r1 := KL.rows hR (KX.KL hW (by decide))
    have r2 := (Kd.R_reads' r1).2.2
    rw [Nat.zero_mul, Nat.sub_zero]
    refine (own1 ⟨gl, 0, none⟩ cl y W r2).mono ?_
    rintro e w' ⟨v, rfl, hr, hb⟩
    exact ⟨v, y, false, 0, 0, none, 0, 0, rfl, hr, rfl, hb⟩
  · rintro e w' ⟨⟨t, md, up, dn, Ab, nb, cb, rfl, hq⟩, hs, hx, hb⟩
    refine ⟨by rw [hq], ?_, hb⟩
    have e2 : ((fs ++ [Fm.mk 3 ⟨#[]⟩ (some ⟨gl, 0, none⟩) 1 cl 0 none 0 0]).take (fs.length + 1)).set fs.length ⟨3, ⟨#[]⟩, some ⟨gl, 0, none⟩, 1, cl, ((0 : Nat) : Int) + 1, none, 0, 0⟩ = fs ++ [Fm.mk 3 ⟨#[]⟩ (some ⟨gl, 0, none⟩) 1 cl 1 none 0 0] := by
      rw [List.take_of_length_le (by simp), List.set_append_right _ _ (Nat.le_refl _), Nat.sub_self]
      rfl
    rw [e2] at hs
    exact hs
def xx : ByteArray := ⟨#[120]⟩
def xy : ByteArray := ⟨#[121]⟩
set_option maxHeartbeats 8000000 in
set_option maxRecDepth 100000 in
theorem deep_calls (n : Int) (w : World) : Calls Tryd.prog 4 #[.int .i64 n] w fun e w' => e = .returned (.bool true) ∧ Below w.heap.size w w' := by
  have hu34 := Tryd.underlying34
  have hln : ∀ x, ln x = [.string x, .bool false, .int .i64 0, .int .i64 0, .slice none 0 0] := fun _ => rfl
  have hxy : xy = (⟨#[121]⟩ : ByteArray) := rfl
  have HS := Aside0.mk (fun W => sane_calls W)
  obtain ⟨K, hK, eK⟩ := k60 n
  have HK := Aside0.mk hK
  go_enter Tryd.func4, Tryd.ntmps4
  go_wp2_with (first | (go_at_call 12; refine (new_calls w).mono ?_; rintro e w1 ⟨rfl, rfl⟩))
  rw [eK]
  clear eK hK
  go_loopg [5] K (fun kq v5 w' => Aside0 (kq ≤ K) ∧ v5 = .int .i64 ((K - kq : Nat) : Int) ∧ Aside0 (∃ fs : List Fm, fs.length = min (K - kq) 50 ∧ (∀ f ∈ fs, f.k = 2) ∧ Stk w.heap.size w.heap.size (fs.map Fm.row) w') ∧ Aside0 (Below w.heap.size w w'))
  case atStart =>
    refine ⟨⟨Nat.le_refl _⟩, by rw [Nat.sub_self]; rfl, ⟨[], by simp, by simp, ⟨⟨_, blk_new _ _, Kd.R_nil _ _ _ _ _⟩, (below_alloc (Below.refl w.heap.size w) _).size, Nat.le_refl _⟩⟩, ⟨below_alloc (Below.refl _ _) _⟩⟩
  case round =>
    obtain ⟨L, rfl, F, B5⟩ := hrel
    obtain ⟨fs, hfl, hfk, hst⟩ := F.out
    have S5 := Aside0.mk hst
    have FK := Aside0.mk hfk
    have T5 := Aside0.mk (tn_mac hfk)
    cases gk with
    | zero =>
      clear hst hfk F
      have e0 : K - 0 = K := Nat.sub_zero K
      rw [e0] at hfl ⊢
      have HD := Aside0.mk (depth_any w.heap.size w.heap.size fs wr S5.out)
      rcases Nat.lt_or_ge K 50 with h50 | h50
      · have eF : fs.length = K := by omega
        rw [eF] at HD
        have EF := Aside0.mk eF
        have c1 : ((50 : Int) ≤ (K : Int)) = False := eq_false (by omega)
        have c2 : min (K : Int) 50 = (K : Int) := Int.min_eq_left (by omega)
        have c3 : ((K : Int) < 50) = True := eq_true (by omega)
        have H50 := Aside0.mk h50
        clear h50 hfl eF e0
        go_wp2_with (first | (go_at_call 14; refine (HD.out).mono ?_; rintro e w1 ⟨rfl, rfl⟩))
        go_loopg [7] 5 (fun kq v7 w' => Aside0 (kq ≤ 5) ∧ v7 = .int .i64 ((5 - kq : Nat) : Int) ∧ Aside0 (∃ gs : List Fm, (gs = fs ∨ ∃ f, f.gone = true ∧ gs = fs ++ [f]) ∧ Stk w.heap.size w.heap.size (gs.map Fm.row) w') ∧ Aside0 (Below w.heap.size w w'))
        case atStart => exact ⟨⟨Nat.le_refl _⟩, rfl, ⟨fs, Or.inl rfl, S5.out⟩, B5⟩
        case round =>
          obtain ⟨L2, rfl, F2, B7⟩ := hrel
          obtain ⟨gs, hgs, hst2⟩ := F2.out
          have S7 := Aside0.mk hst2
          have FKo := FK.out
          have hT : tn gs gs.length = K ∧ gs.take (tn gs gs.length) = fs ∧ gs.length ≤ 60 := by
            have hf := EF.out
            have hk := HK.out
            rcases hgs with rfl | ⟨f, hf2, rfl⟩
            · refine ⟨(tn_mac FKo).trans hf, ?_, by omega⟩
              rw [tn_mac FKo, List.take_of_length_le (Nat.le_refl _)]
            · refine ⟨(tn_wait FKo hf2).trans hf, ?_, by simp; omega⟩
              rw [tn_wait FKo hf2, List.take_left']
              rfl
          have HT := Aside0.mk hT
          cases gk with
          | zero =>
            clear hT hgs hst2 F2 FKo
            go_wp2_with (first | (go_at_call 8; refine (HS.out _).mono ?_; rintro e w2 ⟨rfl, hb2⟩; have B8 := Aside0.mk (B7.out.trans (hb2.mono B7.out.size)); clear hb2))
            refine bodyPost_ret (results_tmp rfl _ _ _) rfl ?_
            exact ⟨rfl, B8.out⟩
          | succ j =>
            obtain ⟨i, hi⟩ : ∃ i, 5 = i + (j + 1) := ⟨5 - (j + 1), by have := L2.out; omega⟩
            have ei : 5 - (j + 1) = i := by omega
            rw [ei] at ⊢
            have hw1 : wrap64 ((i : Int) + 1) = (i : Int) + 1 := by unfold wrap64; omega
            have hw2 : wrap64 ((K : Int) + 1) = (K : Int) + 1 := by have := HK.out; unfold wrap64; omega
            have c4 : ((i : Int) < 5) = True := eq_true (by omega)
            have HI := Aside0.mk hi
            have HM2 := Aside0.mk ((wait_any w.heap.size w.heap.size wr.heap.size 1 xy (by decide) (by decide) gs (by omega) (wr.alloc (.cells (ln xy).toArray 34)) (S7.out.below (below_alloc (Below.refl _ _) _)) (box_readL wr (ln xy) rfl (ln_one xy))).mono (R' := fun e w' => e = .returned (.int .i64 0) ∧ Below w.heap.size (wr.alloc (.cells (ln xy).toArray 34)) w' ∧ ∃ gl cl, 1 ≤ cl ∧ Stk w.heap.size w.heap.size (fs.map Fm.row ++ [(Fm.mk 3 ⟨#[]⟩ (some ⟨gl, 0, none⟩) 1 cl 0 none 0 0).row]) w' ∧ (Kd.raw 5).R 34 w' w.heap.size (fun _ => True) (.slice (some ⟨gl, 0, none⟩) 1 cl) [ln xy]) (by
              rintro e w' ⟨⟨h1, h2⟩, h3⟩
              have h50 := H50.out
              rcases h3 with ⟨h4, _⟩ | ⟨h4, h5, h6⟩
              · have := HT.out.1; omega
              · rw [HT.out.2.1] at h6
                exact ⟨h5, h2, h6⟩))
            have HN := Aside0.mk (fun gl cl hcl W hs hr => next_wait w.heap.size w.heap.size gl cl hcl fs (by have := EF.out; have := HK.out; omega) xy W hs hr)
            have HD := Aside0.mk (fun f W (h : Stk w.heap.size w.heap.size ((fs ++ [f]).map Fm.row) W) => depth_any w.heap.size w.heap.size (fs ++ [f]) W h)
            have HL := Aside0.mk (fun f => show (((fs ++ [f]).length : Nat) : Int) = (K : Int) + 1 by rw [List.length_append]; have := EF.out; simp; omega)
            clear hT hgs hst2 F2 hi ei FKo
            go_wp2_with (first | (go_at_call 15; refine (HM2.out).mono ?_; rintro e w6 ⟨rfl, hb6, gl, cl, hcl, hs6, hr6⟩; have C6 := Aside0.mk hcl; have S6 := Aside0.mk hs6; have R6 := Aside0.mk hr6; have B6 := Aside0.mk ((B7.out.trans ((below_alloc (Below.refl wr.heap.size wr) (.cells (ln xy).toArray 34)).mono B7.out.size)).trans hb6); clear hb6 hcl hs6 hr6) | (go_at_call 16; refine (HN.out gl cl C6.out _ S6.out R6.out).mono ?_; rintro e w8 ⟨rfl, hs8, hb8⟩; have S8 := Aside0.mk (hs8.below (below_alloc (Below.refl _ _) (.cells (ln xy).toArray 34))); have B8 := Aside0.mk ((B6.out.trans hb8).trans ((below_alloc (Below.refl w8.heap.size w8) (.cells (ln xy).toArray 34)).mono hs8.hB)); clear hs8 hb8) | (go_at_call 14; refine (HD.out _ _ S8.out).mono ?_; rw [HL.out]; rintro e w1 ⟨rfl, rfl⟩))
            go_roundg j
            case measure => omega
            case rel => exact ⟨⟨by have := L2.out; omega⟩, by have := HI.out; rw [show 5 - j = i + 1 by omega]; simp [hw1], ⟨_, Or.inr ⟨_, rfl, rfl⟩, S8.out⟩, B8⟩
      · have eF : fs.length = 50 := by omega
        rw [eF] at HD
        have c1 : ((50 : Int) ≤ (K : Int)) = True := eq_true (by omega)
        have c2 : min (K : Int) 50 = 50 := Int.min_eq_right (by omega)
        have c3 : ((K : Int) < 50) = False := eq_false (by omega)
        clear h50 hfl eF e0
        go_wp2_with (first | (go_at_call 14; refine (HD.out).mono ?_; rintro e w1 ⟨rfl, rfl⟩) | (go_at_call 8; refine (HS.out _).mono ?_; rintro e w2 ⟨rfl, hb2⟩; have B6 := Aside0.mk (B5.out.trans (hb2.mono B5.out.size)); clear hb2))
        refine bodyPost_ret (results_tmp rfl _ _ _) rfl ?_
        exact ⟨rfl, B6.out⟩
    | succ j =>
      obtain ⟨i, hi⟩ : ∃ i, K = i + (j + 1) := ⟨K - (j + 1), by have := L.out; omega⟩
      have ei : K - (j + 1) = i := by omega
      rw [ei] at hfl ⊢
      have hw1 : wrap64 ((i : Int) + 1) = (i : Int) + 1 := by have := HK.out; unfold wrap64; omega
      have c0 : ((i : Int) < (K : Int)) = True := eq_true (by omega)
      have HM := Aside0.mk (macro_any w.heap.size w.heap.size wr.heap.size 1 nm5 nm_ne (by decide) xx (by decide) (by decide) fs (by omega) (wr.alloc (.cells (ln xx).toArray 34)) (S5.out.below (below_alloc (Below.refl _ _) _)) (box_readL wr (ln xx) rfl (ln_one xx)))
      have HI := Aside0.mk hi
      have HFL := Aside0.mk hfl
      rcases Nat.lt_or_ge i 50 with h50 | h50
      · have c1 : ((i : Int) < 50) = True := eq_true (by omega)
        have HM2 := Aside0.mk (HM.out.mono (R' := fun e w' => e = .returned (.int .i64 0) ∧ Below w.heap.size (wr.alloc (.cells (ln xx).toArray 34)) w' ∧ ∃ gs : List Fm, gs.length = min (K - j) 50 ∧ (∀ f ∈ gs, f.k = 2) ∧ Stk w.heap.size w.heap.size (gs.map Fm.row) w') (by
          rintro e w' ⟨⟨h1, h2⟩, h3⟩
          rw [T5.out] at h3
          rcases h3 with ⟨h4, _⟩ | ⟨h4, h5, gl, cl, h6, h7, h8⟩
          · omega
          · refine ⟨h5, h2, fs ++ [Fm.mk 2 nm5 (some ⟨gl, 0, none⟩) 1 cl 0 none 0 0], by simp; omega, ?_, ?_⟩
            · intro f hf
              rcases List.mem_append.1 hf with hf | hf
              · exact FK.out f hf
              · simp at hf; rw [hf]
            · rw [List.take_of_length_le (Nat.le_refl _)] at h7
              rw [List.map_append]
              exact h7))
        clear h50 hfl hi ei hst hfk F HM
        go_wp2_with (first | (go_at_call 13; refine (HM2.out).mono ?_; rintro e w6 ⟨rfl, hb6, hg6⟩; have G6 := Aside0.mk hg6; have B6 := Aside0.mk ((B5.out.trans ((below_alloc (Below.refl wr.heap.size wr) (.cells (ln xx).toArray 34)).mono B5.out.size)).trans hb6); clear hb6 hg6))
        go_roundg j
        case measure => omega
        case rel => exact ⟨⟨by have := L.out; omega⟩, by have := HI.out; rw [show K - j = i + 1 by omega]; simp [hw1], G6, B6⟩
      · have c1 : ((i : Int) < 50) = False := eq_false (by omega)
        have HM2 := Aside0.mk (HM.out.mono (R' := fun e w' => e = .returned (.int .i64 2) ∧ Below w.heap.size (wr.alloc (.cells (ln xx).toArray 34)) w' ∧ ∃ gs : List Fm, gs.length = min (K - j) 50 ∧ (∀ f ∈ gs, f.k = 2) ∧ Stk w.heap.size w.heap.size (gs.map Fm.row) w') (by
          rintro e w' ⟨⟨h1, h2⟩, h3⟩
          rw [T5.out] at h3
          rcases h3 with ⟨h4, h5, h6⟩ | ⟨h4, _⟩
          · exact ⟨h5, h2, fs, by omega, FK.out, h6⟩
          · omega))
        clear h50 hfl hi ei hst hfk F HM
        go_wp2_with (first | (go_at_call 13; refine (HM2.out).mono ?_; rintro e w6 ⟨rfl, hb6, hg6⟩; have G6 := Aside0.mk hg6; have B6 := Aside0.mk ((B5.out.trans ((below_alloc (Below.refl wr.heap.size wr) (.cells (ln xx).toArray 34)).mono B5.out.size)).trans hb6); clear hb6 hg6))
        go_roundg j
        case measure => omega
        case rel => exact ⟨⟨by have := L.out; omega⟩, by have := HI.out; rw [show K - j = i + 1 by omega]; simp [hw1], G6, B6⟩
end Go.Proofs.YtagadehcbpoihaaDoor.Sane5
