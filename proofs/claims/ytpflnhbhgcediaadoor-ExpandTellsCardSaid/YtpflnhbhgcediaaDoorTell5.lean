/- ExpandTells, the plain law: the names. -/
import Derived.Test.YtpflnhbhgcediaaDoorTell4
import Derived.Test.YtpflnhbhgcediaaDoorEvl
namespace Go.Proofs.YtpflnhbhgcediaaDoor.Tell4
open Go.RowKit Go.Proofs.YtpflnhbhgcediaaDoorW.PrintWords Go.Proofs.YtpflnhbhgcediaaDoorW.PrintLast Go.Proofs.YtpflnhbhgcediaaDoorW.PrintMore Go.Proofs.YtpflnhbhgcediaaDoorN Go.Proofs.YtpflnhbhgcediaaDoor.Evl Go.Proofs.YtpflnhbhgcediaaDoor.Str Go.Proofs.YtpflnhbhgcediaaDoor.Esc4 Go.Proofs.YtpflnhbhgcediaaDoor.Ask4 Go.Proofs.YtpflnhbhgcediaaDoor.Plain4 Go.Proofs.YtpflnhbhgcediaaDoor.Names4 Go.Proofs.YtpflnhbhgcediaaDoor.QTe
set_option linter.unusedVariables false
set_option linter.unusedSimpArgs false
/-! ### Names -/
theorem esc_at34 (u : List UInt8) : esc (92 :: 34 :: u) = none := by
  cases u with
  | nil => rfl
  | cons c r => rw [esc, if_pos rfl, esc3, if_neg (by decide), if_neg (by decide)]
theorem wid_at34 (u : List UInt8) : wid (92 :: 34 :: u) = none := by
  cases u with
  | nil => rfl
  | cons c r => rw [wid, if_neg (by simp)]
theorem names_l (N : Nat) (IHN : ∀ t : List UInt8, t.length < N → ∀ n, t.length < n → Evl (fun k => frisketref04_Names.f k (mkB t)) (nmB n t)) (l : List UInt8) (hN : l.length ≤ N) (hl : l.length < 100000) :
    ∀ (m i n : Nat) (xs : List ByteArray), l.length ≤ i + m → i ≤ l.length → l.length < i + n → xs.length ≤ i → Evl (fun k => frisketref04_Names.l0 k (mkB l) xs (i : Int)) (xs ++ nmB n (l.drop i)) := by
  have done : ∀ (i n : Nat) (xs : List ByteArray), l.length ≤ i → l.length < i + n → Evl (fun k => frisketref04_Names.l0 k (mkB l) xs (i : Int)) (xs ++ nmB n (l.drop i)) := by
    intro i n xs h1 h3
    rw [List.drop_eq_nil_of_le (by omega)]
    refine Evl.succ ?_
    simp only [frisketref04_Names.l0, size_mkB]
    refine Evl.neg (by omega) ?_
    have e0 : nmB n [] = [] := by
      cases n with
      | zero => rfl
      | succ n => rfl
    rw [e0, List.append_nil]
    exact Evl.some _
  intro m
  induction m with
  | zero => intro i n xs h1 h2 h3 h4; exact done i n xs (by omega) h3
  | succ m ih =>
    intro i n xs h1 h2 h3 h4
    by_cases hi : i < l.length
    · obtain ⟨k0, rfl⟩ : ∃ k, n = k + 1 := ⟨n - 1, by omega⟩
      obtain ⟨c, t, hd⟩ : ∃ c t, l.drop i = c :: t := ⟨l[i], l.drop (i + 1), List.drop_eq_getElem_cons hi⟩
      have hc := drop_cons hd
      rw [hd]
      have hb : ((c.toNat : Int) = 92) ↔ c = 92 := b_eq (n := 92) (by decide)
      have hj : ∀ b, (b = true) → ∀ v, Evl (fun k => frisketref04_Names.l0 k (mkB l) xs ((i + 1 : Nat) : Int)) v → Evl (fun k => frisketref04_Names.j1 k (mkB l) xs (i : Int) b) v := by
        intro b hb v h
        refine Evl.succ ?_
        simp only [frisketref04_Names.j1]
        rw [wn (by omega)]
        exact Evl.pos hb h
      refine Evl.succ ?_
      simp only [frisketref04_Names.l0, size_mkB, bt_drop hd]
      rw [wn (by omega)]
      refine Evl.pos (by omega) (Evl.pos (by omega) (Evl.ite (fun e => ?_) (fun e => ?_)))
      · obtain rfl := hb.1 e
        match t, hd, hc with
        | [], hd, hc =>
          have hlen := drop_len hd (by omega)
          simp only [List.length_cons, List.length_nil] at hlen
          refine hj _ (beq_iff_eq.2 (by omega)) _ ?_
          have := ih (i + 1) (k0 + 1) xs (by omega) (by omega) (by omega) (by omega)
          rw [hc.2.1] at this
          exact this
        | d :: u, hd, hc =>
          have hlen := drop_len hd (by omega)
          have hlen2 : (92 :: d :: u : List UInt8).length = l.length - i := by omega
          have hu2 : (92 :: d :: u : List UInt8).length = u.length + 2 := rfl
          have hd2 := hc.2.1
          have hc2 := drop_cons hd2
          have hdrop : ∀ z, (92 :: d :: u : List UInt8).drop z = l.drop (i + z) := by intro z; rw [← hd, List.drop_drop]
          have hW := widthat_ev (92 :: d :: u) (by omega)
          have hA := at_f (92 :: d :: u) (by omega)
          have hS := atV_says (92 :: d :: u)
          have hb34 : ((d.toNat : Int) = 34) ↔ d = 34 := b_eq (n := 34) (by decide)
          have c110 : ((d.toNat : Int) = 110) ↔ d = 110 := b_eq (n := 110) (by decide)
          have c42 : ((d.toNat : Int) = 42) ↔ d = 42 := b_eq (n := 42) (by decide)
          have c36 : ((d.toNat : Int) = 36) ↔ d = 36 := b_eq (n := 36) (by decide)
          have c119 : ((d.toNat : Int) = 119) ↔ d = 119 := b_eq (n := 119) (by decide)
          have ip := inN_iff d
          have hcut := cut_head (d :: u)
          refine Evl.succ ?_
          simp only [frisketref04_Names.j1, size_mkB, Int.toNat_natCast]
          have hrest := rest_drop hd
          rw [size_mkB] at hrest
          rw [wn (by omega), hrest, bt_drop hd2]
          refine Evl.neg (by simp; omega) (Evl.pos (by omega) (Evl.pos (by omega) (Evl.ite (fun e34 => ?_) (fun e34 => ?_))))
          · obtain rfl := hb34.1 e34
            rw [nmB, nms_tail hcut (esc_at34 u) (wid_at34 u), nmTail, if_pos rfl, List.map_nil, List.append_nil]
            exact Evl.some _
          · have h34 : ¬ d = 34 := fun e => e34 (hb34.2 e)
            refine Evl.pos (by omega) (Evl.pos (by omega) ?_)
            rw [hA]
            refine Evl.bind (Evl.some _) ?_
            cases hes : esc (92 :: d :: u) with
            | some x =>
              have hx := esc_ok hes
              have hv := hS.2 x hes
              rw [hv, nmB, nms_esc hcut hes, List.map_cons, hdrop]
              refine Evl.pos rfl (Evl.bind (Evl.some _) ?_)
              have es : strOfNums [(x.kind.toNat : Int)] = mkB [x.kind] := nums_str [x.kind]
              show Evl (fun k => if (strOfNums [(x.kind.toNat : Int)]).size + 1 ≤ 9223372036854775807 then (if ((strOfNums [(x.kind.toNat : Int)]) ++ (⟨#[58]⟩ : ByteArray)).size + (mkB x.name).size ≤ 9223372036854775807 then (if xs.length < 8796093022208 then frisketref04_Names.l0 k (mkB l) (xs ++ [((strOfNums [(x.kind.toNat : Int)]) ++ (⟨#[58]⟩ : ByteArray)) ++ mkB x.name]) (wrap64 ((wrap64 ((wrap64 ((i : Int) + (x.size : Int))) - 1)) + 1)) else none) else none) else none) _
              rw [es, mkB_name, show mkB [x.kind] ++ (⟨#[58]⟩ : ByteArray) = mkB [x.kind, 58] from append_mkB [x.kind] [58], size_mkB, size_mkB, size_mkB]
              have hx2 := hx.2.1
              have hx3 := hx.2.2.1
              rw [hlen2] at hx2 hx3
              have ew : wrap64 ((wrap64 ((wrap64 ((i : Int) + (x.size : Int))) - 1)) + 1) = ((i + x.size : Nat) : Int) := by
                rw [w64 (x := (i : Int) + (x.size : Int)) (by omega) (by omega), w64 (x := (i : Int) + (x.size : Int) - 1) (by omega) (by omega), w64 (by omega) (by omega)]
                omega
              rw [ew]; clear ew
              refine Evl.pos (by simp only [List.length_cons, List.length_nil]; omega) (Evl.pos (by simp only [List.length_cons, List.length_nil]; omega) (Evl.pos (by omega) ?_))
              have := ih (i + x.size) k0 (xs ++ [mkB (x.kind :: 58 :: x.name)]) (by omega) (by omega) (by omega) (by rw [List.length_append, List.length_cons, List.length_nil]; omega)
              rw [List.append_assoc] at this
              exact this
            | none =>
              have hv : (atV (92 :: d :: u)).2.2.2.2 = false := by rw [hS.1, hes]; rfl
              refine Evl.neg (by rw [hv]; decide) (Evl.bind (f := fun k => frisketref04_WidthAt.f k (mkB (92 :: d :: u))) hW ?_)
              cases hwd : wid (92 :: d :: u) with
              | some z =>
                have hz := wid_ok hwd
                have hz2 := hz.2
                rw [hlen2] at hz2
                rw [nmB, nms_wid hcut hes hwd, hdrop, List.map_append]
                refine Evl.pos (show (z.2 : Int) > 0 by omega) (Evl.bind (f := fun k => frisketref04_Names.f k (mkB z.1)) (IHN z.1 (by omega) k0 (by omega)) ?_)
                have hnl : (nmB k0 z.1).length ≤ z.1.length := by rw [nmB, List.length_map]; exact nms_len _ _
                have ew : wrap64 ((wrap64 ((wrap64 ((i : Int) + ((widR (some z)).2))) - 1)) + 1) = ((i + z.2 : Nat) : Int) := by
                  show wrap64 ((wrap64 ((wrap64 ((i : Int) + (z.2 : Int))) - 1)) + 1) = _
                  rw [w64 (x := (i : Int) + (z.2 : Int)) (by omega) (by omega), w64 (x := (i : Int) + (z.2 : Int) - 1) (by omega) (by omega), w64 (by omega) (by omega)]
                  omega
                rw [ew]; clear ew
                refine Evl.pos (by omega) ?_
                have := ih (i + z.2) k0 (xs ++ nmB k0 z.1) (by omega) (by omega) (by omega) (by rw [List.length_append]; omega)
                rw [List.append_assoc] at this
                exact this
              | none =>
                rw [nmB, nms_tail hcut hes hwd, nmTail, if_neg h34]
                refine Evl.neg (show ¬ ((-1 : Int) > 0) by decide) ?_
                rw [show wrap64 (((i + 1 : Nat) : Int) + 1) = ((i + 2 : Nat) : Int) by rw [wn (by omega)]]
                have i1 := ih (i + 1) k0 xs (by omega) (by omega) (by omega) (by omega)
                have i2 := ih (i + 2) k0 xs (by omega) (by omega) (by omega) (by omega)
                rw [hd2] at i1
                rw [hc2.2.1] at i2
                by_cases hin : inN d = true
                · rw [if_pos hin]
                  rcases ip.1 hin with h | h | h | h
                  · exact Evl.pos (c110.2 h) i1
                  · exact Evl.neg (fun e => absurd (c110.1 e) (by rw [h]; decide)) (Evl.pos (c42.2 h) i1)
                  · exact Evl.neg (fun e => absurd (c110.1 e) (by rw [h]; decide)) (Evl.neg (fun e => absurd (c42.1 e) (by rw [h]; decide)) (Evl.pos (c36.2 h) i1))
                  · exact Evl.neg (fun e => absurd (c110.1 e) (by rw [h]; decide)) (Evl.neg (fun e => absurd (c42.1 e) (by rw [h]; decide)) (Evl.neg (fun e => absurd (c36.1 e) (by rw [h]; decide)) (Evl.pos (c119.2 h) i1)))
                · rw [if_neg hin]
                  exact Evl.neg (fun e => hin (ip.2 (.inl (c110.1 e)))) (Evl.neg (fun e => hin (ip.2 (.inr (.inl (c42.1 e))))) (Evl.neg (fun e => hin (ip.2 (.inr (.inr (.inl (c36.1 e)))))) (Evl.neg (fun e => hin (ip.2 (.inr (.inr (.inr (c119.1 e)))))) i2)))
      · refine hj _ rfl _ ?_
        have := ih (i + 1) (k0 + 1) xs (by omega) (by omega) (by omega) (by omega)
        rw [hc.2.1] at this
        unfold nmB at this ⊢
        rw [nms_skip (fun e2 => e (hb.2 e2))]
        exact this
    · exact done i n xs (by omega) h3
theorem rnames_ev (N : Nat) : ∀ l : List UInt8, l.length ≤ N → l.length < 100000 → ∀ n, l.length < n → Evl (fun k => frisketref04_Names.f k (mkB l)) (nmB n l) := by
  induction N using Nat.strongRecOn with
  | _ N ih =>
  intro l h1 h2 n hn
  refine Evl.succ ?_
  simp only [frisketref04_Names.f]
  have h := names_l l.length (fun t ht n hn => ih t.length (by omega) t (Nat.le_refl _) (by omega) n hn) l (Nat.le_refl _) h2 l.length 0 n [] (by omega) (by omega) (by omega) (by simp)
  rw [List.drop_zero, List.nil_append] at h
  exact h
theorem names_f (l : List UInt8) (hl : l.length < 100000) : expand_Names.f (mkB l) = some (nmB (l.length + 1) l) := by
  unfold expand_Names.f
  rw [size_mkB, if_pos (by omega), data_mkB]
end Go.Proofs.YtpflnhbhgcediaaDoor.Tell4
