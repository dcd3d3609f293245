/- The law's walk. -/
import Derived.Test.YtpflnhbhgcediaaDoorFBackD
namespace Go.Proofs.YtpflnhbhgcediaaDoor.Back4
open Go.RowKit Go.Proofs.YtpflnhbhgcediaaDoorW.PrintWords Go.Proofs.YtpflnhbhgcediaaDoorW.PrintLast Go.Proofs.YtpflnhbhgcediaaDoorW.PrintMore Go.Proofs.YtpflnhbhgcediaaDoorN Go.Proofs.YtpflnhbhgcediaaDoor.FnVal Go.Proofs.YtpflnhbhgcediaaDoor.Str Go.Proofs.YtpflnhbhgcediaaDoor.Sane4 Go.Proofs.YtpflnhbhgcediaaDoor.QBk Go.Proofs.YtpflnhbhgcediaaDoor.Evl
set_option linter.unusedVariables false
set_option linter.unusedSimpArgs false
/-- What a later call keeps of what stood above. -/
theorem below_up {a w' w2 : World} {o : Obj} (h : Below (a.heap.size + 1) (a.alloc o) w') (hb : Below w'.heap.size w' w2) : Below (a.heap.size + 1) (a.alloc o) w2 := by
  have hs : a.heap.size + 1 ≤ w'.heap.size := by
    have := h.size
    have e : (a.alloc o).heap.size = a.heap.size + 1 := by
      show (a.heap.push o).size = _
      rw [Array.size_push]
    omega
  exact h.trans (hb.mono hs)
set_option maxHeartbeats 8000000 in
set_option maxRecDepth 100000 in
theorem back_calls (s : ByteArray) (t : Int) (ht : 0 ≤ t ∧ t ≤ 255) (w : World) :
    Calls Tryd.prog 3 #[.string s, .int .u8 t] w fun e w' => e = .returned (.bool true) ∧ Below w.heap.size w w' := by
  obtain ⟨n, hn⟩ : ∃ n : Nat, Int.tmod t 4 = (n : Int) := ⟨(Int.tmod t 4).toNat, by have : 0 ≤ Int.tmod t 4 := by (rw [Int.tmod_eq_emod_of_nonneg ht.1]; omega)
                                                                                    omega⟩
  have hn3 : n ≤ 3 := by rw [Int.tmod_eq_emod_of_nonneg ht.1] at hn; omega
  obtain ⟨l, hl⟩ : ∃ l, mkB l = s := ⟨s.data.toList, (mkB_data s).symm⟩
  by_cases c : (s.size : Int) > 120
  · have c1 : decide (120 < (s.size : Int)) = true := decide_eq_true c
    have c2 : (120 < (s.size : Int)) = True := eq_true c
    clear c ht hl
    go_enter Tryd.func3, Tryd.ntmps3
    go_wp2_with (first | (go_at_call 7; refine (sane_calls _).mono ?_; rintro e w3 ⟨rfl, hb3⟩; have HB3 := Aside0.mk hb3; clear hb3))
    refine bodyPost_ret (results_tmp rfl _ _ _) rfl ?_
    exact ⟨rfl, HB3.out⟩
  · have c1 : decide (120 < (s.size : Int)) = false := decide_eq_false c
    have c2 : (120 < (s.size : Int)) = False := eq_false c
    have hlen : l.length ≤ 120 := by rw [← hl, size_mkB] at c; omega
    obtain ⟨k, hk⟩ := line_ev l hlen
    have HLEN := Aside0.mk hlen
    rw [hl] at hk
    have HL := Aside0.mk hl
    cases hb : no10 l
    · rw [hb] at hk
      have HK := Aside0.mk hk
      clear hk hb c ht hl hlen
      go_enter Tryd.func3, Tryd.ntmps3
      go_wp2_with (first | (go_at_call 6; refine (frisketref04_IsLine.calls k s false _ HK.out).mono ?_; rintro e w2 ⟨rfl, ⟨nd, rfl⟩⟩) | (go_at_call 7; refine (sane_calls _).mono ?_; rintro e w3 ⟨rfl, hb3⟩; have HB3 := Aside0.mk hb3; clear hb3))
      refine bodyPost_ret (results_tmp rfl _ _ _) rfl ?_
      exact ⟨rfl, below_then (pw_below_drewN (Below.refl _ _) nd) (Nat.le_refl _) HB3.out⟩
    · have HF := Aside0.mk (fine_N l ⟨hlen, no10_iff hb⟩)
      rw [hb] at hk
      have HK := Aside0.mk hk
      have HN := Aside0.mk hn3
      have hw : wrap64 (n : Int) = (n : Int) := w64 (by omega) (by omega)
      clear hk hb c ht hl hlen hn3
      have hmf : ∀ (fn : Fn) (first cap : Array Value) (w : World), (Instr.makeFunc fn first cap).run Tryd.prog w = .ok (.func fn first cap) w := fun _ _ _ _ => rfl
      go_enter Tryd.func3, Tryd.ntmps3
      go_wp2_with (first | (go_at_call 6; refine (frisketref04_IsLine.calls k s true _ HK.out).mono ?_; rintro e w2 ⟨rfl, ⟨nd, rfl⟩⟩))
      go_loopg [6, 7] (n + 1) (fun kq v6 v7 w' => ∃ i : Nat, Aside0 (i + kq = n + 1 ∧ i ≤ n) ∧ v6 = .string (mkB (prN i l)) ∧ v7 = .int .i64 (i : Int) ∧ Aside0 (Below w.heap.size w w'))
      case atStart => exact ⟨0, ⟨by omega, by omega⟩, by rw [prN, HL.out], rfl, ⟨pw_below_drewN (Below.refl _ _) nd⟩⟩
      case round =>
        obtain ⟨i, H1, rfl, rfl, HB⟩ := hrel
        by_cases ci : i < n
        · have t1 : decide ((i : Int) < (n : Int)) = true := decide_eq_true (by omega)
          have t2 : ((i : Int) < (n : Int)) = True := eq_true (by omega)
          have HP := Aside0.mk (protect_f (HF.out i (by have := HN.out; omega)))
          have e1 := Aside0.mk (show wrap64 ((i : Int) + 1) = ((i + 1 : Nat) : Int) from wn (by have := HN.out; omega))
          have HI := Aside0.mk ci
          clear ci
          go_wp2_with (first | (go_at_call 8; refine (expand_Protect.calls _ _ 0 _ HP.out).mono ?_; rintro e w2 ⟨rfl, hb2⟩; have HB2 := Aside0.mk (below_then HB.out HB.out.size hb2); clear hb2))
          go_roundg (n - i)
          case measure => have := H1.out; have := HI.out; omega
          case rel => exact ⟨i + 1, ⟨by have := HI.out; omega, HI.out⟩, rfl, by rw [e1.out], HB2⟩
        · have hi : i = n := by have := H1.out; omega
          subst hi
          have t1 : decide ((i : Int) < (i : Int)) = false := decide_eq_false (by omega)
          have t2 : ((i : Int) < (i : Int)) = False := eq_false (by omega)
          clear ci
          go_wp2_with (fail)
          go_loopg [6, 11] (i + 1) (fun kq v6 v11 w' => ∃ j : Nat, Aside0 (j + kq = i + 1 ∧ j ≤ i) ∧ v6 = .string (mkB (prN (i - j) l)) ∧ v11 = .int .i64 (j : Int) ∧ Aside0 (Below (wr.heap.size + 1) (wr.alloc (.cells #[.slice none 0 0, .slice none 0 0] 33)) w' ∧ Below w.heap.size w w'))
          case atStart => exact ⟨0, ⟨by omega, by omega⟩, rfl, rfl, ⟨Below.refl _ _, below_alloc HB.out _⟩⟩
          case round =>
            obtain ⟨j, H3, rfl, rfl, HC⟩ := hrel
            have g0 := Lib.cell_of_heap ((HC.out.1.block _ (Nat.lt_succ_self _)).trans (heap_alloc_new _ _)) 0
            by_cases cj : j < i
            · have t1 : decide ((j : Int) < (i : Int)) = true := decide_eq_true (by omega)
              have t2 : ((j : Int) < (i : Int)) = True := eq_true (by omega)
              obtain ⟨m, hm⟩ : ∃ m, i - j = m + 1 := ⟨i - j - 1, by omega⟩
              have hm2 : i - (j + 1) = m := by omega
              have hq : prN (i - j) l = pr (prN m l) := by rw [hm]; rfl
              have HQ := Aside0.mk (HF.out m (by have := HN.out; omega))
              have HM := Aside0.mk hm2
              have e1 := Aside0.mk (show wrap64 ((j : Int) + 1) = ((j + 1 : Nat) : Int) from wn (by have := HN.out; omega))
              have HJ := Aside0.mk cj
              rw [hq]
              clear cj hm hm2 hq
              go_wp2_with (first | (go_at_call 9; refine (Expand_back (prN m l) (by have := HQ.out.1; omega) (fits_fine ⟨by have := HQ.out.pr.1; omega, HQ.out.pr.2⟩) _ _).mono ?_; rintro e w2 ⟨rfl, hb2⟩; have HB2 := Aside0.mk hb2; clear hb2))
              go_roundg (i - j)
              case measure => have := H3.out; have := HJ.out; omega
              case rel => exact ⟨j + 1, ⟨by have := HJ.out; omega, HJ.out⟩, by rw [HM.out], by rw [e1.out], ⟨below_up HC.out.1 HB2.out, below_then HC.out.2 HC.out.2.size HB2.out⟩⟩
            · have hj : j = i := by have := H3.out; omega
              subst hj
              have t1 : decide ((j : Int) < (j : Int)) = false := decide_eq_false (by omega)
              have t2 : ((j : Int) < (j : Int)) = False := eq_false (by omega)
              rw [show mkB (prN (j - j) l) = s by rw [Nat.sub_self, prN, HL.out]]
              clear cj
              go_wp2_with (first | (go_at_call 7; refine (sane_calls _).mono ?_; rintro e w3 ⟨rfl, hb3⟩; have HB3 := Aside0.mk hb3; clear hb3))
              refine bodyPost_ret (results_tmp rfl _ _ _) rfl ?_
              exact ⟨rfl, below_then HC.out.2 HC.out.2.size HB3.out⟩
end Go.Proofs.YtpflnhbhgcediaaDoor.Back4
