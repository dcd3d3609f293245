/- ExpandPlain, walked: it answers true. -/
import Derived.Test.YtpflnhbhgcediaaFSameEa
import Derived.Test.YtpflnhbhgcediaaPlain5Ea
namespace Go.Proofs.Ytpflnhbhgcediaa.Ex4
open Go.RowKit Go.Proofs.YtpflnhbhgcediaaW.PrintWords Go.Proofs.YtpflnhbhgcediaaW.PrintLast Go.Proofs.YtpflnhbhgcediaaW.PrintMore Go.Proofs.YtpflnhbhgcediaaN Go.Proofs.Ytpflnhbhgcediaa.FnVal Go.Proofs.Ytpflnhbhgcediaa.Str Go.Proofs.Ytpflnhbhgcediaa.Esc4 Go.Proofs.Ytpflnhbhgcediaa.Ask4 Go.Proofs.Ytpflnhbhgcediaa.Plain4 Go.Proofs.Ytpflnhbhgcediaa.Sane4
set_option linter.unusedVariables false
set_option linter.unusedSimpArgs false
theorem anL_nil : anL [] = nobody := rfl
theorem tl_new (w : World) : Tl 40 w w.heap.size w.heap.size [] none 0 [] (w.alloc (.cells #[.slice none 0 0, .slice none 0 0] 40)) :=
  ⟨⟨.slice none 0 0, blk_new _ _, Kd.R_nil _ _ _ _ _⟩, below_alloc (Below.refl _ _) _, Nat.le_refl _, (below_alloc (Below.refl w.heap.size w) _).size, Nat.le_refl _, ⟨rfl, by decide, fun h => absurd h (by decide)⟩⟩
theorem row_nil {w0 : World} {B tb : Nat} {A : List As} {w : World} (h : Tl 40 w0 B tb [] none 0 A w) : ∃ At ct, w.heap[tb]? = some (.cells #[.slice At A.length ct, .slice none 0 0] 40 (0, 0)) := by
  obtain ⟨v, hg, hr⟩ := h.tel
  obtain ⟨At, ct, rfl⟩ := Kd.R_slice hr
  exact ⟨At, ct, hg⟩
set_option maxHeartbeats 8000000 in
set_option maxRecDepth 100000 in
theorem plain_law (s : List UInt8) (hs : s.length < 1000000000000000) (w : World) : Calls Try.prog 6 #[.string (mkB s)] w fun e w' => e = .returned (.bool true) ∧ Below w.heap.size w w' := by
  obtain ⟨S, hS⟩ : ∃ S, mkB s = S := ⟨_, rfl⟩
  have HSZ := Aside0.mk (show S.size = s.length by rw [← hS, size_mkB])
  by_cases hl : (1000 : Int) < (S.size : Int)
  · have d1 : decide ((1000 : Int) < (S.size : Int)) = true := decide_eq_true hl
    have d2 : ((1000 : Int) < (S.size : Int)) = True := eq_true hl
    have d3 : (1000 < S.size) = True := eq_true (by omega)
    rw [hS]
    clear hl hS hs
    go_enter Try.func6, Try.ntmps6
    go_wp2_with (first | (go_at_call 8; refine (sane_calls _).mono ?_; rintro e w3 ⟨rfl, hb3⟩; have HB3 := Aside0.mk hb3; clear hb3))
    refine bodyPost_ret (results_tmp rfl _ _ _) rfl ?_
    exact ⟨rfl, HB3.out⟩
  · have d1 : decide ((1000 : Int) < (S.size : Int)) = false := decide_eq_false hl
    have d2 : ((1000 : Int) < (S.size : Int)) = False := eq_false hl
    have d3 : (1000 < S.size) = False := eq_false (by omega)
    have hl2 : s.length ≤ 1000 := by have := HSZ.out; omega
    have HIL := Aside0.mk (fun W => line_calls s (by omega) W)
    obtain ⟨o, A, hr, hA, hy, hno⟩ := plain_all s hl2
    have HE := Aside0.mk (fun (w2 W : World) (h : Tl 40 w2 w2.heap.size w2.heap.size [] none 0 [] W) => Expand_all w2 w2.heap.size w2.heap.size false [] (Nat.zero_le _) (fun a => Nat.zero_le _) none 0 s W h)
    have HPL := Aside0.mk (fun W => plain_calls s (by omega) W)
    cases hf : fitsB (mkB s) with
    | false =>
      rw [hf, hS] at HIL
      rw [hS]
      clear hl hS hs hr hA hy hno hl2 HE HPL hf
      go_enter Try.func6, Try.ntmps6
      go_wp2_with (first | (go_at_call 12; refine (HIL.out _).mono ?_; rintro e w2 ⟨rfl, hb2⟩; have HB2 := Aside0.mk hb2; clear hb2) | (go_at_call 8; refine (sane_calls _).mono ?_; rintro e w3 ⟨rfl, hb3⟩; have HB3 := Aside0.mk hb3; clear hb3))
      refine bodyPost_ret (results_tmp rfl _ _ _) rfl ?_
      exact ⟨rfl, HB2.out.trans (HB3.out.mono HB2.out.size)⟩
    | true =>
      have hres : resOf false [] s = (mkB o, 0, A) := by
        unfold resOf out3
        rw [if_pos hf, anL_nil, hr]
      rw [hf, hS] at HIL
      rw [hres, hS] at HE
      rw [hS] at HPL ⊢
      obtain ⟨O, hO⟩ : ∃ O, mkB o = O := ⟨_, rfl⟩
      rw [hO] at HE
      obtain ⟨na, hna⟩ : ∃ n, A.length = n := ⟨_, rfl⟩
      have HNA := Aside0.mk hna
      have IL := Aside0.mk HIL.out
      cases hp : plainB s with
      | true =>
        obtain ⟨rfl, rfl⟩ := hy hp
        obtain rfl : O = S := by rw [← hO, hS]
        rw [hp] at HPL
        clear hl hS hs hr hA hy hno hl2 hf hres hO hna hp HSZ
        go_enter Try.func6, Try.ntmps6
        go_wp2_with (first | (go_at_call 12; refine (HIL.out _).mono ?_; rintro e w2 ⟨rfl, hb2⟩; have HB2 := Aside0.mk hb2; clear hb2) | (go_at_call 11; refine (HE.out _ _ (tl_new _)).mono ?_; rintro e w4 ⟨rfl, ht4, _⟩; have HB4 := Aside0.mk ht4.bel; obtain ⟨At, ct, hg4⟩ := row_nil ht4; have G4 := Aside0.mk hg4; clear ht4 hg4) | (go_at_call 14; refine (HPL.out _).mono ?_; rintro e w5 ⟨rfl, hb5⟩; have HB5 := Aside0.mk hb5; have k0 := (blk_cell (blk_below G4.out hb5) 0).trans (show _ = some (.slice At 0 ct) from rfl); clear hb5) | (go_at_call 8; refine (sane_calls _).mono ?_; rintro e w6 ⟨rfl, hb6⟩; have HB6 := Aside0.mk hb6; clear hb6))
        refine bodyPost_ret (results_tmp rfl _ _ _) rfl ?_
        exact ⟨rfl, below_then (below_then (below_then HB2.out HB2.out.size HB4.out) (Nat.le_trans HB2.out.size HB4.out.size) HB5.out) (Nat.le_trans (Nat.le_trans HB2.out.size HB4.out.size) HB5.out.size) HB6.out⟩
      | false =>
        rw [hp] at HPL
        have hn := hno hp
        have HOZ := Aside0.mk (show O.size = o.length by rw [← hO, size_mkB])
        by_cases hA0 : 0 < na
        · have u1 : decide ((0 : Int) < (na : Int)) = true := decide_eq_true (by omega)
          have u2 : ((0 : Int) < (na : Int)) = True := eq_true (by omega)
          have u3 : (0 < na) = True := eq_true hA0
          clear hl hS hs hr hA hy hno hl2 hf hres hO hna hp hn hA0
          go_enter Try.func6, Try.ntmps6
          go_wp2_with (first | (go_at_call 12; refine (HIL.out _).mono ?_; rintro e w2 ⟨rfl, hb2⟩; have HB2 := Aside0.mk hb2; clear hb2) | (go_at_call 11; refine (HE.out _ _ (tl_new _)).mono ?_; rintro e w4 ⟨rfl, ht4, _⟩; have HB4 := Aside0.mk ht4.bel; obtain ⟨At, ct, hg4⟩ := row_nil ht4; have G4 := Aside0.mk hg4; clear ht4 hg4) | (go_at_call 14; refine (HPL.out _).mono ?_; rintro e w5 ⟨rfl, hb5⟩; have HB5 := Aside0.mk hb5; have k0 := (blk_cell (blk_below G4.out hb5) 0).trans (show _ = some (.slice At na ct) by rw [← HNA.out]; rfl); clear hb5) | (go_at_call 8; refine (sane_calls _).mono ?_; rintro e w6 ⟨rfl, hb6⟩; have HB6 := Aside0.mk hb6; clear hb6))
          refine bodyPost_ret (results_tmp rfl _ _ _) rfl ?_
          exact ⟨rfl, below_then (below_then (below_then HB2.out HB2.out.size HB4.out) (Nat.le_trans HB2.out.size HB4.out.size) HB5.out) (Nat.le_trans (Nat.le_trans HB2.out.size HB4.out.size) HB5.out.size) HB6.out⟩
        · have u1 : decide ((0 : Int) < (na : Int)) = false := decide_eq_false (by omega)
          have u2 : ((0 : Int) < (na : Int)) = False := eq_false (by omega)
          have u3 : (0 < na) = False := eq_false hA0
          have hlt : O.size < S.size := by have := HOZ.out; have := HSZ.out; omega
          have u4 : decide ((O.size : Int) < (S.size : Int)) = true := decide_eq_true (by omega)
          have u5 : ((O.size : Int) < (S.size : Int)) = True := eq_true (by omega)
          have u6 : (O.size < S.size) = True := eq_true hlt
          clear hl hS hs hr hA hy hno hl2 hf hres hO hna hp hn hA0 hlt
          go_enter Try.func6, Try.ntmps6
          go_wp2_with (first | (go_at_call 12; refine (HIL.out _).mono ?_; rintro e w2 ⟨rfl, hb2⟩; have HB2 := Aside0.mk hb2; clear hb2) | (go_at_call 11; refine (HE.out _ _ (tl_new _)).mono ?_; rintro e w4 ⟨rfl, ht4, _⟩; have HB4 := Aside0.mk ht4.bel; obtain ⟨At, ct, hg4⟩ := row_nil ht4; have G4 := Aside0.mk hg4; clear ht4 hg4) | (go_at_call 14; refine (HPL.out _).mono ?_; rintro e w5 ⟨rfl, hb5⟩; have HB5 := Aside0.mk hb5; have k0 := (blk_cell (blk_below G4.out hb5) 0).trans (show _ = some (.slice At na ct) by rw [← HNA.out]; rfl); clear hb5) | (go_at_call 8; refine (sane_calls _).mono ?_; rintro e w6 ⟨rfl, hb6⟩; have HB6 := Aside0.mk hb6; clear hb6))
          refine bodyPost_ret (results_tmp rfl _ _ _) rfl ?_
          exact ⟨rfl, below_then (below_then (below_then HB2.out HB2.out.size HB4.out) (Nat.le_trans HB2.out.size HB4.out.size) HB5.out) (Nat.le_trans (Nat.le_trans HB2.out.size HB4.out.size) HB5.out.size) HB6.out⟩
end Go.Proofs.Ytpflnhbhgcediaa.Ex4
