/- World.Expand, and the law's own 'same': both answer the same. -/
import Derived.Test.YtpflnhbhgcediaaFSameEa
import Derived.Test.YtpflnhbhgcediaaFRefWEa
import Derived.StillTail
namespace Go.Proofs.Ytpflnhbhgcediaa.Ex4
open Go.RowKit Go.Proofs.YtpflnhbhgcediaaW.PrintWords Go.Proofs.YtpflnhbhgcediaaW.PrintLast Go.Proofs.YtpflnhbhgcediaaW.PrintMore Go.Proofs.YtpflnhbhgcediaaN Go.Proofs.Ytpflnhbhgcediaa.FnVal Go.Proofs.Ytpflnhbhgcediaa.Str Go.Proofs.Ytpflnhbhgcediaa.Esc4 Go.Proofs.Ytpflnhbhgcediaa.Ask4 Go.Proofs.Ytpflnhbhgcediaa.Plain4 Go.Proofs.Ytpflnhbhgcediaa.Sane4
set_option linter.unusedVariables false
set_option linter.unusedSimpArgs false
set_option maxHeartbeats 8000000 in
set_option maxRecDepth 100000 in
theorem WExpand_all (w0 : World) (B tb : Nat) (cp : Bool) (L : List ByteArray) (hL : L.length ≤ 1000) (hLs : ∀ a, (anL L a).length ≤ 100000) (Aa : Option Addr) (ca : Nat) (s : List UInt8) (hs : s.length < 1000000000000) (w : World) (h : Tl 38 w0 B tb L Aa ca [] w) :
    Calls Try.prog 16 #[.pointer (some ⟨tb, 0, none⟩), .string (mkB s), .bool cp] w (Ends 38 w0 w B tb L Aa ca (resOf cp L s)) := by
  have HI := Aside0.mk (fun W => line_calls s hs W)
  have H := Aside0.mk h
  obtain ⟨fb, hfb⟩ : ∃ fb, fitsB (mkB s) = fb := ⟨_, rfl⟩
  obtain ⟨R, hR⟩ : ∃ R, ex cp (anL L) (need [] s + 1) [] s [] = R := ⟨_, rfl⟩
  have HFB := Aside0.mk (show fb = true → s.length ≤ 8000 by
    intro e
    have h1 : decide (((mkB s).size : Int) ≤ 2000) = true := by
      rw [e] at hfb
      unfold fitsB at hfb
      rw [Bool.and_eq_true] at hfb
      exact hfb.1
    rw [size_mkB] at h1
    have := of_decide_eq_true h1
    omega)
  have HX := Aside0.mk (fun (hf : fb = true) (lb : Nat) (W : World) (h : Rs w0 W B lb tb L Aa ca (500 - (([] : List As).length : Int)) [] W) => rexpand_ex w0 B lb tb L hL hLs Aa ca (need [] s + 1) cp s [] (Nat.lt_succ_self _) (HFB.out hf) (by simp) W h)
  unfold resOf
  rw [hR] at HX ⊢
  rw [hfb] at HI ⊢
  obtain ⟨S, hS⟩ : ∃ S, mkB s = S := ⟨_, rfl⟩
  rw [hS] at HI HX ⊢
  clear hfb hR hS h hL hLs hs
  cases fb with
  | false =>
    go_enter Try.func16, Try.ntmps16
    go_wp2_with (first | (go_at_call 12; refine (HI.out _).mono ?_; rintro e w2 ⟨rfl, hb2⟩; have HB2 := Aside0.mk hb2; clear hb2))
    refine bodyPost_ret (results_tmp2 rfl _ _ _) rfl ?_
    exact ⟨rfl, H.out.below HB2.out, Fr.below HB2.out⟩
  | true =>
    have HX2 := Aside0.mk (HX.out rfl)
    clear HX
    cases R with
    | ok o A =>
      go_enter Try.func16, Try.ntmps16
      go_wp2_with (first | (go_at_call 12; refine (HI.out _).mono ?_; rintro e w2 ⟨rfl, hb2⟩; have HT2 := Aside0.mk (H.out.below hb2); have HF2 := Aside0.mk (Fr.below (B := B) (X := fun k => k = tb) hb2); clear hb2))
      have HL := Aside0.mk (show Rs w0 (w2.alloc (.cells #[.int .i64 500] 3)) B w2.heap.size tb L Aa ca (500 - (([] : List As).length : Int)) [] (w2.alloc (.cells #[.int .i64 500] 3)) from ⟨blk_new _ _, HT2.out.below (below_alloc (Below.refl _ _) _), Fr.refl _ _ _, HT2.out.bel.size, by show _ < (w2.heap.push _).size; rw [Array.size_push]; omega, by obtain ⟨v, hg, _⟩ := HT2.out.tel; have := blk_lt hg; show _ < (w2.heap.push _).size; rw [Array.size_push]; omega⟩)
      go_wp2_with (first | (go_at_call 24; refine (HX2.out _ _ HL.out).mono ?_; rintro e w4 ⟨rfl, h4⟩; have H4 := Aside0.mk h4; clear h4))
      refine bodyPost_ret (results_tmp2 rfl _ _ _) rfl ?_
      exact ⟨rfl, H4.out.tl, HF2.out.trans (Fr.off (below_alloc (Below.refl _ _) _) H4.out.fr (Nat.le_refl _))⟩
    | lim A =>
      go_enter Try.func16, Try.ntmps16
      go_wp2_with (first | (go_at_call 12; refine (HI.out _).mono ?_; rintro e w2 ⟨rfl, hb2⟩; have HT2 := Aside0.mk (H.out.below hb2); have HF2 := Aside0.mk (Fr.below (B := B) (X := fun k => k = tb) hb2); clear hb2))
      have HL := Aside0.mk (show Rs w0 (w2.alloc (.cells #[.int .i64 500] 3)) B w2.heap.size tb L Aa ca (500 - (([] : List As).length : Int)) [] (w2.alloc (.cells #[.int .i64 500] 3)) from ⟨blk_new _ _, HT2.out.below (below_alloc (Below.refl _ _) _), Fr.refl _ _ _, HT2.out.bel.size, by show _ < (w2.heap.push _).size; rw [Array.size_push]; omega, by obtain ⟨v, hg, _⟩ := HT2.out.tel; have := blk_lt hg; show _ < (w2.heap.push _).size; rw [Array.size_push]; omega⟩)
      go_wp2_with (first | (go_at_call 24; refine (HX2.out _ _ HL.out).mono ?_; rintro e w4 ⟨rfl, lv, h4⟩; have H4 := Aside0.mk h4; clear h4))
      refine bodyPost_ret (results_tmp2 rfl _ _ _) rfl ?_
      exact ⟨rfl, H4.out.tl, HF2.out.trans (Fr.off (below_alloc (Below.refl _ _) _) H4.out.fr (Nat.le_refl _))⟩
theorem res_most (cp : Bool) (L : List ByteArray) (s : List UInt8) : (resOf cp L s).2.2.length ≤ 500 := by
  have h := ex_most (cp := cp) (an := anL L) (need [] s + 1) [] s [] (Nat.zero_le _)
  unfold resOf out3
  split
  · revert h
    cases ex cp (anL L) (need [] s + 1) [] s [] with
    | ok o A => intro h; exact h
    | lim A => intro h; exact h
  · exact Nat.zero_le _
theorem row_of {T : TypeId} {w0 : World} {B tb : Nat} {L : List ByteArray} {Aa : Option Addr} {ca : Nat} {A : List As} {w : World} (h : Tl T w0 B tb L Aa ca A w) : ∃ At ct, w.heap[tb]? = some (.cells #[.slice At A.length ct, .slice Aa L.length ca] T (0, 0)) ∧ askK.R 55 w B (fun k => k ≠ tb) (.slice At A.length ct) A ∧ askK.C w At A.length A ∧ A.length ≤ ct := by
  obtain ⟨v, hg, hr⟩ := h.tel
  obtain ⟨At, ct, rfl⟩ := Kd.R_slice hr
  have h2 := Kd.R_reads' hr
  exact ⟨At, ct, hg, hr, h2.2.2, h2.2.1⟩
set_option maxHeartbeats 8000000 in
set_option maxRecDepth 100000 in
theorem same_true (cp : Bool) (L : List ByteArray) (hL : L.length ≤ 1000) (hLs : ∀ a, (anL L a).length ≤ 100000) (A0 : Option Addr) (c0 : Nat) (s : List UInt8) (hs : s.length < 1000000000000) (w : World) (hC : Kd.string.C w A0 L.length L) (hc : L.length ≤ c0) :
    Calls Try.prog 9 #[.string (mkB s), .bool cp, .slice A0 L.length c0] w fun e w' => e = .returned (.bool true) ∧ Below w.heap.size w w' := by
  have HE := Aside0.mk (fun W h => Expand_all w w.heap.size w.heap.size cp L hL hLs A0 c0 s W h)
  have HE2 := Aside0.mk (fun B W h => WExpand_all w B (w.heap.size + 1) cp L hL hLs A0 c0 s hs W h)
  have HM := Aside0.mk (res_most cp L s)
  obtain ⟨⟨S3, E3, A3⟩, hr⟩ : ∃ r, resOf cp L s = r := ⟨_, rfl⟩
  rw [hr] at HE HE2 HM
  obtain ⟨S, hS⟩ : ∃ S, mkB s = S := ⟨_, rfl⟩
  rw [hS] at HE HE2 ⊢
  obtain ⟨n, hn⟩ : ∃ n, L.length = n := ⟨_, rfl⟩
  have HN := Aside0.mk hn
  have HC := Aside0.mk hC
  have HW := Aside0.mk (show Tl 40 w w.heap.size w.heap.size L A0 c0 [] ((w.alloc (.cells #[.slice none 0 0, .slice A0 n c0] 40)).alloc (.cells #[.slice none 0 0, .slice A0 n c0] 38)) from ⟨⟨.slice none 0 0, by rw [hn]; exact blk_alloc (blk_new _ _) _, Kd.R_nil _ _ _ _ _⟩, below_alloc (below_alloc (Below.refl _ _) _) _, Nat.le_refl _, (below_alloc (below_alloc (Below.refl w.heap.size w) _) _).size, Nat.le_refl _, hC⟩)
  have HB2 := Aside0.mk (show ((w.alloc (.cells #[.slice none 0 0, .slice A0 n c0] 40)).alloc (.cells #[.slice none 0 0, .slice A0 n c0] 38)).heap[w.heap.size + 1]? = some (.cells #[.slice none 0 0, .slice A0 n c0] 38 (0, 0)) by
    have e : w.heap.size + 1 = (w.alloc (.cells #[.slice none 0 0, .slice A0 n c0] 40)).heap.size := by show _ = (w.heap.push _).size; rw [Array.size_push]
    rw [e]
    exact blk_new _ _)
  have hmf : ∀ (fn : Fn) (first cap : Array Value) (w : World), (Instr.makeFunc fn first cap).run Try.prog w = .ok (.func fn first cap) w := fun _ _ _ _ => rfl
  rw [hn]
  clear hr hS hn hC hc hL hLs hs
  go_enter Try.func9, Try.ntmps9
  go_wp2_with (first | (go_at_call 11; refine (HE.out _ HW.out).mono ?_; rintro e w3 ⟨rfl, h3, hf3⟩; have H3 := Aside0.mk (And.intro h3 hf3); clear h3 hf3))
  have HW3 := Aside0.mk (show Tl 38 w w3.heap.size (w.heap.size + 1) L A0 c0 [] w3 from ⟨⟨.slice none 0 0, by rw [HN.out]; exact H3.out.2.at HB2.out (by omega) (by decide), Kd.R_nil _ _ _ _ _⟩, H3.out.1.bel, H3.out.1.bel.size, Nat.le_refl _, Nat.le_succ _, HC.out⟩)
  go_wp2_with (first | (go_at_call 16; refine (HE2.out _ _ HW3.out).mono ?_; rintro e w4 ⟨rfl, h4, hf4⟩; have H4 := Aside0.mk (And.intro h4 hf4); clear h4 hf4))
  obtain ⟨At, ct, hg, hr, _, hle⟩ := row_of H3.out.1
  obtain ⟨Aw, cw, hg2, hr2, hcw, hle2⟩ := row_of H4.out.1
  have hg4 := H4.out.2.at hg (show ¬ w.heap.size = w.heap.size + 1 by omega) (by decide)
  have hr4 := ask_kept (w2 := w4) hr (fun k hk => by
    refine H4.out.2.2 k (Kd.R_lt hr k hk) (fun hx => ?_)
    rcases hx with hx | ⟨hx, _⟩
    · obtain ⟨cs, hcs⟩ := Kd.R_typed hr k hk
      have h1 := H3.out.2.at HB2.out (show ¬ w.heap.size + 1 = w.heap.size by omega) (by decide)
      exact blk_ne hcs h1 (by decide) hx
    · have := Kd.R_lt hr k hk
      omega)
  have hct := (Kd.R_reads' hr4).2.2
  have k0 := (blk_cell hg4 0).trans (show _ = some (.slice At A3.length ct) from rfl)
  have k1 := (blk_cell hg2 0).trans (show _ = some (.slice Aw A3.length cw) from rfl)
  have HS := Aside0.mk (same_calls A3 (by have := HM.out; omega) w4.drew hct hcw hle hle2)
  have HBL := Aside0.mk H4.out.1.bel
  clear hg hr hle hg2 hr2 hcw hle2 hg4 hr4 hct
  refine wp_region_still_tail 18 (by kernel_rfl) (by kernel_rfl) ?_
  simp only [List.take_succ_cons, List.take_zero, List.drop_succ_cons, List.drop_zero]
  repeat still_step
  refine wpStill_nil ?_
  go_wp2_with (first | (go_at_call 17; refine (HS.out).mono ?_; rintro e w5 ⟨rfl, hb5⟩; have B5 := Aside0.mk hb5; clear hb5))
  refine bodyPost_ret (results_tmp rfl _ _ _) rfl ?_
  exact ⟨rfl, (below_drew1 HBL.out).trans (B5.out.mono (show w.heap.size ≤ w4.drew.heap.size from HBL.out.size))⟩
end Go.Proofs.Ytpflnhbhgcediaa.Ex4
