/- World.expand of any text, whatever is answered: the walk. (Printed by expr.py.) -/
import Derived.Test.YtpflnhbhgcediaaFRefEa
namespace Go.Proofs.Ytpflnhbhgcediaa.Ex4
open Go.RowKit Go.Proofs.YtpflnhbhgcediaaW.PrintWords Go.Proofs.YtpflnhbhgcediaaW.PrintLast Go.Proofs.YtpflnhbhgcediaaW.PrintMore Go.Proofs.YtpflnhbhgcediaaN Go.Proofs.Ytpflnhbhgcediaa.FnVal Go.Proofs.Ytpflnhbhgcediaa.Str Go.Proofs.Ytpflnhbhgcediaa.Esc4 Go.Proofs.Ytpflnhbhgcediaa.Ask4 Go.Proofs.Ytpflnhbhgcediaa.Plain4 Go.Proofs.Ytpflnhbhgcediaa.QEa
set_option linter.unusedVariables false
set_option linter.unusedSimpArgs false
set_option maxHeartbeats 16000000 in
set_option maxRecDepth 100000 in
theorem rexpand_ex (w0 : World) (B lb tb : Nat) (L : List ByteArray) (hL : L.length ≤ 1000) (hLs : ∀ a, (anL L a).length ≤ 100000) (Aa : Option Addr) (ca : Nat) (n : Nat) : ∀ (cp : Bool) (s0 : List UInt8) (A0 : List As), need A0 s0 < n → s0.length ≤ 8000 → A0.length ≤ 500 → ∀ w, Rs w0 w B lb tb L Aa ca (500 - (A0.length : Int)) A0 w →
    Calls Try.prog 24 #[.pointer (some ⟨tb, 0, none⟩), .string (mkB s0), .bool cp, .pointer (some ⟨lb, 0, none⟩)] w (DoneR w0 w B lb tb L Aa ca (ex cp (anL L) n [] s0 A0)) := by
  induction n using Nat.strongRecOn with
  | _ n IH =>
  intro cp s0 A0 hn hs0 hA0 w hsr
  have IH := Aside0.mk IH
  have HL := Aside0.mk hL
  have HLS := Aside0.mk hLs
  have H0 := Aside0.mk hsr
  have HN0 := Aside0.mk hn
  have HS0 := Aside0.mk hs0
  have HA0 := Aside0.mk hA0
  have hu55 := Try.underlying55
  have hu80 := Try.underlying80
  obtain ⟨R, hR⟩ : ∃ R, ex cp (anL L) n [] s0 A0 = R := ⟨_, rfl⟩
  rw [hR]
  have HR := Aside0.mk hR
  clear hn hs0 hA0 hsr hL hLs hR
  go_enter Try.func24, Try.ntmps24
  go_wp2
  go_loopg [1, 10] (n * 8002 + s0.length + 1) (fun gq v1 v2 w' => ∃ (kq : Nat) (out s : List UInt8) (A : List As), Aside0 (gq = kq * 8002 + s.length + 1 ∧ ex cp (anL L) kq out s A = R ∧ need A s < kq ∧ out.length + s.length ≤ 8000 ∧ kq ≤ n ∧ A.length ≤ 500) ∧ v1 = .string (mkB s) ∧ v2 = .string (mkB out) ∧ Aside0 (Rs w0 w B lb tb L Aa ca (500 - (A.length : Int)) A w'))
  case atStart => exact ⟨n, [], s0, A0, ⟨rfl, HR.out, HN0.out, by simpa using HS0.out, Nat.le_refl _, HA0.out⟩, rfl, rfl, ⟨H0.out⟩⟩
  case round =>
    obtain ⟨kq, out, s, A, H1, rfl, rfl, HS⟩ := hrel
    have hgk := H1.out.1
    subst hgk
    have H1 := Aside0.mk H1.out.2
    cases kq with
    | zero => exact absurd H1.out.2.1 (by omega)
    | succ k1 =>
    have HQ := Aside0.mk (show need A s ≤ k1 ∧ out.length + s.length ≤ 8000 ∧ k1 + 1 ≤ n ∧ A.length ≤ 500 by have := H1.out; omega)
    obtain ⟨S, hS⟩ : ∃ S, mkB s = S := ⟨_, rfl⟩
    have HSS := Aside0.mk hS
    obtain ⟨O, hO⟩ : ∃ O, mkB out = O := ⟨_, rfl⟩
    have HO := Aside0.mk hO
    have HOS := Aside0.mk (show O.size = out.length by rw [← hO, size_mkB])
    have HNK := Aside0.mk (fun (s1 : List UInt8) (h8 : s1.length < s.length) => (by have h1 := need_short (A := A) (s := s) (s1 := s1) h8; have := HQ.out; omega : need A s1 < k1))
    cases s with
    | nil =>
      have he : S.toList.isEmpty = true := by rw [← hS, toList_mkB]; rfl
      have HR3 := Aside0.mk (show R = .ok out A by rw [← H1.out.1, ex_none rfl, List.append_nil])
      have HOV := Aside0.mk hO
      rw [hS, hO]
      clear hS hO H1
      as_aux_lemma =>
        go_wp2
        refine bodyPost_ret (results_tmp2 rfl _ _ _) rfl ?_
        rw [HR3.out]
        exact ⟨congrArg (fun s => Ending.returned (.tuple #[.string s, .bool true])) HOV.out.symm, HS.out⟩
    | cons c t =>
      have HX0 := Aside0.mk (show out.length + (t.length + 1) ≤ 8000 by have := HQ.out; rw [List.length_cons] at this; omega)
      have hsz : S.size = t.length + 1 := by rw [← hS, size_mkB]; rfl
      have HSZ := Aside0.mk hsz
      have he2 : S.toList.isEmpty = false := by rw [← hS, toList_mkB]; rfl
      have r1 : ((1 : Int) ≤ (S.size : Int)) = True := eq_true (by omega)
      have r2 : (1 ≤ S.size) = True := eq_true (by omega)
      have r3 : ((0 : Int) < (S.size : Int)) = True := eq_true (by omega)
      have r4 : (0 < S.size) = True := eq_true (by omega)
      have r5 : decide ((0 : Int) < (S.size : Int)) = true := decide_eq_true (by omega)
      obtain ⟨c0, hc0⟩ : ∃ c0 : Int, (c.toNat : Int) = c0 := ⟨_, rfl⟩
      have x0 : ∀ h, ((S[0]'h).toNat : Int) = c0 := by rw [← hS, ← hc0]; exact fun _ => rfl
      by_cases h92 : c = 92
      · subst h92
        obtain rfl : (92 : Int) = c0 := by rw [← hc0]; rfl
        cases t with
        | nil =>
          have s1 : ((S.size : Int) == 1) = true := beq_iff_eq.2 (by rw [hsz]; rfl)
          obtain ⟨Z, hZ⟩ : ∃ Z, mkB ([] : List UInt8) = Z := ⟨_, rfl⟩
          have HZV := Aside0.mk hZ
          have g3 : S.extract 1 S.size = Z := by rw [← hS, ← hZ, extract_mkB, size_mkB, List.take_length]; rfl
          obtain ⟨C1, hC1⟩ : ∃ Z, mkB [92] = Z := ⟨_, rfl⟩
          have g4 : S.extract 0 1 = C1 := by rw [← hS, ← hC1, extract_mkB]; rfl
          obtain ⟨O2, hO2⟩ : ∃ O2, O ++ C1 = O2 := ⟨_, rfl⟩
          have HOV := Aside0.mk (show O2 = mkB (out ++ [92]) by rw [← hO2, ← hO, ← hC1, append_mkB])
          have k18 : ((9223372036854775807 : Nat) < O.size + C1.size) = False := eq_false (by rw [← hC1, size_mkB]; have := HOS.out; have := HQ.out; simp only [List.length_cons, List.length_nil]; omega)
          have HX := Aside0.mk (show out.length + 1 ≤ 8000 by have := HX0.out; omega)
          have HND := Aside0.mk (show ([92] : List UInt8).length = 1 from rfl)
          have HR3 := Aside0.mk (show ex cp (anL L) k1 (out ++ [92]) [] A = R by rw [← H1.out.1, ex_tail (cut_head []) rfl (by cases cp <;> rfl)]; simp only [exTail, List.append_nil])
          have HF := Aside0.mk (show need (A) (([] : List UInt8)) < k1 ∧ (out ++ [92]).length + (([] : List UInt8)).length ≤ 8000 ∧ k1 ≤ n ∧ (A).length ≤ 500 from ⟨HNK.out _ (by simp), by simp only [List.length_append, List.length_cons, List.length_nil]; have := HX.out; omega, by have := HQ.out; omega, by have := HQ.out; omega⟩)
          have HM := Aside0.mk (show k1 * 8002 + (([] : List UInt8)).length + 1 < (k1 + 1) * 8002 + ([92] : List UInt8).length + 1 by have := HX.out; have := HND.out; simp only [List.length_append, List.length_cons, List.length_nil]; omega)
          rw [hS, hO]
          clear hS hO H1 hZ hC1 hsz hc0
          as_aux_lemma =>
            go_wp2
            go_roundg (k1 * 8002 + (([] : List UInt8)).length + 1)
            case measure => exact HM.out
            case rel => exact ⟨k1, out ++ [92], ([] : List UInt8), A, ⟨rfl, HR3.out, HF.out⟩, by rw [HZV.out], by rw [HOV.out], HS⟩
        | cons d u =>
          have hq : (92 :: d :: u : List UInt8).length < 1000000000 := by have := HX0.out; simp only [List.length_cons] at this ⊢; omega
          have hS3 : S.size = u.length + 2 := hsz
          have HS3 := Aside0.mk hS3
          have HX := Aside0.mk (show out.length + (u.length + 2) ≤ 8000 by have := HX0.out; simp only [List.length_cons] at this; omega)
          have HND := Aside0.mk (show (92 :: d :: u : List UInt8).length = u.length + 2 from rfl)
          have s1 : ((S.size : Int) == 1) = false := beq_eq_false_iff_ne.2 (by omega)
          have s2 : decide ((1 : Int) < (S.size : Int)) = true := decide_eq_true (by omega)
          have s3 : ((1 : Int) < (S.size : Int)) = True := eq_true (by omega)
          have s3b : (1 < S.size) = True := eq_true (by omega)
          have s6 : ((2 : Int) ≤ (S.size : Int)) = True := eq_true (by omega)
          have s7 : (2 ≤ S.size) = True := eq_true (by omega)
          obtain ⟨C, hC⟩ : ∃ C : Int, (d.toNat : Int) = C := ⟨_, rfl⟩
          have HC := Aside0.mk hC
          have x1 : ∀ h, ((S[1]'h).toNat : Int) = C := by rw [← hS, ← hC]; exact fun _ => rfl
          have hCd : ∀ k : UInt8, d ≠ k → ((C == (k.toNat : Int)) : Bool) = false := fun k hk => beq_eq_false_iff_ne.2 (by rw [← hC]; intro e; exact hk (UInt8.toNat_inj.1 (by omega)))
          have hCe : ∀ k : UInt8, d = k → ((C == (k.toNat : Int)) : Bool) = true := fun k hk => beq_iff_eq.2 (by rw [← hC, hk])
          obtain ⟨K2, hK2⟩ := (widthat_ev (92 :: d :: u) hq).out
          rw [hS] at hK2
          have hcut := cut_head (d :: u)
          have HNK2 : ∀ s1 : List UInt8, s1.length < (92 :: d :: u : List UInt8).length → need A s1 < k1 := HNK.out
          cases hes : esc (92 :: d :: u) with
          | some x =>
            have hd34 : d ≠ 34 := by
              intro e
              rw [e, esc_at34] at hes
              cases hes
            have f1 : ((C == 34) : Bool) = false := hCd 34 hd34
            have hx := esc_ok hes
            have hst := esc_step hes
            obtain ⟨T9, n9, h9⟩ : ∃ (T9 : ByteArray) (n9 : Int), widR (wid (92 :: d :: u)) = (T9, n9) := ⟨_, _, rfl⟩
            rw [h9] at hK2
            have HV := Aside0.mk hK2
            have HASK := Aside0.mk (fun W => at_yes (92 :: d :: u) hq x hes W)
            rw [hS] at HASK
            have hx2 := hx.2.1
            have hlen : (92 :: d :: u : List UInt8).length = u.length + 2 := rfl
            rw [hlen] at hx2
            obtain ⟨kd, hkd⟩ : ∃ kd : Int, (x.kind.toNat : Int) = kd := ⟨_, rfl⟩
            obtain ⟨N, hN⟩ : ∃ N, x.size = N := ⟨_, rfl⟩
            obtain ⟨M, hM⟩ : ∃ M, mkB x.name = M := ⟨_, rfl⟩
            obtain ⟨ST, hST⟩ : ∃ ST, x.step = ST := ⟨_, rfl⟩
            rw [hkd, hN, hM, hST] at HASK
            have h3N : 3 ≤ N := by rw [← hN]; exact hx.1
            have hN2 : N ≤ u.length + 2 := by rw [← hN]; exact hx2
            obtain ⟨lv, hlv⟩ : ∃ lv : Int, 500 - (A.length : Int) = lv := ⟨_, rfl⟩
            rw [hlv] at HS
            obtain ⟨lv1, hlv1⟩ : ∃ lv1 : Int, wrap64 (lv - 1) = lv1 := ⟨_, rfl⟩
            have HLV := Aside0.mk (show lv1 = 499 - (A.length : Int) by have := HQ.out; rw [← hlv1, w64 (by omega) (by omega)]; omega)
            have HLW := Aside0.mk hlv1
            by_cases hA : 500 ≤ A.length
            · have HR3 := Aside0.mk (show R = .lim A by rw [← H1.out.1, ex_full hcut hes hA])
              have d1 : decide (lv1 < 0) = true := decide_eq_true (by have := HLV.out; omega)
              have d2 : (lv1 < 0) = True := eq_true (by have := HLV.out; omega)
              rw [hS, hO]
              clear hS hO H1 hsz hc0 hq hS3 hC hCd hCe hK2 hcut hes HNK2 hd34 hx hst h9 hx2 hlen hkd hN hM hST h3N hN2 hlv hA
              as_aux_lemma =>
                go_wp2_with (first | (go_at_call 34; refine (frisketref04_WidthAt.calls K2 _ _ _ _ HV.out).mono ?_; rintro e w3 ⟨rfl, hd3⟩; have E3 := Aside0.mk (HS.out.below hd3.below); clear hd3))
                go_wp2_with (first | (go_at_call 35; refine (HASK.out _).mono ?_; rintro e w4 ⟨rfl, hb4⟩; have E4a := E3.out.below hb4; have X4 := Aside0.mk E4a.newer; have E4 := Aside0.mk (E4a.below (below_alloc (Below.refl _ _) (.cells #[.int .u8 kd, .string M, .int .i64 ST, .int .i64 (N : Int)] 80))); have G4 := Aside0.mk (blk_new w4 (.cells #[.int .u8 kd, .string M, .int .i64 ST, .int .i64 (N : Int)] 80)); have lc4 := (blk_cell E4.out.lf 0).trans (show _ = some (.int .i64 lv) from rfl); have lz4 := blk_frozen E4.out.lf 0; have E5 := Aside0.mk (E4.out.dec lv1); have hg5 := blk_far (p := ⟨lb, 0, none⟩) G4.out (fun e => X4.out (Or.inr e)) (.int .i64 lv1); have G5 := Aside0.mk hg5; have q50 := (blk_cell hg5 0).trans (show _ = some (.int .u8 kd) from rfl); have q51 := (blk_cell hg5 1).trans (show _ = some (.string M) from rfl); have q52 := (blk_cell hg5 2).trans (show _ = some (.int .i64 ST) from rfl); have lc5 := (blk_cell E5.out.lf 0).trans (show _ = some (.int .i64 lv1) from rfl); clear hb4 E4a hg5))
                refine bodyPost_ret (results_tmp2 rfl _ _ _) rfl ?_
                rw [HR3.out]
                exact ⟨rfl, _, E5.out⟩
            · have d1 : decide (lv1 < 0) = false := decide_eq_false (by have := HLV.out; omega)
              have d2 : (lv1 < 0) = False := eq_false (by have := HLV.out; omega)
              obtain ⟨ANS, hAns⟩ : ∃ Z, ansB L (askE x) = Z := ⟨_, rfl⟩
              obtain ⟨Z, hZ⟩ : ∃ Z, mkB ((92 :: d :: u).drop N) = Z := ⟨_, rfl⟩
              have HAN := Aside0.mk (show ∀ W, Tl 38 w0 B tb L Aa ca A W → Calls Try.prog 21 #[.pointer (some ⟨tb, 0, none⟩), .agg #[.int .u8 kd, .string M, .int .i64 ST]] W fun e w' => e = .returned (.string ANS) ∧ Tl 38 w0 B tb L Aa ca (A ++ [askE x]) w' ∧ Fr B (fun k => k = tb) W w' by
                intro W h
                rw [← hkd, ← hM, ← hST, ← hAns]
                exact ans_calls 38 (by decide) w0 B tb L HL.out Aa ca A (askE x) W h (by omega) (by show x.name.length ≤ 8000; have h1 := hx.2.2.1; have := HX.out; omega) hst)
              have HAL := Aside0.mk (show ANS.data.toList = anL L (askE x) by rw [← hAns]; rfl)
              have HAB := Aside0.mk (show ANS.size ≤ 100000 by have h := HLS.out (askE x); rw [anL, hAns, Array.length_toList] at h; exact h)
              have HAM := Aside0.mk (show ANS = mkB (anL L (askE x)) by rw [← HAL.out]; exact mkB_data _)
              have g3 : S.extract N S.size = Z := by rw [← hS, extract_mkB, size_mkB, List.take_length, hZ]
              have t5 : (0 ≤ (N : Int)) = True := eq_true (by omega)
              have t6 : ((N : Int) ≤ (S.size : Int)) = True := eq_true (by omega)
              have t7 : (N ≤ S.size) = True := eq_true (by omega)
              have HZ2 := Aside0.mk (show Z.size + N = u.length + 2 by rw [← hZ, size_mkB, List.length_drop, hlen]; omega)
              have HRX := Aside0.mk (show R = room (ex cp (anL L) k1) (aOut x (anL L (askE x)) out) (aRest x (anL L (askE x)) (92 :: d :: u)) (A ++ [askE x]) by rw [← H1.out.1, ex_esc hcut hes (by omega), List.append_nil])
              have HA1 := Aside0.mk (show (A ++ [askE x]).length = A.length + 1 ∧ A.length < 500 by rw [List.length_append, List.length_cons, List.length_nil]; omega)
              have HNEED := Aside0.mk (fun (s1 : List UInt8) (h8 : s1.length ≤ 8000) => (by have h1 := need_less (A := A) (A1 := A ++ [askE x]) (s := 92 :: d :: u) (s1 := s1) (by omega) (by rw [List.length_append, List.length_cons, List.length_nil]; omega) h8; have := HQ.out; omega : need (A ++ [askE x]) s1 < k1))
              have HLX := Aside0.mk (show lv1 = 500 - ((A ++ [askE x]).length : Int) by rw [HA1.out.1]; have := HLV.out; omega)
              by_cases hk : x.kind = 110
              · obtain rfl : (110 : Int) = kd := by rw [← hkd, hk]; rfl
                obtain ⟨O2, hO2⟩ : ∃ O2, O ++ ANS = O2 := ⟨_, rfl⟩
                have HOV := Aside0.mk (show O2 = mkB (out ++ anL L (askE x)) by rw [← hO2, ← hO, HAM.out, append_mkB])
                have k18 : ((9223372036854775807 : Nat) < O.size + ANS.size) = False := eq_false (by have := HOS.out; have := HX.out; have := HAB.out; omega)
                have HOZ := Aside0.mk (show O2.size ≤ 200000 ∧ Z.size ≤ 8000 by have h1 : O2.size = O.size + ANS.size := by { rw [← hO2, ByteArray.size_append] }; have := HOS.out; have := HX.out; have := HAB.out; have := HZ2.out; omega)
                have HOL := Aside0.mk (show (out ++ anL L (askE x)).length = O2.size ∧ ((92 :: d :: u).drop N).length = Z.size by rw [HOV.out, ← hZ, size_mkB, size_mkB]; exact ⟨rfl, rfl⟩)
                have HR2 := Aside0.mk (show R = room (ex cp (anL L) k1) (out ++ anL L (askE x)) ((92 :: d :: u).drop N) (A ++ [askE x]) by rw [HRX.out, aOut, aRest, if_pos hk, if_pos hk, hN])
                have HZV := Aside0.mk hZ
                have TW := Aside0.mk (show wrap64 ((O2.size : Int) + (Z.size : Int)) = (O2.size : Int) + (Z.size : Int) by
                  have h1 := HOZ.out
                  exact w64 (by omega) (by omega))
                by_cases hbig : (8000 : Int) < (O2.size : Int) + (Z.size : Int)
                · have e1 : decide ((8000 : Int) < wrap64 ((O2.size : Int) + (Z.size : Int))) = true := by rw [TW.out]; exact decide_eq_true hbig
                  have e2 : ((8000 : Int) < wrap64 ((O2.size : Int) + (Z.size : Int))) = True := by rw [TW.out]; exact eq_true hbig
                  have HR3 := Aside0.mk (show R = .lim (A ++ [askE x]) by rw [HR2.out, room_big]; have := HOL.out; omega)
                  rw [hS, hO]
                  clear hS hO H1 hsz hc0 hq hS3 hC hCd hCe hK2 hcut hes HNK2 hd34 hx hst h9 hx2 hlen hkd hN hM hST h3N hN2 hlv hA hk hZ hAns hbig
                  as_aux_lemma =>
                    go_wp2_with (first | (go_at_call 34; refine (frisketref04_WidthAt.calls K2 _ _ _ _ HV.out).mono ?_; rintro e w3 ⟨rfl, hd3⟩; have E3 := Aside0.mk (HS.out.below hd3.below); clear hd3))
                    go_wp2_with (first | (go_at_call 35; refine (HASK.out _).mono ?_; rintro e w4 ⟨rfl, hb4⟩; have E4a := E3.out.below hb4; have X4 := Aside0.mk E4a.newer; have E4 := Aside0.mk (E4a.below (below_alloc (Below.refl _ _) (.cells #[.int .u8 110, .string M, .int .i64 ST, .int .i64 (N : Int)] 80))); have G4 := Aside0.mk (blk_new w4 (.cells #[.int .u8 110, .string M, .int .i64 ST, .int .i64 (N : Int)] 80)); have lc4 := (blk_cell E4.out.lf 0).trans (show _ = some (.int .i64 lv) from rfl); have lz4 := blk_frozen E4.out.lf 0; have E5 := Aside0.mk (E4.out.dec lv1); have hg5 := blk_far (p := ⟨lb, 0, none⟩) G4.out (fun e => X4.out (Or.inr e)) (.int .i64 lv1); have G5 := Aside0.mk hg5; have q50 := (blk_cell hg5 0).trans (show _ = some (.int .u8 110) from rfl); have q51 := (blk_cell hg5 1).trans (show _ = some (.string M) from rfl); have q52 := (blk_cell hg5 2).trans (show _ = some (.int .i64 ST) from rfl); have lc5 := (blk_cell E5.out.lf 0).trans (show _ = some (.int .i64 lv1) from rfl); clear hb4 E4a hg5))
                    go_wp2_with (first | (go_at_call 21; refine (HAN.out _ E5.out.tl).mono ?_; rintro e w6 ⟨rfl, ht6, hf6⟩; have E6 := Aside0.mk (E5.out.asked ht6 hf6); have hg6 := hf6.at G5.out (fun e => X4.out (Or.inl e)) (by decide); have q60 : w6.cell? ⟨w4.heap.size, 0, none⟩ = some (.int .u8 110) := (blk_cell hg6 0).trans rfl; have q63 : w6.cell? ⟨w4.heap.size, 3, none⟩ = some (.int .i64 (N : Int)) := (blk_cell hg6 3).trans rfl; clear ht6 hf6 hg6))
                    refine bodyPost_ret (results_tmp2 rfl _ _ _) rfl ?_
                    rw [HR3.out]
                    exact ⟨rfl, _, E6.out⟩
                · have e1 : decide ((8000 : Int) < wrap64 ((O2.size : Int) + (Z.size : Int))) = false := by rw [TW.out]; exact decide_eq_false hbig
                  have e2 : ((8000 : Int) < wrap64 ((O2.size : Int) + (Z.size : Int))) = False := by rw [TW.out]; exact eq_false hbig
                  have HTOT := Aside0.mk (show (out ++ anL L (askE x)).length + ((92 :: d :: u).drop N).length ≤ 8000 by have := HOL.out; omega)
                  have HR3 := Aside0.mk (show ex cp (anL L) k1 (out ++ anL L (askE x)) ((92 :: d :: u).drop N) (A ++ [askE x]) = R by rw [HR2.out, room_ok]; have := HTOT.out; omega)
                  have HF := Aside0.mk (show need (A ++ [askE x]) ((92 :: d :: u).drop N) < k1 ∧ (out ++ anL L (askE x)).length + ((92 :: d :: u).drop N).length ≤ 8000 ∧ k1 ≤ n ∧ (A ++ [askE x]).length ≤ 500 from ⟨HNEED.out _ (by have := HTOT.out; omega), HTOT.out, by have := HQ.out; omega, by have := HA1.out; omega⟩)
                  have HM := Aside0.mk (show k1 * 8002 + ((92 :: d :: u).drop N).length + 1 < (k1 + 1) * 8002 + (92 :: d :: u).length + 1 by have := HTOT.out; omega)
                  rw [hS, hO]
                  clear hS hO H1 hsz hc0 hq hS3 hC hCd hCe hK2 hcut hes HNK2 hd34 hx hst h9 hx2 hlen hkd hN hM hST h3N hN2 hlv hA hk hZ hAns hbig
                  as_aux_lemma =>
                    go_wp2_with (first | (go_at_call 34; refine (frisketref04_WidthAt.calls K2 _ _ _ _ HV.out).mono ?_; rintro e w3 ⟨rfl, hd3⟩; have E3 := Aside0.mk (HS.out.below hd3.below); clear hd3))
                    go_wp2_with (first | (go_at_call 35; refine (HASK.out _).mono ?_; rintro e w4 ⟨rfl, hb4⟩; have E4a := E3.out.below hb4; have X4 := Aside0.mk E4a.newer; have E4 := Aside0.mk (E4a.below (below_alloc (Below.refl _ _) (.cells #[.int .u8 110, .string M, .int .i64 ST, .int .i64 (N : Int)] 80))); have G4 := Aside0.mk (blk_new w4 (.cells #[.int .u8 110, .string M, .int .i64 ST, .int .i64 (N : Int)] 80)); have lc4 := (blk_cell E4.out.lf 0).trans (show _ = some (.int .i64 lv) from rfl); have lz4 := blk_frozen E4.out.lf 0; have E5 := Aside0.mk (E4.out.dec lv1); have hg5 := blk_far (p := ⟨lb, 0, none⟩) G4.out (fun e => X4.out (Or.inr e)) (.int .i64 lv1); have G5 := Aside0.mk hg5; have q50 := (blk_cell hg5 0).trans (show _ = some (.int .u8 110) from rfl); have q51 := (blk_cell hg5 1).trans (show _ = some (.string M) from rfl); have q52 := (blk_cell hg5 2).trans (show _ = some (.int .i64 ST) from rfl); have lc5 := (blk_cell E5.out.lf 0).trans (show _ = some (.int .i64 lv1) from rfl); clear hb4 E4a hg5))
                    go_wp2_with (first | (go_at_call 21; refine (HAN.out _ E5.out.tl).mono ?_; rintro e w6 ⟨rfl, ht6, hf6⟩; have E6 := Aside0.mk (E5.out.asked ht6 hf6); have hg6 := hf6.at G5.out (fun e => X4.out (Or.inl e)) (by decide); have q60 : w6.cell? ⟨w4.heap.size, 0, none⟩ = some (.int .u8 110) := (blk_cell hg6 0).trans rfl; have q63 : w6.cell? ⟨w4.heap.size, 3, none⟩ = some (.int .i64 (N : Int)) := (blk_cell hg6 3).trans rfl; clear ht6 hf6 hg6))
                    go_roundg (k1 * 8002 + ((92 :: d :: u).drop N).length + 1)
                    case measure => exact HM.out
                    case rel => exact ⟨k1, out ++ anL L (askE x), (92 :: d :: u).drop N, A ++ [askE x], ⟨rfl, HR3.out, HF.out⟩, by rw [HZV.out], by rw [HOV.out], ⟨show Rs w0 w B lb tb L Aa ca (500 - ((A ++ [askE x]).length : Int)) (A ++ [askE x]) _ by rw [← HLX.out]; exact E6.out⟩⟩
              · have f0 : ((kd == 110) : Bool) = false := beq_eq_false_iff_ne.2 (by intro e; rw [← hkd] at e; exact hk (UInt8.toNat_inj.1 (by show x.kind.toNat = 110; omega)))
                obtain ⟨Z2, hZ3⟩ : ∃ Z2, ANS ++ Z = Z2 := ⟨_, rfl⟩
                have HZV := Aside0.mk (show mkB (anL L (askE x) ++ (92 :: d :: u).drop N) = Z2 by rw [← append_mkB, hZ, ← hZ3, ← HAM.out])
                have HOV := Aside0.mk (show O = mkB out from hO.symm)
                have k18 : ((9223372036854775807 : Nat) < ANS.size + Z.size) = False := eq_false (by have := HX.out; have := HAB.out; have := HZ2.out; omega)
                have HOZ := Aside0.mk (show O.size ≤ 8000 ∧ Z2.size ≤ 200000 by have h1 : Z2.size = ANS.size + Z.size := by { rw [← hZ3, ByteArray.size_append] }; have := HOS.out; have := HX.out; have := HAB.out; have := HZ2.out; omega)
                have HOL := Aside0.mk (show out.length = O.size ∧ (anL L (askE x) ++ (92 :: d :: u).drop N).length = Z2.size by rw [← HZV.out, ← hO, size_mkB, size_mkB]; exact ⟨rfl, rfl⟩)
                have HR2 := Aside0.mk (show R = room (ex cp (anL L) k1) out (anL L (askE x) ++ (92 :: d :: u).drop N) (A ++ [askE x]) by rw [HRX.out, aOut, aRest, if_neg hk, if_neg hk, hN])
                have TW := Aside0.mk (show wrap64 ((O.size : Int) + (Z2.size : Int)) = (O.size : Int) + (Z2.size : Int) by
                  have h1 := HOZ.out
                  exact w64 (by omega) (by omega))
                by_cases hbig : (8000 : Int) < (O.size : Int) + (Z2.size : Int)
                · have e1 : decide ((8000 : Int) < wrap64 ((O.size : Int) + (Z2.size : Int))) = true := by rw [TW.out]; exact decide_eq_true hbig
                  have e2 : ((8000 : Int) < wrap64 ((O.size : Int) + (Z2.size : Int))) = True := by rw [TW.out]; exact eq_true hbig
                  have HR3 := Aside0.mk (show R = .lim (A ++ [askE x]) by rw [HR2.out, room_big]; have := HOL.out; omega)
                  rw [hS, hO]
                  clear hS hO H1 hsz hc0 hq hS3 hC hCd hCe hK2 hcut hes HNK2 hd34 hx hst h9 hx2 hlen hkd hN hM hST h3N hN2 hlv hA hk hZ hAns hbig
                  as_aux_lemma =>
                    go_wp2_with (first | (go_at_call 34; refine (frisketref04_WidthAt.calls K2 _ _ _ _ HV.out).mono ?_; rintro e w3 ⟨rfl, hd3⟩; have E3 := Aside0.mk (HS.out.below hd3.below); clear hd3))
                    go_wp2_with (first | (go_at_call 35; refine (HASK.out _).mono ?_; rintro e w4 ⟨rfl, hb4⟩; have E4a := E3.out.below hb4; have X4 := Aside0.mk E4a.newer; have E4 := Aside0.mk (E4a.below (below_alloc (Below.refl _ _) (.cells #[.int .u8 kd, .string M, .int .i64 ST, .int .i64 (N : Int)] 80))); have G4 := Aside0.mk (blk_new w4 (.cells #[.int .u8 kd, .string M, .int .i64 ST, .int .i64 (N : Int)] 80)); have lc4 := (blk_cell E4.out.lf 0).trans (show _ = some (.int .i64 lv) from rfl); have lz4 := blk_frozen E4.out.lf 0; have E5 := Aside0.mk (E4.out.dec lv1); have hg5 := blk_far (p := ⟨lb, 0, none⟩) G4.out (fun e => X4.out (Or.inr e)) (.int .i64 lv1); have G5 := Aside0.mk hg5; have q50 := (blk_cell hg5 0).trans (show _ = some (.int .u8 kd) from rfl); have q51 := (blk_cell hg5 1).trans (show _ = some (.string M) from rfl); have q52 := (blk_cell hg5 2).trans (show _ = some (.int .i64 ST) from rfl); have lc5 := (blk_cell E5.out.lf 0).trans (show _ = some (.int .i64 lv1) from rfl); clear hb4 E4a hg5))
                    go_wp2_with (first | (go_at_call 21; refine (HAN.out _ E5.out.tl).mono ?_; rintro e w6 ⟨rfl, ht6, hf6⟩; have E6 := Aside0.mk (E5.out.asked ht6 hf6); have hg6 := hf6.at G5.out (fun e => X4.out (Or.inl e)) (by decide); have q60 : w6.cell? ⟨w4.heap.size, 0, none⟩ = some (.int .u8 kd) := (blk_cell hg6 0).trans rfl; have q63 : w6.cell? ⟨w4.heap.size, 3, none⟩ = some (.int .i64 (N : Int)) := (blk_cell hg6 3).trans rfl; clear ht6 hf6 hg6))
                    refine bodyPost_ret (results_tmp2 rfl _ _ _) rfl ?_
                    rw [HR3.out]
                    exact ⟨rfl, _, E6.out⟩
                · have e1 : decide ((8000 : Int) < wrap64 ((O.size : Int) + (Z2.size : Int))) = false := by rw [TW.out]; exact decide_eq_false hbig
                  have e2 : ((8000 : Int) < wrap64 ((O.size : Int) + (Z2.size : Int))) = False := by rw [TW.out]; exact eq_false hbig
                  have HTOT := Aside0.mk (show (out).length + (anL L (askE x) ++ (92 :: d :: u).drop N).length ≤ 8000 by have := HOL.out; omega)
                  have HR3 := Aside0.mk (show ex cp (anL L) k1 (out) (anL L (askE x) ++ (92 :: d :: u).drop N) (A ++ [askE x]) = R by rw [HR2.out, room_ok]; have := HTOT.out; omega)
                  have HF := Aside0.mk (show need (A ++ [askE x]) (anL L (askE x) ++ (92 :: d :: u).drop N) < k1 ∧ (out).length + (anL L (askE x) ++ (92 :: d :: u).drop N).length ≤ 8000 ∧ k1 ≤ n ∧ (A ++ [askE x]).length ≤ 500 from ⟨HNEED.out _ (by have := HTOT.out; omega), HTOT.out, by have := HQ.out; omega, by have := HA1.out; omega⟩)
                  have HM := Aside0.mk (show k1 * 8002 + (anL L (askE x) ++ (92 :: d :: u).drop N).length + 1 < (k1 + 1) * 8002 + (92 :: d :: u).length + 1 by have := HTOT.out; omega)
                  rw [hS, hO]
                  clear hS hO H1 hsz hc0 hq hS3 hC hCd hCe hK2 hcut hes HNK2 hd34 hx hst h9 hx2 hlen hkd hN hM hST h3N hN2 hlv hA hk hZ hAns hbig
                  as_aux_lemma =>
                    go_wp2_with (first | (go_at_call 34; refine (frisketref04_WidthAt.calls K2 _ _ _ _ HV.out).mono ?_; rintro e w3 ⟨rfl, hd3⟩; have E3 := Aside0.mk (HS.out.below hd3.below); clear hd3))
                    go_wp2_with (first | (go_at_call 35; refine (HASK.out _).mono ?_; rintro e w4 ⟨rfl, hb4⟩; have E4a := E3.out.below hb4; have X4 := Aside0.mk E4a.newer; have E4 := Aside0.mk (E4a.below (below_alloc (Below.refl _ _) (.cells #[.int .u8 kd, .string M, .int .i64 ST, .int .i64 (N : Int)] 80))); have G4 := Aside0.mk (blk_new w4 (.cells #[.int .u8 kd, .string M, .int .i64 ST, .int .i64 (N : Int)] 80)); have lc4 := (blk_cell E4.out.lf 0).trans (show _ = some (.int .i64 lv) from rfl); have lz4 := blk_frozen E4.out.lf 0; have E5 := Aside0.mk (E4.out.dec lv1); have hg5 := blk_far (p := ⟨lb, 0, none⟩) G4.out (fun e => X4.out (Or.inr e)) (.int .i64 lv1); have G5 := Aside0.mk hg5; have q50 := (blk_cell hg5 0).trans (show _ = some (.int .u8 kd) from rfl); have q51 := (blk_cell hg5 1).trans (show _ = some (.string M) from rfl); have q52 := (blk_cell hg5 2).trans (show _ = some (.int .i64 ST) from rfl); have lc5 := (blk_cell E5.out.lf 0).trans (show _ = some (.int .i64 lv1) from rfl); clear hb4 E4a hg5))
                    go_wp2_with (first | (go_at_call 21; refine (HAN.out _ E5.out.tl).mono ?_; rintro e w6 ⟨rfl, ht6, hf6⟩; have E6 := Aside0.mk (E5.out.asked ht6 hf6); have hg6 := hf6.at G5.out (fun e => X4.out (Or.inl e)) (by decide); have q60 : w6.cell? ⟨w4.heap.size, 0, none⟩ = some (.int .u8 kd) := (blk_cell hg6 0).trans rfl; have q63 : w6.cell? ⟨w4.heap.size, 3, none⟩ = some (.int .i64 (N : Int)) := (blk_cell hg6 3).trans rfl; clear ht6 hf6 hg6))
                    go_roundg (k1 * 8002 + (anL L (askE x) ++ (92 :: d :: u).drop N).length + 1)
                    case measure => exact HM.out
                    case rel => exact ⟨k1, out, anL L (askE x) ++ (92 :: d :: u).drop N, A ++ [askE x], ⟨rfl, HR3.out, HF.out⟩, by rw [HZV.out], by rw [HOV.out], ⟨show Rs w0 w B lb tb L Aa ca (500 - ((A ++ [askE x]).length : Int)) (A ++ [askE x]) _ by rw [← HLX.out]; exact E6.out⟩⟩
          | none =>
            have HASK := Aside0.mk (fun W => at_no (92 :: d :: u) hq hes W)
            rw [hS] at HASK
            have hlen : (92 :: d :: u : List UInt8).length = u.length + 2 := rfl
            cases hz : widC cp (92 :: d :: u) with
            | some z =>
              obtain ⟨rfl, hwd⟩ := widC_ok hz
              have hd34 : d ≠ 34 := by
                intro e
                rw [e, wid_at34] at hwd
                cases hwd
              have f1 : ((C == 34) : Bool) = false := hCd 34 hd34
              have hwz := wid_ok hwd
              rw [hlen] at hwz
              obtain ⟨N, hN⟩ : ∃ N, z.2 = N := ⟨_, rfl⟩
              obtain ⟨T, hT⟩ : ∃ T, mkB z.1 = T := ⟨_, rfl⟩
              have HV := Aside0.mk (show frisketref04_WidthAt.f K2 S = some (T, (N : Int)) by rw [hK2, hwd, ← hT, ← hN]; rfl)
              have hN4 : z.1.length + 4 = N ∧ N ≤ u.length + 2 := by rw [← hN]; omega
              have t5 : (0 ≤ (N : Int)) = True := eq_true (by omega)
              have t6 : ((N : Int) ≤ (S.size : Int)) = True := eq_true (by omega)
              have t7 : (N ≤ S.size) = True := eq_true (by omega)
              have y1 : decide ((0 : Int) < (N : Int)) = true := decide_eq_true (by omega)
              have y2 : ((0 : Int) < (N : Int)) = True := eq_true (by omega)
              have y3 : (0 < N) = True := eq_true (by omega)
              have HZL := Aside0.mk hN4
              have HIN0 := Aside0.mk (show ∀ W, Rs w0 w B lb tb L Aa ca (500 - (A.length : Int)) A W → Calls Try.prog 24 #[.pointer (some ⟨tb, 0, none⟩), .string T, .bool false, .pointer (some ⟨lb, 0, none⟩)] W (fun e w' => DoneR w0 w B lb tb L Aa ca (ex false (anL L) k1 [] z.1 A) e w') by
                intro W h
                rw [← hT]
                refine (IH.out k1 (by have := HQ.out; omega) false z.1 A (HNK2 z.1 (by rw [hlen]; omega)) (by have := HX.out; omega) (by have := HQ.out; omega) W h.start).mono ?_
                intro e w' hd
                cases hr : ex false (anL L) k1 [] z.1 A with
                | ok i A1 => rw [hr] at hd; exact ⟨hd.1, h.inner hd.2⟩
                | lim A1 => rw [hr] at hd; obtain ⟨h1, lv, h2⟩ := hd; exact ⟨h1, lv, h.inner h2⟩)
              have hgr := ex_grows (cp := false) (an := anL L) k1 [] z.1 A
              have hmo := ex_most (cp := false) (an := anL L) k1 [] z.1 A (by have := HQ.out; omega)
              cases hin : ex false (anL L) k1 [] z.1 A with
              | lim A1 =>
                rw [hin] at HIN0
                have HIN := Aside0.mk (show ∀ W, Rs w0 w B lb tb L Aa ca (500 - (A.length : Int)) A W → Calls Try.prog 24 #[.pointer (some ⟨tb, 0, none⟩), .string T, .bool false, .pointer (some ⟨lb, 0, none⟩)] W (fun e w' => e = .returned (.tuple #[.string ⟨#[]⟩, .bool false]) ∧ ∃ lv, Rs w0 w B lb tb L Aa ca lv A1 w') from HIN0.out)
                have HR3 := Aside0.mk (show R = .lim A1 by rw [← H1.out.1, ex_wlim hcut hes hz hin])
                rw [hS, hO]
                clear hS hO H1 hsz hc0 hq hS3 hC hCd hCe hK2 hcut hes HNK2 hlen hz hwd hd34 hwz hN hT hN4 HIN0 hgr hmo hin
                as_aux_lemma =>
                  go_wp2_with (first | (go_at_call 34; refine (frisketref04_WidthAt.calls K2 _ _ _ _ HV.out).mono ?_; rintro e w3 ⟨rfl, hd3⟩; have E3 := Aside0.mk (HS.out.below hd3.below); clear hd3))
                  go_wp2_with (first | (go_at_call 35; refine (HASK.out _).mono ?_; rintro e w4 ⟨v0, v1, v2, v3, rfl, hb4⟩; have E4 := Aside0.mk ((E3.out.below hb4).below (below_alloc (Below.refl _ _) (.cells #[.int .u8 v0, .string v1, .int .i64 v2, .int .i64 v3] 80))); clear hb4))
                  go_wp2_with (first | (go_at_call 24; refine (HIN.out _ E4.out).mono ?_; rintro e w5 ⟨rfl, lv, hs5⟩; have E5 := Aside0.mk hs5; have lc5 := (blk_cell hs5.lf 0).trans (show _ = some (.int .i64 lv) from rfl); have lz5 := blk_frozen hs5.lf 0; have E6 := Aside0.mk (hs5.dec (wrap64 (lv - 1))); clear hs5))
                  refine bodyPost_ret (results_tmp2 rfl _ _ _) rfl ?_
                  rw [HR3.out]
                  exact ⟨rfl, _, E6.out⟩
              | ok ib A1 =>
                rw [hin] at HIN0 hgr hmo
                have hsm := ex_small k1 [] z.1 A (by have := HX.out; simp only [List.length_nil]; omega) ib A1 hin
                have hgr : A.length ≤ A1.length := hgr
                have hmo : A1.length ≤ 500 := hmo
                obtain ⟨I, hI⟩ : ∃ I, mkB ib = I := ⟨_, rfl⟩
                obtain ⟨lv, hlv⟩ : ∃ lv : Int, 500 - (A1.length : Int) = lv := ⟨_, rfl⟩
                obtain ⟨lv1, hlv1⟩ : ∃ lv1 : Int, wrap64 (lv - 1) = lv1 := ⟨_, rfl⟩
                have HLV := Aside0.mk (show lv1 = 499 - (A1.length : Int) by rw [← hlv1, w64 (by omega) (by omega)]; omega)
                have HIN := Aside0.mk (show ∀ W, Rs w0 w B lb tb L Aa ca (500 - (A.length : Int)) A W → Calls Try.prog 24 #[.pointer (some ⟨tb, 0, none⟩), .string T, .bool false, .pointer (some ⟨lb, 0, none⟩)] W (fun e w' => e = .returned (.tuple #[.string I, .bool true]) ∧ Rs w0 w B lb tb L Aa ca lv A1 w') by rw [← hI, ← hlv]; exact HIN0.out)
                by_cases hA : 500 ≤ A1.length
                · have d1 : decide (lv1 < 0) = true := decide_eq_true (by have := HLV.out; omega)
                  have d2 : (lv1 < 0) = True := eq_true (by have := HLV.out; omega)
                  have HR3 := Aside0.mk (show R = .lim A1 by rw [← H1.out.1, ex_wfull hcut hes hz hin hA])
                  rw [hS, hO]
                  clear hS hO H1 hsz hc0 hq hS3 hC hCd hCe hK2 hcut hes HNK2 hlen hz hwd hd34 hwz hN hT hN4 HIN0 hgr hmo hin hsm hI hlv hA
                  as_aux_lemma =>
                    go_wp2_with (first | (go_at_call 34; refine (frisketref04_WidthAt.calls K2 _ _ _ _ HV.out).mono ?_; rintro e w3 ⟨rfl, hd3⟩; have E3 := Aside0.mk (HS.out.below hd3.below); clear hd3))
                    go_wp2_with (first | (go_at_call 35; refine (HASK.out _).mono ?_; rintro e w4 ⟨v0, v1, v2, v3, rfl, hb4⟩; have E4 := Aside0.mk ((E3.out.below hb4).below (below_alloc (Below.refl _ _) (.cells #[.int .u8 v0, .string v1, .int .i64 v2, .int .i64 v3] 80))); clear hb4))
                    go_wp2_with (first | (go_at_call 24; refine (HIN.out _ E4.out).mono ?_; rintro e w5 ⟨rfl, hs5⟩; have E5 := Aside0.mk hs5; have lc5 := (blk_cell hs5.lf 0).trans (show _ = some (.int .i64 lv) from rfl); have lz5 := blk_frozen hs5.lf 0; have E6 := Aside0.mk (hs5.dec lv1); have lc6 := (blk_cell E6.out.lf 0).trans (show _ = some (.int .i64 lv1) from rfl); clear hs5))
                    refine bodyPost_ret (results_tmp2 rfl _ _ _) rfl ?_
                    rw [HR3.out]
                    exact ⟨rfl, _, E6.out⟩
                · have d1 : decide (lv1 < 0) = false := decide_eq_false (by have := HLV.out; omega)
                  have d2 : (lv1 < 0) = False := eq_false (by have := HLV.out; omega)
                  obtain ⟨ANS, hAns⟩ : ∃ Z, ansB L ⟨119, ib, 0⟩ = Z := ⟨_, rfl⟩
                  obtain ⟨Z, hZ⟩ : ∃ Z, mkB ((92 :: d :: u).drop N) = Z := ⟨_, rfl⟩
                  have HAN := Aside0.mk (show ∀ W, Tl 38 w0 B tb L Aa ca A1 W → Calls Try.prog 21 #[.pointer (some ⟨tb, 0, none⟩), .agg #[.int .u8 119, .string I, .int .i64 0]] W fun e w' => e = .returned (.string ANS) ∧ Tl 38 w0 B tb L Aa ca (A1 ++ [(⟨119, ib, 0⟩ : As)]) w' ∧ Fr B (fun k => k = tb) W w' by
                    intro W h
                    rw [← hI, ← hAns]
                    exact ans_calls 38 (by decide) w0 B tb L HL.out Aa ca A1 ⟨119, ib, 0⟩ W h (by omega) hsm (show (-10 : Int) ≤ 0 ∧ (0 : Int) ≤ 10 by decide))
                  have HAL := Aside0.mk (show ANS.data.toList = anL L ⟨119, ib, 0⟩ by rw [← hAns]; rfl)
                  have HAB := Aside0.mk (show ANS.size ≤ 100000 by have h := HLS.out ⟨119, ib, 0⟩; rw [anL, hAns, Array.length_toList] at h; exact h)
                  have HAM := Aside0.mk (show ANS = mkB (anL L ⟨119, ib, 0⟩) by rw [← HAL.out]; exact mkB_data _)
                  have g3 : S.extract N S.size = Z := by rw [← hS, extract_mkB, size_mkB, List.take_length, hZ]
                  have HZ2 := Aside0.mk (show Z.size + N = u.length + 2 by rw [← hZ, size_mkB, List.length_drop, hlen]; omega)
                  have HA1 := Aside0.mk (show (A1 ++ [(⟨119, ib, 0⟩ : As)]).length = A1.length + 1 ∧ A1.length < 500 by rw [List.length_append, List.length_cons, List.length_nil]; omega)
                  have HNEED := Aside0.mk (fun (s1 : List UInt8) (h8 : s1.length ≤ 8000) => (by have h1 := need_less (A := A) (A1 := A1 ++ [(⟨119, ib, 0⟩ : As)]) (s := 92 :: d :: u) (s1 := s1) (by omega) (by rw [List.length_append, List.length_cons, List.length_nil]; omega) h8; have := HQ.out; omega : need (A1 ++ [(⟨119, ib, 0⟩ : As)]) s1 < k1))
                  have HLX := Aside0.mk (show lv1 = 500 - ((A1 ++ [(⟨119, ib, 0⟩ : As)]).length : Int) by rw [HA1.out.1]; have := HLV.out; omega)
                  obtain ⟨O2, hO2⟩ : ∃ O2, O ++ ANS = O2 := ⟨_, rfl⟩
                  have HOV := Aside0.mk (show O2 = mkB (out ++ anL L ⟨119, ib, 0⟩) by rw [← hO2, ← hO, HAM.out, append_mkB])
                  have k18 : ((9223372036854775807 : Nat) < O.size + ANS.size) = False := eq_false (by have := HOS.out; have := HX.out; have := HAB.out; omega)
                  have HOZ := Aside0.mk (show O2.size ≤ 200000 ∧ Z.size ≤ 8000 by have h1 : O2.size = O.size + ANS.size := by { rw [← hO2, ByteArray.size_append] }; have := HOS.out; have := HX.out; have := HAB.out; have := HZ2.out; omega)
                  have HOL := Aside0.mk (show (out ++ anL L ⟨119, ib, 0⟩).length = O2.size ∧ ((92 :: d :: u).drop N).length = Z.size by rw [HOV.out, ← hZ, size_mkB, size_mkB]; exact ⟨rfl, rfl⟩)
                  have HR2 := Aside0.mk (show R = room (ex false (anL L) k1) (out ++ anL L ⟨119, ib, 0⟩) ((92 :: d :: u).drop N) (A1 ++ [(⟨119, ib, 0⟩ : As)]) by rw [← H1.out.1, ex_wid hcut hes hz hin (by omega), List.append_nil, hN])
                  have HZV := Aside0.mk hZ
                  have TW := Aside0.mk (show wrap64 ((O2.size : Int) + (Z.size : Int)) = (O2.size : Int) + (Z.size : Int) by
                    have h1 := HOZ.out
                    exact w64 (by omega) (by omega))
                  by_cases hbig : (8000 : Int) < (O2.size : Int) + (Z.size : Int)
                  · have e1 : decide ((8000 : Int) < wrap64 ((O2.size : Int) + (Z.size : Int))) = true := by rw [TW.out]; exact decide_eq_true hbig
                    have e2 : ((8000 : Int) < wrap64 ((O2.size : Int) + (Z.size : Int))) = True := by rw [TW.out]; exact eq_true hbig
                    have HR3 := Aside0.mk (show R = .lim (A1 ++ [(⟨119, ib, 0⟩ : As)]) by rw [HR2.out, room_big]; have := HOL.out; omega)
                    rw [hS, hO]
                    clear hS hO H1 hsz hc0 hq hS3 hC hCd hCe hK2 hcut hes HNK2 hlen hz hwd hd34 hwz hN hT hN4 HIN0 hgr hmo hin hsm hI hlv hA hZ hAns hbig
                    as_aux_lemma =>
                      go_wp2_with (first | (go_at_call 34; refine (frisketref04_WidthAt.calls K2 _ _ _ _ HV.out).mono ?_; rintro e w3 ⟨rfl, hd3⟩; have E3 := Aside0.mk (HS.out.below hd3.below); clear hd3))
                      go_wp2_with (first | (go_at_call 35; refine (HASK.out _).mono ?_; rintro e w4 ⟨v0, v1, v2, v3, rfl, hb4⟩; have E4 := Aside0.mk ((E3.out.below hb4).below (below_alloc (Below.refl _ _) (.cells #[.int .u8 v0, .string v1, .int .i64 v2, .int .i64 v3] 80))); clear hb4))
                      go_wp2_with (first | (go_at_call 24; refine (HIN.out _ E4.out).mono ?_; rintro e w5 ⟨rfl, hs5⟩; have E5 := Aside0.mk hs5; have lc5 := (blk_cell hs5.lf 0).trans (show _ = some (.int .i64 lv) from rfl); have lz5 := blk_frozen hs5.lf 0; have E6 := Aside0.mk (hs5.dec lv1); have lc6 := (blk_cell E6.out.lf 0).trans (show _ = some (.int .i64 lv1) from rfl); clear hs5))
                      go_wp2_with (first | (go_at_call 21; refine (HAN.out _ E6.out.tl).mono ?_; rintro e w7 ⟨rfl, ht7, hf7⟩; have E7 := Aside0.mk (E6.out.asked ht7 hf7); clear ht7 hf7))
                      refine bodyPost_ret (results_tmp2 rfl _ _ _) rfl ?_
                      rw [HR3.out]
                      exact ⟨rfl, _, E7.out⟩
                  · have e1 : decide ((8000 : Int) < wrap64 ((O2.size : Int) + (Z.size : Int))) = false := by rw [TW.out]; exact decide_eq_false hbig
                    have e2 : ((8000 : Int) < wrap64 ((O2.size : Int) + (Z.size : Int))) = False := by rw [TW.out]; exact eq_false hbig
                    have HTOT := Aside0.mk (show (out ++ anL L ⟨119, ib, 0⟩).length + ((92 :: d :: u).drop N).length ≤ 8000 by have := HOL.out; omega)
                    have HR3 := Aside0.mk (show ex false (anL L) k1 (out ++ anL L ⟨119, ib, 0⟩) ((92 :: d :: u).drop N) (A1 ++ [(⟨119, ib, 0⟩ : As)]) = R by rw [HR2.out, room_ok]; have := HTOT.out; omega)
                    have HF := Aside0.mk (show need (A1 ++ [(⟨119, ib, 0⟩ : As)]) ((92 :: d :: u).drop N) < k1 ∧ (out ++ anL L ⟨119, ib, 0⟩).length + ((92 :: d :: u).drop N).length ≤ 8000 ∧ k1 ≤ n ∧ (A1 ++ [(⟨119, ib, 0⟩ : As)]).length ≤ 500 from ⟨HNEED.out _ (by have := HTOT.out; omega), HTOT.out, by have := HQ.out; omega, by have := HA1.out; omega⟩)
                    have HM := Aside0.mk (show k1 * 8002 + ((92 :: d :: u).drop N).length + 1 < (k1 + 1) * 8002 + (92 :: d :: u).length + 1 by have := HTOT.out; omega)
                    rw [hS, hO]
                    clear hS hO H1 hsz hc0 hq hS3 hC hCd hCe hK2 hcut hes HNK2 hlen hz hwd hd34 hwz hN hT hN4 HIN0 hgr hmo hin hsm hI hlv hA hZ hAns hbig
                    as_aux_lemma =>
                      go_wp2_with (first | (go_at_call 34; refine (frisketref04_WidthAt.calls K2 _ _ _ _ HV.out).mono ?_; rintro e w3 ⟨rfl, hd3⟩; have E3 := Aside0.mk (HS.out.below hd3.below); clear hd3))
                      go_wp2_with (first | (go_at_call 35; refine (HASK.out _).mono ?_; rintro e w4 ⟨v0, v1, v2, v3, rfl, hb4⟩; have E4 := Aside0.mk ((E3.out.below hb4).below (below_alloc (Below.refl _ _) (.cells #[.int .u8 v0, .string v1, .int .i64 v2, .int .i64 v3] 80))); clear hb4))
                      go_wp2_with (first | (go_at_call 24; refine (HIN.out _ E4.out).mono ?_; rintro e w5 ⟨rfl, hs5⟩; have E5 := Aside0.mk hs5; have lc5 := (blk_cell hs5.lf 0).trans (show _ = some (.int .i64 lv) from rfl); have lz5 := blk_frozen hs5.lf 0; have E6 := Aside0.mk (hs5.dec lv1); have lc6 := (blk_cell E6.out.lf 0).trans (show _ = some (.int .i64 lv1) from rfl); clear hs5))
                      go_wp2_with (first | (go_at_call 21; refine (HAN.out _ E6.out.tl).mono ?_; rintro e w7 ⟨rfl, ht7, hf7⟩; have E7 := Aside0.mk (E6.out.asked ht7 hf7); clear ht7 hf7))
                      go_roundg (k1 * 8002 + ((92 :: d :: u).drop N).length + 1)
                      case measure => exact HM.out
                      case rel => exact ⟨k1, out ++ anL L ⟨119, ib, 0⟩, (92 :: d :: u).drop N, A1 ++ [(⟨119, ib, 0⟩ : As)], ⟨rfl, HR3.out, HF.out⟩, by rw [HZV.out], by rw [HOV.out], ⟨show Rs w0 w B lb tb L Aa ca (500 - ((A1 ++ [(⟨119, ib, 0⟩ : As)]).length : Int)) (A1 ++ [(⟨119, ib, 0⟩ : As)]) _ by rw [← HLX.out]; exact E7.out⟩⟩
            | none =>
              obtain ⟨T9, n9, h9⟩ : ∃ (T9 : ByteArray) (n9 : Int), widR (wid (92 :: d :: u)) = (T9, n9) := ⟨_, _, rfl⟩
              rw [h9] at hK2
              have HV := Aside0.mk hK2
              have HRX := Aside0.mk (show R = exTail cp (fun o s => ex cp (anL L) k1 o s A) out A (d :: u) by rw [← H1.out.1, ex_tail hcut hes hz, List.append_nil])
              cases cp with
              | false =>
                have hw : wid (92 :: d :: u) = none := by simpa [widC] using hz
                obtain rfl : (-1 : Int) = n9 := by rw [hw] at h9; exact congrArg Prod.snd h9
                have y1 : decide ((0 : Int) < -1) = false := by decide
                clear hw
                by_cases h34 : d = 34
                · have f1 : ((C == 34) : Bool) = true := hCe 34 h34
                  have HR3 := Aside0.mk (show R = .ok out A by rw [HRX.out, exTail, if_pos h34])
                  have HOV := Aside0.mk hO
                  rw [hS, hO]
                  clear hS hO H1 hsz hc0 hq hS3 hC hCd hCe hK2 hcut hes HNK2 hlen hz h9 h34
                  as_aux_lemma =>
                    go_wp2_with (first | (go_at_call 34; refine (frisketref04_WidthAt.calls K2 _ _ _ _ HV.out).mono ?_; rintro e w3 ⟨rfl, hd3⟩; have E3 := Aside0.mk (HS.out.below hd3.below); clear hd3))
                    go_wp2_with (first | (go_at_call 35; refine (HASK.out _).mono ?_; rintro e w4 ⟨v0, v1, v2, v3, rfl, hb4⟩; have E4 := Aside0.mk ((E3.out.below hb4).below (below_alloc (Below.refl _ _) (.cells #[.int .u8 v0, .string v1, .int .i64 v2, .int .i64 v3] 80))); clear hb4))
                    refine bodyPost_ret (results_tmp2 rfl _ _ _) rfl ?_
                    rw [HR3.out]
                    exact ⟨congrArg (fun s => Ending.returned (.tuple #[.string s, .bool true])) HOV.out.symm, E4.out⟩
                · have f1 : ((C == 34) : Bool) = false := hCd 34 h34
                  by_cases h110 : d = 110
                  · have f110 : ((C == 110) : Bool) = true := hCe 110 h110
                    obtain ⟨Z, hZ⟩ : ∃ Z, mkB (d :: u) = Z := ⟨_, rfl⟩
                    have HZV := Aside0.mk hZ
                    have g3 : S.extract 1 S.size = Z := by rw [← hS, ← hZ, extract_mkB, size_mkB, List.take_length]; rfl
                    obtain ⟨C1, hC1⟩ : ∃ Z, mkB [92] = Z := ⟨_, rfl⟩
                    have g4 : S.extract 0 1 = C1 := by rw [← hS, ← hC1, extract_mkB]; rfl
                    obtain ⟨O2, hO2⟩ : ∃ O2, O ++ C1 = O2 := ⟨_, rfl⟩
                    have HOV := Aside0.mk (show O2 = mkB (out ++ [92]) by rw [← hO2, ← hO, ← hC1, append_mkB])
                    have k18 : ((9223372036854775807 : Nat) < O.size + C1.size) = False := eq_false (by rw [← hC1, size_mkB]; have := HOS.out; have := HX.out; simp only [List.length_cons, List.length_nil]; omega)
                    have HOZ := Aside0.mk (show O2.size + Z.size ≤ 8000 by rw [HOV.out, ← hZ, size_mkB, size_mkB]; have := HX.out; simp only [List.length_append, List.length_cons, List.length_nil]; omega)
                    have e1 : decide ((8000 : Int) < wrap64 ((O2.size : Int) + (Z.size : Int))) = false := by have h1 := HOZ.out; rw [w64 (by omega) (by omega)]; exact decide_eq_false (by omega)
                    have e2 : ((8000 : Int) < wrap64 ((O2.size : Int) + (Z.size : Int))) = False := by have h1 := HOZ.out; rw [w64 (by omega) (by omega)]; exact eq_false (by omega)
                    have HR3 := Aside0.mk (show ex false (anL L) k1 (out ++ [92]) (d :: u) A = R by rw [HRX.out, exTail, if_neg h34, if_pos (by rw [h110]; rfl)])
                    have HF := Aside0.mk (show need A (d :: u) < k1 ∧ (out ++ [92]).length + (d :: u).length ≤ 8000 ∧ k1 ≤ n ∧ A.length ≤ 500 from ⟨HNK2 _ (by simp only [List.length_cons]; omega), by simp only [List.length_append, List.length_cons, List.length_nil]; have := HX.out; omega, by have := HQ.out; omega, by have := HQ.out; omega⟩)
                    have HM := Aside0.mk (show k1 * 8002 + (d :: u).length + 1 < (k1 + 1) * 8002 + (92 :: d :: u).length + 1 by have := HX.out; simp only [List.length_cons]; omega)
                    rw [hS, hO]
                    clear hS hO H1 hsz hc0 hq hS3 hC hCd hCe hK2 hcut hes HNK2 hlen hz h9 hZ hC1 h34 h110
                    as_aux_lemma =>
                      go_wp2_with (first | (go_at_call 34; refine (frisketref04_WidthAt.calls K2 _ _ _ _ HV.out).mono ?_; rintro e w3 ⟨rfl, hd3⟩; have E3 := Aside0.mk (HS.out.below hd3.below); clear hd3))
                      go_wp2_with (first | (go_at_call 35; refine (HASK.out _).mono ?_; rintro e w4 ⟨v0, v1, v2, v3, rfl, hb4⟩; have E4 := Aside0.mk ((E3.out.below hb4).below (below_alloc (Below.refl _ _) (.cells #[.int .u8 v0, .string v1, .int .i64 v2, .int .i64 v3] 80))); clear hb4))
                      go_roundg (k1 * 8002 + (d :: u).length + 1)
                      case measure => exact HM.out
                      case rel => exact ⟨k1, out ++ [92], d :: u, A, ⟨rfl, HR3.out, HF.out⟩, by rw [HZV.out], by rw [HOV.out], E4⟩
                  · have f110 : ((C == 110) : Bool) = false := hCd 110 h110
                    by_cases h42 : d = 42
                    · have f42 : ((C == 42) : Bool) = true := hCe 42 h42
                      obtain ⟨Z, hZ⟩ : ∃ Z, mkB (d :: u) = Z := ⟨_, rfl⟩
                      have HZV := Aside0.mk hZ
                      have g3 : S.extract 1 S.size = Z := by rw [← hS, ← hZ, extract_mkB, size_mkB, List.take_length]; rfl
                      obtain ⟨C1, hC1⟩ : ∃ Z, mkB [92] = Z := ⟨_, rfl⟩
                      have g4 : S.extract 0 1 = C1 := by rw [← hS, ← hC1, extract_mkB]; rfl
                      obtain ⟨O2, hO2⟩ : ∃ O2, O ++ C1 = O2 := ⟨_, rfl⟩
                      have HOV := Aside0.mk (show O2 = mkB (out ++ [92]) by rw [← hO2, ← hO, ← hC1, append_mkB])
                      have k18 : ((9223372036854775807 : Nat) < O.size + C1.size) = False := eq_false (by rw [← hC1, size_mkB]; have := HOS.out; have := HX.out; simp only [List.length_cons, List.length_nil]; omega)
                      have HOZ := Aside0.mk (show O2.size + Z.size ≤ 8000 by rw [HOV.out, ← hZ, size_mkB, size_mkB]; have := HX.out; simp only [List.length_append, List.length_cons, List.length_nil]; omega)
                      have e1 : decide ((8000 : Int) < wrap64 ((O2.size : Int) + (Z.size : Int))) = false := by have h1 := HOZ.out; rw [w64 (by omega) (by omega)]; exact decide_eq_false (by omega)
                      have e2 : ((8000 : Int) < wrap64 ((O2.size : Int) + (Z.size : Int))) = False := by have h1 := HOZ.out; rw [w64 (by omega) (by omega)]; exact eq_false (by omega)
                      have HR3 := Aside0.mk (show ex false (anL L) k1 (out ++ [92]) (d :: u) A = R by rw [HRX.out, exTail, if_neg h34, if_pos (by rw [h42]; rfl)])
                      have HF := Aside0.mk (show need A (d :: u) < k1 ∧ (out ++ [92]).length + (d :: u).length ≤ 8000 ∧ k1 ≤ n ∧ A.length ≤ 500 from ⟨HNK2 _ (by simp only [List.length_cons]; omega), by simp only [List.length_append, List.length_cons, List.length_nil]; have := HX.out; omega, by have := HQ.out; omega, by have := HQ.out; omega⟩)
                      have HM := Aside0.mk (show k1 * 8002 + (d :: u).length + 1 < (k1 + 1) * 8002 + (92 :: d :: u).length + 1 by have := HX.out; simp only [List.length_cons]; omega)
                      rw [hS, hO]
                      clear hS hO H1 hsz hc0 hq hS3 hC hCd hCe hK2 hcut hes HNK2 hlen hz h9 hZ hC1 h34 h42 h110
                      as_aux_lemma =>
                        go_wp2_with (first | (go_at_call 34; refine (frisketref04_WidthAt.calls K2 _ _ _ _ HV.out).mono ?_; rintro e w3 ⟨rfl, hd3⟩; have E3 := Aside0.mk (HS.out.below hd3.below); clear hd3))
                        go_wp2_with (first | (go_at_call 35; refine (HASK.out _).mono ?_; rintro e w4 ⟨v0, v1, v2, v3, rfl, hb4⟩; have E4 := Aside0.mk ((E3.out.below hb4).below (below_alloc (Below.refl _ _) (.cells #[.int .u8 v0, .string v1, .int .i64 v2, .int .i64 v3] 80))); clear hb4))
                        go_roundg (k1 * 8002 + (d :: u).length + 1)
                        case measure => exact HM.out
                        case rel => exact ⟨k1, out ++ [92], d :: u, A, ⟨rfl, HR3.out, HF.out⟩, by rw [HZV.out], by rw [HOV.out], E4⟩
                    · have f42 : ((C == 42) : Bool) = false := hCd 42 h42
                      by_cases h36 : d = 36
                      · have f36 : ((C == 36) : Bool) = true := hCe 36 h36
                        obtain ⟨Z, hZ⟩ : ∃ Z, mkB (d :: u) = Z := ⟨_, rfl⟩
                        have HZV := Aside0.mk hZ
                        have g3 : S.extract 1 S.size = Z := by rw [← hS, ← hZ, extract_mkB, size_mkB, List.take_length]; rfl
                        obtain ⟨C1, hC1⟩ : ∃ Z, mkB [92] = Z := ⟨_, rfl⟩
                        have g4 : S.extract 0 1 = C1 := by rw [← hS, ← hC1, extract_mkB]; rfl
                        obtain ⟨O2, hO2⟩ : ∃ O2, O ++ C1 = O2 := ⟨_, rfl⟩
                        have HOV := Aside0.mk (show O2 = mkB (out ++ [92]) by rw [← hO2, ← hO, ← hC1, append_mkB])
                        have k18 : ((9223372036854775807 : Nat) < O.size + C1.size) = False := eq_false (by rw [← hC1, size_mkB]; have := HOS.out; have := HX.out; simp only [List.length_cons, List.length_nil]; omega)
                        have HOZ := Aside0.mk (show O2.size + Z.size ≤ 8000 by rw [HOV.out, ← hZ, size_mkB, size_mkB]; have := HX.out; simp only [List.length_append, List.length_cons, List.length_nil]; omega)
                        have e1 : decide ((8000 : Int) < wrap64 ((O2.size : Int) + (Z.size : Int))) = false := by have h1 := HOZ.out; rw [w64 (by omega) (by omega)]; exact decide_eq_false (by omega)
                        have e2 : ((8000 : Int) < wrap64 ((O2.size : Int) + (Z.size : Int))) = False := by have h1 := HOZ.out; rw [w64 (by omega) (by omega)]; exact eq_false (by omega)
                        have HR3 := Aside0.mk (show ex false (anL L) k1 (out ++ [92]) (d :: u) A = R by rw [HRX.out, exTail, if_neg h34, if_pos (by rw [h36]; rfl)])
                        have HF := Aside0.mk (show need A (d :: u) < k1 ∧ (out ++ [92]).length + (d :: u).length ≤ 8000 ∧ k1 ≤ n ∧ A.length ≤ 500 from ⟨HNK2 _ (by simp only [List.length_cons]; omega), by simp only [List.length_append, List.length_cons, List.length_nil]; have := HX.out; omega, by have := HQ.out; omega, by have := HQ.out; omega⟩)
                        have HM := Aside0.mk (show k1 * 8002 + (d :: u).length + 1 < (k1 + 1) * 8002 + (92 :: d :: u).length + 1 by have := HX.out; simp only [List.length_cons]; omega)
                        rw [hS, hO]
                        clear hS hO H1 hsz hc0 hq hS3 hC hCd hCe hK2 hcut hes HNK2 hlen hz h9 hZ hC1 h34 h36 h110 h42
                        as_aux_lemma =>
                          go_wp2_with (first | (go_at_call 34; refine (frisketref04_WidthAt.calls K2 _ _ _ _ HV.out).mono ?_; rintro e w3 ⟨rfl, hd3⟩; have E3 := Aside0.mk (HS.out.below hd3.below); clear hd3))
                          go_wp2_with (first | (go_at_call 35; refine (HASK.out _).mono ?_; rintro e w4 ⟨v0, v1, v2, v3, rfl, hb4⟩; have E4 := Aside0.mk ((E3.out.below hb4).below (below_alloc (Below.refl _ _) (.cells #[.int .u8 v0, .string v1, .int .i64 v2, .int .i64 v3] 80))); clear hb4))
                          go_roundg (k1 * 8002 + (d :: u).length + 1)
                          case measure => exact HM.out
                          case rel => exact ⟨k1, out ++ [92], d :: u, A, ⟨rfl, HR3.out, HF.out⟩, by rw [HZV.out], by rw [HOV.out], E4⟩
                      · have f36 : ((C == 36) : Bool) = false := hCd 36 h36
                        by_cases h119 : d = 119
                        · have f119 : ((C == 119) : Bool) = true := hCe 119 h119
                          obtain ⟨Z, hZ⟩ : ∃ Z, mkB (d :: u) = Z := ⟨_, rfl⟩
                          have HZV := Aside0.mk hZ
                          have g3 : S.extract 1 S.size = Z := by rw [← hS, ← hZ, extract_mkB, size_mkB, List.take_length]; rfl
                          obtain ⟨C1, hC1⟩ : ∃ Z, mkB [92] = Z := ⟨_, rfl⟩
                          have g4 : S.extract 0 1 = C1 := by rw [← hS, ← hC1, extract_mkB]; rfl
                          obtain ⟨O2, hO2⟩ : ∃ O2, O ++ C1 = O2 := ⟨_, rfl⟩
                          have HOV := Aside0.mk (show O2 = mkB (out ++ [92]) by rw [← hO2, ← hO, ← hC1, append_mkB])
                          have k18 : ((9223372036854775807 : Nat) < O.size + C1.size) = False := eq_false (by rw [← hC1, size_mkB]; have := HOS.out; have := HX.out; simp only [List.length_cons, List.length_nil]; omega)
                          have HOZ := Aside0.mk (show O2.size + Z.size ≤ 8000 by rw [HOV.out, ← hZ, size_mkB, size_mkB]; have := HX.out; simp only [List.length_append, List.length_cons, List.length_nil]; omega)
                          have e1 : decide ((8000 : Int) < wrap64 ((O2.size : Int) + (Z.size : Int))) = false := by have h1 := HOZ.out; rw [w64 (by omega) (by omega)]; exact decide_eq_false (by omega)
                          have e2 : ((8000 : Int) < wrap64 ((O2.size : Int) + (Z.size : Int))) = False := by have h1 := HOZ.out; rw [w64 (by omega) (by omega)]; exact eq_false (by omega)
                          have HR3 := Aside0.mk (show ex false (anL L) k1 (out ++ [92]) (d :: u) A = R by rw [HRX.out, exTail, if_neg h34, if_pos (by rw [h119]; rfl)])
                          have HF := Aside0.mk (show need A (d :: u) < k1 ∧ (out ++ [92]).length + (d :: u).length ≤ 8000 ∧ k1 ≤ n ∧ A.length ≤ 500 from ⟨HNK2 _ (by simp only [List.length_cons]; omega), by simp only [List.length_append, List.length_cons, List.length_nil]; have := HX.out; omega, by have := HQ.out; omega, by have := HQ.out; omega⟩)
                          have HM := Aside0.mk (show k1 * 8002 + (d :: u).length + 1 < (k1 + 1) * 8002 + (92 :: d :: u).length + 1 by have := HX.out; simp only [List.length_cons]; omega)
                          rw [hS, hO]
                          clear hS hO H1 hsz hc0 hq hS3 hC hCd hCe hK2 hcut hes HNK2 hlen hz h9 hZ hC1 h34 h119 h110 h42 h36
                          as_aux_lemma =>
                            go_wp2_with (first | (go_at_call 34; refine (frisketref04_WidthAt.calls K2 _ _ _ _ HV.out).mono ?_; rintro e w3 ⟨rfl, hd3⟩; have E3 := Aside0.mk (HS.out.below hd3.below); clear hd3))
                            go_wp2_with (first | (go_at_call 35; refine (HASK.out _).mono ?_; rintro e w4 ⟨v0, v1, v2, v3, rfl, hb4⟩; have E4 := Aside0.mk ((E3.out.below hb4).below (below_alloc (Below.refl _ _) (.cells #[.int .u8 v0, .string v1, .int .i64 v2, .int .i64 v3] 80))); clear hb4))
                            go_roundg (k1 * 8002 + (d :: u).length + 1)
                            case measure => exact HM.out
                            case rel => exact ⟨k1, out ++ [92], d :: u, A, ⟨rfl, HR3.out, HF.out⟩, by rw [HZV.out], by rw [HOV.out], E4⟩
                        · have f119 : ((C == 119) : Bool) = false := hCd 119 h119
                          obtain ⟨Z, hZ⟩ : ∃ Z, mkB (u) = Z := ⟨_, rfl⟩
                          have HZV := Aside0.mk hZ
                          have g3 : S.extract 2 S.size = Z := by rw [← hS, ← hZ, extract_mkB, size_mkB, List.take_length]; rfl
                          obtain ⟨C1, hC1⟩ : ∃ Z, mkB [92, d] = Z := ⟨_, rfl⟩
                          have g4 : S.extract 0 2 = C1 := by rw [← hS, ← hC1, extract_mkB]; rfl
                          obtain ⟨O2, hO2⟩ : ∃ O2, O ++ C1 = O2 := ⟨_, rfl⟩
                          have HOV := Aside0.mk (show O2 = mkB (out ++ [92, d]) by rw [← hO2, ← hO, ← hC1, append_mkB])
                          have k18 : ((9223372036854775807 : Nat) < O.size + C1.size) = False := eq_false (by rw [← hC1, size_mkB]; have := HOS.out; have := HX.out; simp only [List.length_cons, List.length_nil]; omega)
                          have HOZ := Aside0.mk (show O2.size + Z.size ≤ 8000 by rw [HOV.out, ← hZ, size_mkB, size_mkB]; have := HX.out; simp only [List.length_append, List.length_cons, List.length_nil]; omega)
                          have e1 : decide ((8000 : Int) < wrap64 ((O2.size : Int) + (Z.size : Int))) = false := by have h1 := HOZ.out; rw [w64 (by omega) (by omega)]; exact decide_eq_false (by omega)
                          have e2 : ((8000 : Int) < wrap64 ((O2.size : Int) + (Z.size : Int))) = False := by have h1 := HOZ.out; rw [w64 (by omega) (by omega)]; exact eq_false (by omega)
                          have HR3 := Aside0.mk (show ex false (anL L) k1 (out ++ [92, d]) (u) A = R by rw [HRX.out, exTail, if_neg h34, if_neg (by rw [show in3 d = false by unfold in3; rw [beq_eq_false_iff_ne.2 h110, beq_eq_false_iff_ne.2 h42, beq_eq_false_iff_ne.2 h36]; rfl, beq_eq_false_iff_ne.2 h119]; decide), if_neg (by rw [Bool.false_and]; decide)])
                          have HF := Aside0.mk (show need A (u) < k1 ∧ (out ++ [92, d]).length + (u).length ≤ 8000 ∧ k1 ≤ n ∧ A.length ≤ 500 from ⟨HNK2 _ (by simp only [List.length_cons]; omega), by simp only [List.length_append, List.length_cons, List.length_nil]; have := HX.out; omega, by have := HQ.out; omega, by have := HQ.out; omega⟩)
                          have HM := Aside0.mk (show k1 * 8002 + (u).length + 1 < (k1 + 1) * 8002 + (92 :: d :: u).length + 1 by have := HX.out; simp only [List.length_cons]; omega)
                          rw [hS, hO]
                          clear hS hO H1 hsz hc0 hq hS3 hC hCd hCe hK2 hcut hes HNK2 hlen hz h9 hZ hC1 h34 h110 h42 h36 h119
                          as_aux_lemma =>
                            go_wp2_with (first | (go_at_call 34; refine (frisketref04_WidthAt.calls K2 _ _ _ _ HV.out).mono ?_; rintro e w3 ⟨rfl, hd3⟩; have E3 := Aside0.mk (HS.out.below hd3.below); clear hd3))
                            go_wp2_with (first | (go_at_call 35; refine (HASK.out _).mono ?_; rintro e w4 ⟨v0, v1, v2, v3, rfl, hb4⟩; have E4 := Aside0.mk ((E3.out.below hb4).below (below_alloc (Below.refl _ _) (.cells #[.int .u8 v0, .string v1, .int .i64 v2, .int .i64 v3] 80))); clear hb4))
                            go_roundg (k1 * 8002 + (u).length + 1)
                            case measure => exact HM.out
                            case rel => exact ⟨k1, out ++ [92, d], u, A, ⟨rfl, HR3.out, HF.out⟩, by rw [HZV.out], by rw [HOV.out], E4⟩
              | true =>
                by_cases h0 : (0 : Int) < n9
                · have y1 : decide ((0 : Int) < n9) = true := decide_eq_true h0
                  have y2 : ((0 : Int) < n9) = True := eq_true h0
                  clear h0
                  by_cases h34 : d = 34
                  · have f1 : ((C == 34) : Bool) = true := hCe 34 h34
                    have HR3 := Aside0.mk (show R = .ok out A by rw [HRX.out, exTail, if_pos h34])
                    have HOV := Aside0.mk hO
                    rw [hS, hO]
                    clear hS hO H1 hsz hc0 hq hS3 hC hCd hCe hK2 hcut hes HNK2 hlen hz h9 h34
                    as_aux_lemma =>
                      go_wp2_with (first | (go_at_call 34; refine (frisketref04_WidthAt.calls K2 _ _ _ _ HV.out).mono ?_; rintro e w3 ⟨rfl, hd3⟩; have E3 := Aside0.mk (HS.out.below hd3.below); clear hd3))
                      go_wp2_with (first | (go_at_call 35; refine (HASK.out _).mono ?_; rintro e w4 ⟨v0, v1, v2, v3, rfl, hb4⟩; have E4 := Aside0.mk ((E3.out.below hb4).below (below_alloc (Below.refl _ _) (.cells #[.int .u8 v0, .string v1, .int .i64 v2, .int .i64 v3] 80))); clear hb4))
                      refine bodyPost_ret (results_tmp2 rfl _ _ _) rfl ?_
                      rw [HR3.out]
                      exact ⟨congrArg (fun s => Ending.returned (.tuple #[.string s, .bool true])) HOV.out.symm, E4.out⟩
                  · have f1 : ((C == 34) : Bool) = false := hCd 34 h34
                    by_cases h92 : d = 92
                    · have f92 : ((C == 92) : Bool) = true := hCe 92 h92
                      obtain ⟨Z, hZ⟩ : ∃ Z, mkB (u) = Z := ⟨_, rfl⟩
                      have HZV := Aside0.mk hZ
                      have g3 : S.extract 2 S.size = Z := by rw [← hS, ← hZ, extract_mkB, size_mkB, List.take_length]; rfl
                      obtain ⟨C1, hC1⟩ : ∃ Z, mkB [d] = Z := ⟨_, rfl⟩
                      have g4 : S.extract 1 2 = C1 := by rw [← hS, ← hC1, extract_mkB]; rfl
                      obtain ⟨O2, hO2⟩ : ∃ O2, O ++ C1 = O2 := ⟨_, rfl⟩
                      have HOV := Aside0.mk (show O2 = mkB (out ++ [d]) by rw [← hO2, ← hO, ← hC1, append_mkB])
                      have k18 : ((9223372036854775807 : Nat) < O.size + C1.size) = False := eq_false (by rw [← hC1, size_mkB]; have := HOS.out; have := HX.out; simp only [List.length_cons, List.length_nil]; omega)
                      have HOZ := Aside0.mk (show O2.size + Z.size ≤ 8000 by rw [HOV.out, ← hZ, size_mkB, size_mkB]; have := HX.out; simp only [List.length_append, List.length_cons, List.length_nil]; omega)
                      have e1 : decide ((8000 : Int) < wrap64 ((O2.size : Int) + (Z.size : Int))) = false := by have h1 := HOZ.out; rw [w64 (by omega) (by omega)]; exact decide_eq_false (by omega)
                      have e2 : ((8000 : Int) < wrap64 ((O2.size : Int) + (Z.size : Int))) = False := by have h1 := HOZ.out; rw [w64 (by omega) (by omega)]; exact eq_false (by omega)
                      have HR3 := Aside0.mk (show ex true (anL L) k1 (out ++ [d]) (u) A = R by rw [HRX.out, exTail, if_neg h34, if_neg (by rw [h92]; decide), if_pos (by rw [h92]; decide)])
                      have HF := Aside0.mk (show need A (u) < k1 ∧ (out ++ [d]).length + (u).length ≤ 8000 ∧ k1 ≤ n ∧ A.length ≤ 500 from ⟨HNK2 _ (by simp only [List.length_cons]; omega), by simp only [List.length_append, List.length_cons, List.length_nil]; have := HX.out; omega, by have := HQ.out; omega, by have := HQ.out; omega⟩)
                      have HM := Aside0.mk (show k1 * 8002 + (u).length + 1 < (k1 + 1) * 8002 + (92 :: d :: u).length + 1 by have := HX.out; simp only [List.length_cons]; omega)
                      rw [hS, hO]
                      clear hS hO H1 hsz hc0 hq hS3 hC hCd hCe hK2 hcut hes HNK2 hlen hz h9 hZ hC1 h34 h92
                      as_aux_lemma =>
                        go_wp2_with (first | (go_at_call 34; refine (frisketref04_WidthAt.calls K2 _ _ _ _ HV.out).mono ?_; rintro e w3 ⟨rfl, hd3⟩; have E3 := Aside0.mk (HS.out.below hd3.below); clear hd3))
                        go_wp2_with (first | (go_at_call 35; refine (HASK.out _).mono ?_; rintro e w4 ⟨v0, v1, v2, v3, rfl, hb4⟩; have E4 := Aside0.mk ((E3.out.below hb4).below (below_alloc (Below.refl _ _) (.cells #[.int .u8 v0, .string v1, .int .i64 v2, .int .i64 v3] 80))); clear hb4))
                        go_roundg (k1 * 8002 + (u).length + 1)
                        case measure => exact HM.out
                        case rel => exact ⟨k1, out ++ [d], u, A, ⟨rfl, HR3.out, HF.out⟩, by rw [HZV.out], by rw [HOV.out], E4⟩
                    · have f92 : ((C == 92) : Bool) = false := hCd 92 h92
                      by_cases h46 : d = 46
                      · have f46 : ((C == 46) : Bool) = true := hCe 46 h46
                        obtain ⟨Z, hZ⟩ : ∃ Z, mkB (u) = Z := ⟨_, rfl⟩
                        have HZV := Aside0.mk hZ
                        have g3 : S.extract 2 S.size = Z := by rw [← hS, ← hZ, extract_mkB, size_mkB, List.take_length]; rfl
                        obtain ⟨C1, hC1⟩ : ∃ Z, mkB [d] = Z := ⟨_, rfl⟩
                        have g4 : S.extract 1 2 = C1 := by rw [← hS, ← hC1, extract_mkB]; rfl
                        obtain ⟨O2, hO2⟩ : ∃ O2, O ++ C1 = O2 := ⟨_, rfl⟩
                        have HOV := Aside0.mk (show O2 = mkB (out ++ [d]) by rw [← hO2, ← hO, ← hC1, append_mkB])
                        have k18 : ((9223372036854775807 : Nat) < O.size + C1.size) = False := eq_false (by rw [← hC1, size_mkB]; have := HOS.out; have := HX.out; simp only [List.length_cons, List.length_nil]; omega)
                        have HOZ := Aside0.mk (show O2.size + Z.size ≤ 8000 by rw [HOV.out, ← hZ, size_mkB, size_mkB]; have := HX.out; simp only [List.length_append, List.length_cons, List.length_nil]; omega)
                        have e1 : decide ((8000 : Int) < wrap64 ((O2.size : Int) + (Z.size : Int))) = false := by have h1 := HOZ.out; rw [w64 (by omega) (by omega)]; exact decide_eq_false (by omega)
                        have e2 : ((8000 : Int) < wrap64 ((O2.size : Int) + (Z.size : Int))) = False := by have h1 := HOZ.out; rw [w64 (by omega) (by omega)]; exact eq_false (by omega)
                        have HR3 := Aside0.mk (show ex true (anL L) k1 (out ++ [d]) (u) A = R by rw [HRX.out, exTail, if_neg h34, if_neg (by rw [h46]; decide), if_pos (by rw [h46]; decide)])
                        have HF := Aside0.mk (show need A (u) < k1 ∧ (out ++ [d]).length + (u).length ≤ 8000 ∧ k1 ≤ n ∧ A.length ≤ 500 from ⟨HNK2 _ (by simp only [List.length_cons]; omega), by simp only [List.length_append, List.length_cons, List.length_nil]; have := HX.out; omega, by have := HQ.out; omega, by have := HQ.out; omega⟩)
                        have HM := Aside0.mk (show k1 * 8002 + (u).length + 1 < (k1 + 1) * 8002 + (92 :: d :: u).length + 1 by have := HX.out; simp only [List.length_cons]; omega)
                        rw [hS, hO]
                        clear hS hO H1 hsz hc0 hq hS3 hC hCd hCe hK2 hcut hes HNK2 hlen hz h9 hZ hC1 h34 h46 h92
                        as_aux_lemma =>
                          go_wp2_with (first | (go_at_call 34; refine (frisketref04_WidthAt.calls K2 _ _ _ _ HV.out).mono ?_; rintro e w3 ⟨rfl, hd3⟩; have E3 := Aside0.mk (HS.out.below hd3.below); clear hd3))
                          go_wp2_with (first | (go_at_call 35; refine (HASK.out _).mono ?_; rintro e w4 ⟨v0, v1, v2, v3, rfl, hb4⟩; have E4 := Aside0.mk ((E3.out.below hb4).below (below_alloc (Below.refl _ _) (.cells #[.int .u8 v0, .string v1, .int .i64 v2, .int .i64 v3] 80))); clear hb4))
                          go_roundg (k1 * 8002 + (u).length + 1)
                          case measure => exact HM.out
                          case rel => exact ⟨k1, out ++ [d], u, A, ⟨rfl, HR3.out, HF.out⟩, by rw [HZV.out], by rw [HOV.out], E4⟩
                      · have f46 : ((C == 46) : Bool) = false := hCd 46 h46
                        by_cases h110 : d = 110
                        · have f110 : ((C == 110) : Bool) = true := hCe 110 h110
                          obtain ⟨Z, hZ⟩ : ∃ Z, mkB (d :: u) = Z := ⟨_, rfl⟩
                          have HZV := Aside0.mk hZ
                          have g3 : S.extract 1 S.size = Z := by rw [← hS, ← hZ, extract_mkB, size_mkB, List.take_length]; rfl
                          obtain ⟨C1, hC1⟩ : ∃ Z, mkB [92] = Z := ⟨_, rfl⟩
                          have g4 : S.extract 0 1 = C1 := by rw [← hS, ← hC1, extract_mkB]; rfl
                          obtain ⟨O2, hO2⟩ : ∃ O2, O ++ C1 = O2 := ⟨_, rfl⟩
                          have HOV := Aside0.mk (show O2 = mkB (out ++ [92]) by rw [← hO2, ← hO, ← hC1, append_mkB])
                          have k18 : ((9223372036854775807 : Nat) < O.size + C1.size) = False := eq_false (by rw [← hC1, size_mkB]; have := HOS.out; have := HX.out; simp only [List.length_cons, List.length_nil]; omega)
                          have HOZ := Aside0.mk (show O2.size + Z.size ≤ 8000 by rw [HOV.out, ← hZ, size_mkB, size_mkB]; have := HX.out; simp only [List.length_append, List.length_cons, List.length_nil]; omega)
                          have e1 : decide ((8000 : Int) < wrap64 ((O2.size : Int) + (Z.size : Int))) = false := by have h1 := HOZ.out; rw [w64 (by omega) (by omega)]; exact decide_eq_false (by omega)
                          have e2 : ((8000 : Int) < wrap64 ((O2.size : Int) + (Z.size : Int))) = False := by have h1 := HOZ.out; rw [w64 (by omega) (by omega)]; exact eq_false (by omega)
                          have HR3 := Aside0.mk (show ex true (anL L) k1 (out ++ [92]) (d :: u) A = R by rw [HRX.out, exTail, if_neg h34, if_pos (by rw [h110]; rfl)])
                          have HF := Aside0.mk (show need A (d :: u) < k1 ∧ (out ++ [92]).length + (d :: u).length ≤ 8000 ∧ k1 ≤ n ∧ A.length ≤ 500 from ⟨HNK2 _ (by simp only [List.length_cons]; omega), by simp only [List.length_append, List.length_cons, List.length_nil]; have := HX.out; omega, by have := HQ.out; omega, by have := HQ.out; omega⟩)
                          have HM := Aside0.mk (show k1 * 8002 + (d :: u).length + 1 < (k1 + 1) * 8002 + (92 :: d :: u).length + 1 by have := HX.out; simp only [List.length_cons]; omega)
                          rw [hS, hO]
                          clear hS hO H1 hsz hc0 hq hS3 hC hCd hCe hK2 hcut hes HNK2 hlen hz h9 hZ hC1 h34 h110 h92 h46
                          as_aux_lemma =>
                            go_wp2_with (first | (go_at_call 34; refine (frisketref04_WidthAt.calls K2 _ _ _ _ HV.out).mono ?_; rintro e w3 ⟨rfl, hd3⟩; have E3 := Aside0.mk (HS.out.below hd3.below); clear hd3))
                            go_wp2_with (first | (go_at_call 35; refine (HASK.out _).mono ?_; rintro e w4 ⟨v0, v1, v2, v3, rfl, hb4⟩; have E4 := Aside0.mk ((E3.out.below hb4).below (below_alloc (Below.refl _ _) (.cells #[.int .u8 v0, .string v1, .int .i64 v2, .int .i64 v3] 80))); clear hb4))
                            go_roundg (k1 * 8002 + (d :: u).length + 1)
                            case measure => exact HM.out
                            case rel => exact ⟨k1, out ++ [92], d :: u, A, ⟨rfl, HR3.out, HF.out⟩, by rw [HZV.out], by rw [HOV.out], E4⟩
                        · have f110 : ((C == 110) : Bool) = false := hCd 110 h110
                          by_cases h42 : d = 42
                          · have f42 : ((C == 42) : Bool) = true := hCe 42 h42
                            obtain ⟨Z, hZ⟩ : ∃ Z, mkB (d :: u) = Z := ⟨_, rfl⟩
                            have HZV := Aside0.mk hZ
                            have g3 : S.extract 1 S.size = Z := by rw [← hS, ← hZ, extract_mkB, size_mkB, List.take_length]; rfl
                            obtain ⟨C1, hC1⟩ : ∃ Z, mkB [92] = Z := ⟨_, rfl⟩
                            have g4 : S.extract 0 1 = C1 := by rw [← hS, ← hC1, extract_mkB]; rfl
                            obtain ⟨O2, hO2⟩ : ∃ O2, O ++ C1 = O2 := ⟨_, rfl⟩
                            have HOV := Aside0.mk (show O2 = mkB (out ++ [92]) by rw [← hO2, ← hO, ← hC1, append_mkB])
                            have k18 : ((9223372036854775807 : Nat) < O.size + C1.size) = False := eq_false (by rw [← hC1, size_mkB]; have := HOS.out; have := HX.out; simp only [List.length_cons, List.length_nil]; omega)
                            have HOZ := Aside0.mk (show O2.size + Z.size ≤ 8000 by rw [HOV.out, ← hZ, size_mkB, size_mkB]; have := HX.out; simp only [List.length_append, List.length_cons, List.length_nil]; omega)
                            have e1 : decide ((8000 : Int) < wrap64 ((O2.size : Int) + (Z.size : Int))) = false := by have h1 := HOZ.out; rw [w64 (by omega) (by omega)]; exact decide_eq_false (by omega)
                            have e2 : ((8000 : Int) < wrap64 ((O2.size : Int) + (Z.size : Int))) = False := by have h1 := HOZ.out; rw [w64 (by omega) (by omega)]; exact eq_false (by omega)
                            have HR3 := Aside0.mk (show ex true (anL L) k1 (out ++ [92]) (d :: u) A = R by rw [HRX.out, exTail, if_neg h34, if_pos (by rw [h42]; rfl)])
                            have HF := Aside0.mk (show need A (d :: u) < k1 ∧ (out ++ [92]).length + (d :: u).length ≤ 8000 ∧ k1 ≤ n ∧ A.length ≤ 500 from ⟨HNK2 _ (by simp only [List.length_cons]; omega), by simp only [List.length_append, List.length_cons, List.length_nil]; have := HX.out; omega, by have := HQ.out; omega, by have := HQ.out; omega⟩)
                            have HM := Aside0.mk (show k1 * 8002 + (d :: u).length + 1 < (k1 + 1) * 8002 + (92 :: d :: u).length + 1 by have := HX.out; simp only [List.length_cons]; omega)
                            rw [hS, hO]
                            clear hS hO H1 hsz hc0 hq hS3 hC hCd hCe hK2 hcut hes HNK2 hlen hz h9 hZ hC1 h34 h42 h92 h46 h110
                            as_aux_lemma =>
                              go_wp2_with (first | (go_at_call 34; refine (frisketref04_WidthAt.calls K2 _ _ _ _ HV.out).mono ?_; rintro e w3 ⟨rfl, hd3⟩; have E3 := Aside0.mk (HS.out.below hd3.below); clear hd3))
                              go_wp2_with (first | (go_at_call 35; refine (HASK.out _).mono ?_; rintro e w4 ⟨v0, v1, v2, v3, rfl, hb4⟩; have E4 := Aside0.mk ((E3.out.below hb4).below (below_alloc (Below.refl _ _) (.cells #[.int .u8 v0, .string v1, .int .i64 v2, .int .i64 v3] 80))); clear hb4))
                              go_roundg (k1 * 8002 + (d :: u).length + 1)
                              case measure => exact HM.out
                              case rel => exact ⟨k1, out ++ [92], d :: u, A, ⟨rfl, HR3.out, HF.out⟩, by rw [HZV.out], by rw [HOV.out], E4⟩
                          · have f42 : ((C == 42) : Bool) = false := hCd 42 h42
                            by_cases h36 : d = 36
                            · have f36 : ((C == 36) : Bool) = true := hCe 36 h36
                              obtain ⟨Z, hZ⟩ : ∃ Z, mkB (d :: u) = Z := ⟨_, rfl⟩
                              have HZV := Aside0.mk hZ
                              have g3 : S.extract 1 S.size = Z := by rw [← hS, ← hZ, extract_mkB, size_mkB, List.take_length]; rfl
                              obtain ⟨C1, hC1⟩ : ∃ Z, mkB [92] = Z := ⟨_, rfl⟩
                              have g4 : S.extract 0 1 = C1 := by rw [← hS, ← hC1, extract_mkB]; rfl
                              obtain ⟨O2, hO2⟩ : ∃ O2, O ++ C1 = O2 := ⟨_, rfl⟩
                              have HOV := Aside0.mk (show O2 = mkB (out ++ [92]) by rw [← hO2, ← hO, ← hC1, append_mkB])
                              have k18 : ((9223372036854775807 : Nat) < O.size + C1.size) = False := eq_false (by rw [← hC1, size_mkB]; have := HOS.out; have := HX.out; simp only [List.length_cons, List.length_nil]; omega)
                              have HOZ := Aside0.mk (show O2.size + Z.size ≤ 8000 by rw [HOV.out, ← hZ, size_mkB, size_mkB]; have := HX.out; simp only [List.length_append, List.length_cons, List.length_nil]; omega)
                              have e1 : decide ((8000 : Int) < wrap64 ((O2.size : Int) + (Z.size : Int))) = false := by have h1 := HOZ.out; rw [w64 (by omega) (by omega)]; exact decide_eq_false (by omega)
                              have e2 : ((8000 : Int) < wrap64 ((O2.size : Int) + (Z.size : Int))) = False := by have h1 := HOZ.out; rw [w64 (by omega) (by omega)]; exact eq_false (by omega)
                              have HR3 := Aside0.mk (show ex true (anL L) k1 (out ++ [92]) (d :: u) A = R by rw [HRX.out, exTail, if_neg h34, if_pos (by rw [h36]; rfl)])
                              have HF := Aside0.mk (show need A (d :: u) < k1 ∧ (out ++ [92]).length + (d :: u).length ≤ 8000 ∧ k1 ≤ n ∧ A.length ≤ 500 from ⟨HNK2 _ (by simp only [List.length_cons]; omega), by simp only [List.length_append, List.length_cons, List.length_nil]; have := HX.out; omega, by have := HQ.out; omega, by have := HQ.out; omega⟩)
                              have HM := Aside0.mk (show k1 * 8002 + (d :: u).length + 1 < (k1 + 1) * 8002 + (92 :: d :: u).length + 1 by have := HX.out; simp only [List.length_cons]; omega)
                              rw [hS, hO]
                              clear hS hO H1 hsz hc0 hq hS3 hC hCd hCe hK2 hcut hes HNK2 hlen hz h9 hZ hC1 h34 h36 h92 h46 h110 h42
                              as_aux_lemma =>
                                go_wp2_with (first | (go_at_call 34; refine (frisketref04_WidthAt.calls K2 _ _ _ _ HV.out).mono ?_; rintro e w3 ⟨rfl, hd3⟩; have E3 := Aside0.mk (HS.out.below hd3.below); clear hd3))
                                go_wp2_with (first | (go_at_call 35; refine (HASK.out _).mono ?_; rintro e w4 ⟨v0, v1, v2, v3, rfl, hb4⟩; have E4 := Aside0.mk ((E3.out.below hb4).below (below_alloc (Below.refl _ _) (.cells #[.int .u8 v0, .string v1, .int .i64 v2, .int .i64 v3] 80))); clear hb4))
                                go_roundg (k1 * 8002 + (d :: u).length + 1)
                                case measure => exact HM.out
                                case rel => exact ⟨k1, out ++ [92], d :: u, A, ⟨rfl, HR3.out, HF.out⟩, by rw [HZV.out], by rw [HOV.out], E4⟩
                            · have f36 : ((C == 36) : Bool) = false := hCd 36 h36
                              cases h119 : (C == 119 : Bool) with
                              | true =>
                                obtain ⟨Z, hZ⟩ : ∃ Z, mkB (u) = Z := ⟨_, rfl⟩
                                have HZV := Aside0.mk hZ
                                have g3 : S.extract 2 S.size = Z := by rw [← hS, ← hZ, extract_mkB, size_mkB, List.take_length]; rfl
                                obtain ⟨C1, hC1⟩ : ∃ Z, mkB [92, d] = Z := ⟨_, rfl⟩
                                have g4 : S.extract 0 2 = C1 := by rw [← hS, ← hC1, extract_mkB]; rfl
                                obtain ⟨O2, hO2⟩ : ∃ O2, O ++ C1 = O2 := ⟨_, rfl⟩
                                have HOV := Aside0.mk (show O2 = mkB (out ++ [92, d]) by rw [← hO2, ← hO, ← hC1, append_mkB])
                                have k18 : ((9223372036854775807 : Nat) < O.size + C1.size) = False := eq_false (by rw [← hC1, size_mkB]; have := HOS.out; have := HX.out; simp only [List.length_cons, List.length_nil]; omega)
                                have HOZ := Aside0.mk (show O2.size + Z.size ≤ 8000 by rw [HOV.out, ← hZ, size_mkB, size_mkB]; have := HX.out; simp only [List.length_append, List.length_cons, List.length_nil]; omega)
                                have e1 : decide ((8000 : Int) < wrap64 ((O2.size : Int) + (Z.size : Int))) = false := by have h1 := HOZ.out; rw [w64 (by omega) (by omega)]; exact decide_eq_false (by omega)
                                have e2 : ((8000 : Int) < wrap64 ((O2.size : Int) + (Z.size : Int))) = False := by have h1 := HOZ.out; rw [w64 (by omega) (by omega)]; exact eq_false (by omega)
                                have HR3 := Aside0.mk (show ex true (anL L) k1 (out ++ [92, d]) (u) A = R by rw [HRX.out, exTail, if_neg h34, if_neg (by rw [show in3 d = false by unfold in3; rw [beq_eq_false_iff_ne.2 h110, beq_eq_false_iff_ne.2 h42, beq_eq_false_iff_ne.2 h36]; rfl, Bool.not_true, Bool.and_false]; decide), if_neg (by rw [beq_eq_false_iff_ne.2 h92, beq_eq_false_iff_ne.2 h46]; decide)])
                                have HF := Aside0.mk (show need A (u) < k1 ∧ (out ++ [92, d]).length + (u).length ≤ 8000 ∧ k1 ≤ n ∧ A.length ≤ 500 from ⟨HNK2 _ (by simp only [List.length_cons]; omega), by simp only [List.length_append, List.length_cons, List.length_nil]; have := HX.out; omega, by have := HQ.out; omega, by have := HQ.out; omega⟩)
                                have HM := Aside0.mk (show k1 * 8002 + (u).length + 1 < (k1 + 1) * 8002 + (92 :: d :: u).length + 1 by have := HX.out; simp only [List.length_cons]; omega)
                                rw [hS, hO]
                                clear hS hO H1 hsz hc0 hq hS3 hC hCd hCe hK2 hcut hes HNK2 hlen hz h9 hZ hC1 h34 h92 h46 h110 h42 h36
                                as_aux_lemma =>
                                  go_wp2_with (first | (go_at_call 34; refine (frisketref04_WidthAt.calls K2 _ _ _ _ HV.out).mono ?_; rintro e w3 ⟨rfl, hd3⟩; have E3 := Aside0.mk (HS.out.below hd3.below); clear hd3))
                                  go_wp2_with (first | (go_at_call 35; refine (HASK.out _).mono ?_; rintro e w4 ⟨v0, v1, v2, v3, rfl, hb4⟩; have E4 := Aside0.mk ((E3.out.below hb4).below (below_alloc (Below.refl _ _) (.cells #[.int .u8 v0, .string v1, .int .i64 v2, .int .i64 v3] 80))); clear hb4))
                                  go_roundg (k1 * 8002 + (u).length + 1)
                                  case measure => exact HM.out
                                  case rel => exact ⟨k1, out ++ [92, d], u, A, ⟨rfl, HR3.out, HF.out⟩, by rw [HZV.out], by rw [HOV.out], E4⟩
                              | false =>
                                obtain ⟨Z, hZ⟩ : ∃ Z, mkB (u) = Z := ⟨_, rfl⟩
                                have HZV := Aside0.mk hZ
                                have g3 : S.extract 2 S.size = Z := by rw [← hS, ← hZ, extract_mkB, size_mkB, List.take_length]; rfl
                                obtain ⟨C1, hC1⟩ : ∃ Z, mkB [92, d] = Z := ⟨_, rfl⟩
                                have g4 : S.extract 0 2 = C1 := by rw [← hS, ← hC1, extract_mkB]; rfl
                                obtain ⟨O2, hO2⟩ : ∃ O2, O ++ C1 = O2 := ⟨_, rfl⟩
                                have HOV := Aside0.mk (show O2 = mkB (out ++ [92, d]) by rw [← hO2, ← hO, ← hC1, append_mkB])
                                have k18 : ((9223372036854775807 : Nat) < O.size + C1.size) = False := eq_false (by rw [← hC1, size_mkB]; have := HOS.out; have := HX.out; simp only [List.length_cons, List.length_nil]; omega)
                                have HOZ := Aside0.mk (show O2.size + Z.size ≤ 8000 by rw [HOV.out, ← hZ, size_mkB, size_mkB]; have := HX.out; simp only [List.length_append, List.length_cons, List.length_nil]; omega)
                                have e1 : decide ((8000 : Int) < wrap64 ((O2.size : Int) + (Z.size : Int))) = false := by have h1 := HOZ.out; rw [w64 (by omega) (by omega)]; exact decide_eq_false (by omega)
                                have e2 : ((8000 : Int) < wrap64 ((O2.size : Int) + (Z.size : Int))) = False := by have h1 := HOZ.out; rw [w64 (by omega) (by omega)]; exact eq_false (by omega)
                                have HR3 := Aside0.mk (show ex true (anL L) k1 (out ++ [92, d]) (u) A = R by rw [HRX.out, exTail, if_neg h34, if_neg (by rw [show in3 d = false by unfold in3; rw [beq_eq_false_iff_ne.2 h110, beq_eq_false_iff_ne.2 h42, beq_eq_false_iff_ne.2 h36]; rfl, Bool.not_true, Bool.and_false]; decide), if_neg (by rw [beq_eq_false_iff_ne.2 h92, beq_eq_false_iff_ne.2 h46]; decide)])
                                have HF := Aside0.mk (show need A (u) < k1 ∧ (out ++ [92, d]).length + (u).length ≤ 8000 ∧ k1 ≤ n ∧ A.length ≤ 500 from ⟨HNK2 _ (by simp only [List.length_cons]; omega), by simp only [List.length_append, List.length_cons, List.length_nil]; have := HX.out; omega, by have := HQ.out; omega, by have := HQ.out; omega⟩)
                                have HM := Aside0.mk (show k1 * 8002 + (u).length + 1 < (k1 + 1) * 8002 + (92 :: d :: u).length + 1 by have := HX.out; simp only [List.length_cons]; omega)
                                rw [hS, hO]
                                clear hS hO H1 hsz hc0 hq hS3 hC hCd hCe hK2 hcut hes HNK2 hlen hz h9 hZ hC1 h34 h92 h46 h110 h42 h36
                                as_aux_lemma =>
                                  go_wp2_with (first | (go_at_call 34; refine (frisketref04_WidthAt.calls K2 _ _ _ _ HV.out).mono ?_; rintro e w3 ⟨rfl, hd3⟩; have E3 := Aside0.mk (HS.out.below hd3.below); clear hd3))
                                  go_wp2_with (first | (go_at_call 35; refine (HASK.out _).mono ?_; rintro e w4 ⟨v0, v1, v2, v3, rfl, hb4⟩; have E4 := Aside0.mk ((E3.out.below hb4).below (below_alloc (Below.refl _ _) (.cells #[.int .u8 v0, .string v1, .int .i64 v2, .int .i64 v3] 80))); clear hb4))
                                  go_roundg (k1 * 8002 + (u).length + 1)
                                  case measure => exact HM.out
                                  case rel => exact ⟨k1, out ++ [92, d], u, A, ⟨rfl, HR3.out, HF.out⟩, by rw [HZV.out], by rw [HOV.out], E4⟩
                · have y1 : decide ((0 : Int) < n9) = false := decide_eq_false h0
                  have y2 : ((0 : Int) < n9) = False := eq_false h0
                  clear h0
                  by_cases h34 : d = 34
                  · have f1 : ((C == 34) : Bool) = true := hCe 34 h34
                    have HR3 := Aside0.mk (show R = .ok out A by rw [HRX.out, exTail, if_pos h34])
                    have HOV := Aside0.mk hO
                    rw [hS, hO]
                    clear hS hO H1 hsz hc0 hq hS3 hC hCd hCe hK2 hcut hes HNK2 hlen hz h9 h34
                    as_aux_lemma =>
                      go_wp2_with (first | (go_at_call 34; refine (frisketref04_WidthAt.calls K2 _ _ _ _ HV.out).mono ?_; rintro e w3 ⟨rfl, hd3⟩; have E3 := Aside0.mk (HS.out.below hd3.below); clear hd3))
                      go_wp2_with (first | (go_at_call 35; refine (HASK.out _).mono ?_; rintro e w4 ⟨v0, v1, v2, v3, rfl, hb4⟩; have E4 := Aside0.mk ((E3.out.below hb4).below (below_alloc (Below.refl _ _) (.cells #[.int .u8 v0, .string v1, .int .i64 v2, .int .i64 v3] 80))); clear hb4))
                      refine bodyPost_ret (results_tmp2 rfl _ _ _) rfl ?_
                      rw [HR3.out]
                      exact ⟨congrArg (fun s => Ending.returned (.tuple #[.string s, .bool true])) HOV.out.symm, E4.out⟩
                  · have f1 : ((C == 34) : Bool) = false := hCd 34 h34
                    by_cases h92 : d = 92
                    · have f92 : ((C == 92) : Bool) = true := hCe 92 h92
                      obtain ⟨Z, hZ⟩ : ∃ Z, mkB (u) = Z := ⟨_, rfl⟩
                      have HZV := Aside0.mk hZ
                      have g3 : S.extract 2 S.size = Z := by rw [← hS, ← hZ, extract_mkB, size_mkB, List.take_length]; rfl
                      obtain ⟨C1, hC1⟩ : ∃ Z, mkB [d] = Z := ⟨_, rfl⟩
                      have g4 : S.extract 1 2 = C1 := by rw [← hS, ← hC1, extract_mkB]; rfl
                      obtain ⟨O2, hO2⟩ : ∃ O2, O ++ C1 = O2 := ⟨_, rfl⟩
                      have HOV := Aside0.mk (show O2 = mkB (out ++ [d]) by rw [← hO2, ← hO, ← hC1, append_mkB])
                      have k18 : ((9223372036854775807 : Nat) < O.size + C1.size) = False := eq_false (by rw [← hC1, size_mkB]; have := HOS.out; have := HX.out; simp only [List.length_cons, List.length_nil]; omega)
                      have HOZ := Aside0.mk (show O2.size + Z.size ≤ 8000 by rw [HOV.out, ← hZ, size_mkB, size_mkB]; have := HX.out; simp only [List.length_append, List.length_cons, List.length_nil]; omega)
                      have e1 : decide ((8000 : Int) < wrap64 ((O2.size : Int) + (Z.size : Int))) = false := by have h1 := HOZ.out; rw [w64 (by omega) (by omega)]; exact decide_eq_false (by omega)
                      have e2 : ((8000 : Int) < wrap64 ((O2.size : Int) + (Z.size : Int))) = False := by have h1 := HOZ.out; rw [w64 (by omega) (by omega)]; exact eq_false (by omega)
                      have HR3 := Aside0.mk (show ex true (anL L) k1 (out ++ [d]) (u) A = R by rw [HRX.out, exTail, if_neg h34, if_neg (by rw [h92]; decide), if_pos (by rw [h92]; decide)])
                      have HF := Aside0.mk (show need A (u) < k1 ∧ (out ++ [d]).length + (u).length ≤ 8000 ∧ k1 ≤ n ∧ A.length ≤ 500 from ⟨HNK2 _ (by simp only [List.length_cons]; omega), by simp only [List.length_append, List.length_cons, List.length_nil]; have := HX.out; omega, by have := HQ.out; omega, by have := HQ.out; omega⟩)
                      have HM := Aside0.mk (show k1 * 8002 + (u).length + 1 < (k1 + 1) * 8002 + (92 :: d :: u).length + 1 by have := HX.out; simp only [List.length_cons]; omega)
                      rw [hS, hO]
                      clear hS hO H1 hsz hc0 hq hS3 hC hCd hCe hK2 hcut hes HNK2 hlen hz h9 hZ hC1 h34 h92
                      as_aux_lemma =>
                        go_wp2_with (first | (go_at_call 34; refine (frisketref04_WidthAt.calls K2 _ _ _ _ HV.out).mono ?_; rintro e w3 ⟨rfl, hd3⟩; have E3 := Aside0.mk (HS.out.below hd3.below); clear hd3))
                        go_wp2_with (first | (go_at_call 35; refine (HASK.out _).mono ?_; rintro e w4 ⟨v0, v1, v2, v3, rfl, hb4⟩; have E4 := Aside0.mk ((E3.out.below hb4).below (below_alloc (Below.refl _ _) (.cells #[.int .u8 v0, .string v1, .int .i64 v2, .int .i64 v3] 80))); clear hb4))
                        go_roundg (k1 * 8002 + (u).length + 1)
                        case measure => exact HM.out
                        case rel => exact ⟨k1, out ++ [d], u, A, ⟨rfl, HR3.out, HF.out⟩, by rw [HZV.out], by rw [HOV.out], E4⟩
                    · have f92 : ((C == 92) : Bool) = false := hCd 92 h92
                      by_cases h46 : d = 46
                      · have f46 : ((C == 46) : Bool) = true := hCe 46 h46
                        obtain ⟨Z, hZ⟩ : ∃ Z, mkB (u) = Z := ⟨_, rfl⟩
                        have HZV := Aside0.mk hZ
                        have g3 : S.extract 2 S.size = Z := by rw [← hS, ← hZ, extract_mkB, size_mkB, List.take_length]; rfl
                        obtain ⟨C1, hC1⟩ : ∃ Z, mkB [d] = Z := ⟨_, rfl⟩
                        have g4 : S.extract 1 2 = C1 := by rw [← hS, ← hC1, extract_mkB]; rfl
                        obtain ⟨O2, hO2⟩ : ∃ O2, O ++ C1 = O2 := ⟨_, rfl⟩
                        have HOV := Aside0.mk (show O2 = mkB (out ++ [d]) by rw [← hO2, ← hO, ← hC1, append_mkB])
                        have k18 : ((9223372036854775807 : Nat) < O.size + C1.size) = False := eq_false (by rw [← hC1, size_mkB]; have := HOS.out; have := HX.out; simp only [List.length_cons, List.length_nil]; omega)
                        have HOZ := Aside0.mk (show O2.size + Z.size ≤ 8000 by rw [HOV.out, ← hZ, size_mkB, size_mkB]; have := HX.out; simp only [List.length_append, List.length_cons, List.length_nil]; omega)
                        have e1 : decide ((8000 : Int) < wrap64 ((O2.size : Int) + (Z.size : Int))) = false := by have h1 := HOZ.out; rw [w64 (by omega) (by omega)]; exact decide_eq_false (by omega)
                        have e2 : ((8000 : Int) < wrap64 ((O2.size : Int) + (Z.size : Int))) = False := by have h1 := HOZ.out; rw [w64 (by omega) (by omega)]; exact eq_false (by omega)
                        have HR3 := Aside0.mk (show ex true (anL L) k1 (out ++ [d]) (u) A = R by rw [HRX.out, exTail, if_neg h34, if_neg (by rw [h46]; decide), if_pos (by rw [h46]; decide)])
                        have HF := Aside0.mk (show need A (u) < k1 ∧ (out ++ [d]).length + (u).length ≤ 8000 ∧ k1 ≤ n ∧ A.length ≤ 500 from ⟨HNK2 _ (by simp only [List.length_cons]; omega), by simp only [List.length_append, List.length_cons, List.length_nil]; have := HX.out; omega, by have := HQ.out; omega, by have := HQ.out; omega⟩)
                        have HM := Aside0.mk (show k1 * 8002 + (u).length + 1 < (k1 + 1) * 8002 + (92 :: d :: u).length + 1 by have := HX.out; simp only [List.length_cons]; omega)
                        rw [hS, hO]
                        clear hS hO H1 hsz hc0 hq hS3 hC hCd hCe hK2 hcut hes HNK2 hlen hz h9 hZ hC1 h34 h46 h92
                        as_aux_lemma =>
                          go_wp2_with (first | (go_at_call 34; refine (frisketref04_WidthAt.calls K2 _ _ _ _ HV.out).mono ?_; rintro e w3 ⟨rfl, hd3⟩; have E3 := Aside0.mk (HS.out.below hd3.below); clear hd3))
                          go_wp2_with (first | (go_at_call 35; refine (HASK.out _).mono ?_; rintro e w4 ⟨v0, v1, v2, v3, rfl, hb4⟩; have E4 := Aside0.mk ((E3.out.below hb4).below (below_alloc (Below.refl _ _) (.cells #[.int .u8 v0, .string v1, .int .i64 v2, .int .i64 v3] 80))); clear hb4))
                          go_roundg (k1 * 8002 + (u).length + 1)
                          case measure => exact HM.out
                          case rel => exact ⟨k1, out ++ [d], u, A, ⟨rfl, HR3.out, HF.out⟩, by rw [HZV.out], by rw [HOV.out], E4⟩
                      · have f46 : ((C == 46) : Bool) = false := hCd 46 h46
                        by_cases h110 : d = 110
                        · have f110 : ((C == 110) : Bool) = true := hCe 110 h110
                          obtain ⟨Z, hZ⟩ : ∃ Z, mkB (d :: u) = Z := ⟨_, rfl⟩
                          have HZV := Aside0.mk hZ
                          have g3 : S.extract 1 S.size = Z := by rw [← hS, ← hZ, extract_mkB, size_mkB, List.take_length]; rfl
                          obtain ⟨C1, hC1⟩ : ∃ Z, mkB [92] = Z := ⟨_, rfl⟩
                          have g4 : S.extract 0 1 = C1 := by rw [← hS, ← hC1, extract_mkB]; rfl
                          obtain ⟨O2, hO2⟩ : ∃ O2, O ++ C1 = O2 := ⟨_, rfl⟩
                          have HOV := Aside0.mk (show O2 = mkB (out ++ [92]) by rw [← hO2, ← hO, ← hC1, append_mkB])
                          have k18 : ((9223372036854775807 : Nat) < O.size + C1.size) = False := eq_false (by rw [← hC1, size_mkB]; have := HOS.out; have := HX.out; simp only [List.length_cons, List.length_nil]; omega)
                          have HOZ := Aside0.mk (show O2.size + Z.size ≤ 8000 by rw [HOV.out, ← hZ, size_mkB, size_mkB]; have := HX.out; simp only [List.length_append, List.length_cons, List.length_nil]; omega)
                          have e1 : decide ((8000 : Int) < wrap64 ((O2.size : Int) + (Z.size : Int))) = false := by have h1 := HOZ.out; rw [w64 (by omega) (by omega)]; exact decide_eq_false (by omega)
                          have e2 : ((8000 : Int) < wrap64 ((O2.size : Int) + (Z.size : Int))) = False := by have h1 := HOZ.out; rw [w64 (by omega) (by omega)]; exact eq_false (by omega)
                          have HR3 := Aside0.mk (show ex true (anL L) k1 (out ++ [92]) (d :: u) A = R by rw [HRX.out, exTail, if_neg h34, if_pos (by rw [h110]; rfl)])
                          have HF := Aside0.mk (show need A (d :: u) < k1 ∧ (out ++ [92]).length + (d :: u).length ≤ 8000 ∧ k1 ≤ n ∧ A.length ≤ 500 from ⟨HNK2 _ (by simp only [List.length_cons]; omega), by simp only [List.length_append, List.length_cons, List.length_nil]; have := HX.out; omega, by have := HQ.out; omega, by have := HQ.out; omega⟩)
                          have HM := Aside0.mk (show k1 * 8002 + (d :: u).length + 1 < (k1 + 1) * 8002 + (92 :: d :: u).length + 1 by have := HX.out; simp only [List.length_cons]; omega)
                          rw [hS, hO]
                          clear hS hO H1 hsz hc0 hq hS3 hC hCd hCe hK2 hcut hes HNK2 hlen hz h9 hZ hC1 h34 h110 h92 h46
                          as_aux_lemma =>
                            go_wp2_with (first | (go_at_call 34; refine (frisketref04_WidthAt.calls K2 _ _ _ _ HV.out).mono ?_; rintro e w3 ⟨rfl, hd3⟩; have E3 := Aside0.mk (HS.out.below hd3.below); clear hd3))
                            go_wp2_with (first | (go_at_call 35; refine (HASK.out _).mono ?_; rintro e w4 ⟨v0, v1, v2, v3, rfl, hb4⟩; have E4 := Aside0.mk ((E3.out.below hb4).below (below_alloc (Below.refl _ _) (.cells #[.int .u8 v0, .string v1, .int .i64 v2, .int .i64 v3] 80))); clear hb4))
                            go_roundg (k1 * 8002 + (d :: u).length + 1)
                            case measure => exact HM.out
                            case rel => exact ⟨k1, out ++ [92], d :: u, A, ⟨rfl, HR3.out, HF.out⟩, by rw [HZV.out], by rw [HOV.out], E4⟩
                        · have f110 : ((C == 110) : Bool) = false := hCd 110 h110
                          by_cases h42 : d = 42
                          · have f42 : ((C == 42) : Bool) = true := hCe 42 h42
                            obtain ⟨Z, hZ⟩ : ∃ Z, mkB (d :: u) = Z := ⟨_, rfl⟩
                            have HZV := Aside0.mk hZ
                            have g3 : S.extract 1 S.size = Z := by rw [← hS, ← hZ, extract_mkB, size_mkB, List.take_length]; rfl
                            obtain ⟨C1, hC1⟩ : ∃ Z, mkB [92] = Z := ⟨_, rfl⟩
                            have g4 : S.extract 0 1 = C1 := by rw [← hS, ← hC1, extract_mkB]; rfl
                            obtain ⟨O2, hO2⟩ : ∃ O2, O ++ C1 = O2 := ⟨_, rfl⟩
                            have HOV := Aside0.mk (show O2 = mkB (out ++ [92]) by rw [← hO2, ← hO, ← hC1, append_mkB])
                            have k18 : ((9223372036854775807 : Nat) < O.size + C1.size) = False := eq_false (by rw [← hC1, size_mkB]; have := HOS.out; have := HX.out; simp only [List.length_cons, List.length_nil]; omega)
                            have HOZ := Aside0.mk (show O2.size + Z.size ≤ 8000 by rw [HOV.out, ← hZ, size_mkB, size_mkB]; have := HX.out; simp only [List.length_append, List.length_cons, List.length_nil]; omega)
                            have e1 : decide ((8000 : Int) < wrap64 ((O2.size : Int) + (Z.size : Int))) = false := by have h1 := HOZ.out; rw [w64 (by omega) (by omega)]; exact decide_eq_false (by omega)
                            have e2 : ((8000 : Int) < wrap64 ((O2.size : Int) + (Z.size : Int))) = False := by have h1 := HOZ.out; rw [w64 (by omega) (by omega)]; exact eq_false (by omega)
                            have HR3 := Aside0.mk (show ex true (anL L) k1 (out ++ [92]) (d :: u) A = R by rw [HRX.out, exTail, if_neg h34, if_pos (by rw [h42]; rfl)])
                            have HF := Aside0.mk (show need A (d :: u) < k1 ∧ (out ++ [92]).length + (d :: u).length ≤ 8000 ∧ k1 ≤ n ∧ A.length ≤ 500 from ⟨HNK2 _ (by simp only [List.length_cons]; omega), by simp only [List.length_append, List.length_cons, List.length_nil]; have := HX.out; omega, by have := HQ.out; omega, by have := HQ.out; omega⟩)
                            have HM := Aside0.mk (show k1 * 8002 + (d :: u).length + 1 < (k1 + 1) * 8002 + (92 :: d :: u).length + 1 by have := HX.out; simp only [List.length_cons]; omega)
                            rw [hS, hO]
                            clear hS hO H1 hsz hc0 hq hS3 hC hCd hCe hK2 hcut hes HNK2 hlen hz h9 hZ hC1 h34 h42 h92 h46 h110
                            as_aux_lemma =>
                              go_wp2_with (first | (go_at_call 34; refine (frisketref04_WidthAt.calls K2 _ _ _ _ HV.out).mono ?_; rintro e w3 ⟨rfl, hd3⟩; have E3 := Aside0.mk (HS.out.below hd3.below); clear hd3))
                              go_wp2_with (first | (go_at_call 35; refine (HASK.out _).mono ?_; rintro e w4 ⟨v0, v1, v2, v3, rfl, hb4⟩; have E4 := Aside0.mk ((E3.out.below hb4).below (below_alloc (Below.refl _ _) (.cells #[.int .u8 v0, .string v1, .int .i64 v2, .int .i64 v3] 80))); clear hb4))
                              go_roundg (k1 * 8002 + (d :: u).length + 1)
                              case measure => exact HM.out
                              case rel => exact ⟨k1, out ++ [92], d :: u, A, ⟨rfl, HR3.out, HF.out⟩, by rw [HZV.out], by rw [HOV.out], E4⟩
                          · have f42 : ((C == 42) : Bool) = false := hCd 42 h42
                            by_cases h36 : d = 36
                            · have f36 : ((C == 36) : Bool) = true := hCe 36 h36
                              obtain ⟨Z, hZ⟩ : ∃ Z, mkB (d :: u) = Z := ⟨_, rfl⟩
                              have HZV := Aside0.mk hZ
                              have g3 : S.extract 1 S.size = Z := by rw [← hS, ← hZ, extract_mkB, size_mkB, List.take_length]; rfl
                              obtain ⟨C1, hC1⟩ : ∃ Z, mkB [92] = Z := ⟨_, rfl⟩
                              have g4 : S.extract 0 1 = C1 := by rw [← hS, ← hC1, extract_mkB]; rfl
                              obtain ⟨O2, hO2⟩ : ∃ O2, O ++ C1 = O2 := ⟨_, rfl⟩
                              have HOV := Aside0.mk (show O2 = mkB (out ++ [92]) by rw [← hO2, ← hO, ← hC1, append_mkB])
                              have k18 : ((9223372036854775807 : Nat) < O.size + C1.size) = False := eq_false (by rw [← hC1, size_mkB]; have := HOS.out; have := HX.out; simp only [List.length_cons, List.length_nil]; omega)
                              have HOZ := Aside0.mk (show O2.size + Z.size ≤ 8000 by rw [HOV.out, ← hZ, size_mkB, size_mkB]; have := HX.out; simp only [List.length_append, List.length_cons, List.length_nil]; omega)
                              have e1 : decide ((8000 : Int) < wrap64 ((O2.size : Int) + (Z.size : Int))) = false := by have h1 := HOZ.out; rw [w64 (by omega) (by omega)]; exact decide_eq_false (by omega)
                              have e2 : ((8000 : Int) < wrap64 ((O2.size : Int) + (Z.size : Int))) = False := by have h1 := HOZ.out; rw [w64 (by omega) (by omega)]; exact eq_false (by omega)
                              have HR3 := Aside0.mk (show ex true (anL L) k1 (out ++ [92]) (d :: u) A = R by rw [HRX.out, exTail, if_neg h34, if_pos (by rw [h36]; rfl)])
                              have HF := Aside0.mk (show need A (d :: u) < k1 ∧ (out ++ [92]).length + (d :: u).length ≤ 8000 ∧ k1 ≤ n ∧ A.length ≤ 500 from ⟨HNK2 _ (by simp only [List.length_cons]; omega), by simp only [List.length_append, List.length_cons, List.length_nil]; have := HX.out; omega, by have := HQ.out; omega, by have := HQ.out; omega⟩)
                              have HM := Aside0.mk (show k1 * 8002 + (d :: u).length + 1 < (k1 + 1) * 8002 + (92 :: d :: u).length + 1 by have := HX.out; simp only [List.length_cons]; omega)
                              rw [hS, hO]
                              clear hS hO H1 hsz hc0 hq hS3 hC hCd hCe hK2 hcut hes HNK2 hlen hz h9 hZ hC1 h34 h36 h92 h46 h110 h42
                              as_aux_lemma =>
                                go_wp2_with (first | (go_at_call 34; refine (frisketref04_WidthAt.calls K2 _ _ _ _ HV.out).mono ?_; rintro e w3 ⟨rfl, hd3⟩; have E3 := Aside0.mk (HS.out.below hd3.below); clear hd3))
                                go_wp2_with (first | (go_at_call 35; refine (HASK.out _).mono ?_; rintro e w4 ⟨v0, v1, v2, v3, rfl, hb4⟩; have E4 := Aside0.mk ((E3.out.below hb4).below (below_alloc (Below.refl _ _) (.cells #[.int .u8 v0, .string v1, .int .i64 v2, .int .i64 v3] 80))); clear hb4))
                                go_roundg (k1 * 8002 + (d :: u).length + 1)
                                case measure => exact HM.out
                                case rel => exact ⟨k1, out ++ [92], d :: u, A, ⟨rfl, HR3.out, HF.out⟩, by rw [HZV.out], by rw [HOV.out], E4⟩
                            · have f36 : ((C == 36) : Bool) = false := hCd 36 h36
                              cases h119 : (C == 119 : Bool) with
                              | true =>
                                obtain ⟨Z, hZ⟩ : ∃ Z, mkB (u) = Z := ⟨_, rfl⟩
                                have HZV := Aside0.mk hZ
                                have g3 : S.extract 2 S.size = Z := by rw [← hS, ← hZ, extract_mkB, size_mkB, List.take_length]; rfl
                                obtain ⟨C1, hC1⟩ : ∃ Z, mkB [92, d] = Z := ⟨_, rfl⟩
                                have g4 : S.extract 0 2 = C1 := by rw [← hS, ← hC1, extract_mkB]; rfl
                                obtain ⟨O2, hO2⟩ : ∃ O2, O ++ C1 = O2 := ⟨_, rfl⟩
                                have HOV := Aside0.mk (show O2 = mkB (out ++ [92, d]) by rw [← hO2, ← hO, ← hC1, append_mkB])
                                have k18 : ((9223372036854775807 : Nat) < O.size + C1.size) = False := eq_false (by rw [← hC1, size_mkB]; have := HOS.out; have := HX.out; simp only [List.length_cons, List.length_nil]; omega)
                                have HOZ := Aside0.mk (show O2.size + Z.size ≤ 8000 by rw [HOV.out, ← hZ, size_mkB, size_mkB]; have := HX.out; simp only [List.length_append, List.length_cons, List.length_nil]; omega)
                                have e1 : decide ((8000 : Int) < wrap64 ((O2.size : Int) + (Z.size : Int))) = false := by have h1 := HOZ.out; rw [w64 (by omega) (by omega)]; exact decide_eq_false (by omega)
                                have e2 : ((8000 : Int) < wrap64 ((O2.size : Int) + (Z.size : Int))) = False := by have h1 := HOZ.out; rw [w64 (by omega) (by omega)]; exact eq_false (by omega)
                                have HR3 := Aside0.mk (show ex true (anL L) k1 (out ++ [92, d]) (u) A = R by rw [HRX.out, exTail, if_neg h34, if_neg (by rw [show in3 d = false by unfold in3; rw [beq_eq_false_iff_ne.2 h110, beq_eq_false_iff_ne.2 h42, beq_eq_false_iff_ne.2 h36]; rfl, Bool.not_true, Bool.and_false]; decide), if_neg (by rw [beq_eq_false_iff_ne.2 h92, beq_eq_false_iff_ne.2 h46]; decide)])
                                have HF := Aside0.mk (show need A (u) < k1 ∧ (out ++ [92, d]).length + (u).length ≤ 8000 ∧ k1 ≤ n ∧ A.length ≤ 500 from ⟨HNK2 _ (by simp only [List.length_cons]; omega), by simp only [List.length_append, List.length_cons, List.length_nil]; have := HX.out; omega, by have := HQ.out; omega, by have := HQ.out; omega⟩)
                                have HM := Aside0.mk (show k1 * 8002 + (u).length + 1 < (k1 + 1) * 8002 + (92 :: d :: u).length + 1 by have := HX.out; simp only [List.length_cons]; omega)
                                rw [hS, hO]
                                clear hS hO H1 hsz hc0 hq hS3 hC hCd hCe hK2 hcut hes HNK2 hlen hz h9 hZ hC1 h34 h92 h46 h110 h42 h36
                                as_aux_lemma =>
                                  go_wp2_with (first | (go_at_call 34; refine (frisketref04_WidthAt.calls K2 _ _ _ _ HV.out).mono ?_; rintro e w3 ⟨rfl, hd3⟩; have E3 := Aside0.mk (HS.out.below hd3.below); clear hd3))
                                  go_wp2_with (first | (go_at_call 35; refine (HASK.out _).mono ?_; rintro e w4 ⟨v0, v1, v2, v3, rfl, hb4⟩; have E4 := Aside0.mk ((E3.out.below hb4).below (below_alloc (Below.refl _ _) (.cells #[.int .u8 v0, .string v1, .int .i64 v2, .int .i64 v3] 80))); clear hb4))
                                  go_roundg (k1 * 8002 + (u).length + 1)
                                  case measure => exact HM.out
                                  case rel => exact ⟨k1, out ++ [92, d], u, A, ⟨rfl, HR3.out, HF.out⟩, by rw [HZV.out], by rw [HOV.out], E4⟩
                              | false =>
                                obtain ⟨Z, hZ⟩ : ∃ Z, mkB (u) = Z := ⟨_, rfl⟩
                                have HZV := Aside0.mk hZ
                                have g3 : S.extract 2 S.size = Z := by rw [← hS, ← hZ, extract_mkB, size_mkB, List.take_length]; rfl
                                obtain ⟨C1, hC1⟩ : ∃ Z, mkB [92, d] = Z := ⟨_, rfl⟩
                                have g4 : S.extract 0 2 = C1 := by rw [← hS, ← hC1, extract_mkB]; rfl
                                obtain ⟨O2, hO2⟩ : ∃ O2, O ++ C1 = O2 := ⟨_, rfl⟩
                                have HOV := Aside0.mk (show O2 = mkB (out ++ [92, d]) by rw [← hO2, ← hO, ← hC1, append_mkB])
                                have k18 : ((9223372036854775807 : Nat) < O.size + C1.size) = False := eq_false (by rw [← hC1, size_mkB]; have := HOS.out; have := HX.out; simp only [List.length_cons, List.length_nil]; omega)
                                have HOZ := Aside0.mk (show O2.size + Z.size ≤ 8000 by rw [HOV.out, ← hZ, size_mkB, size_mkB]; have := HX.out; simp only [List.length_append, List.length_cons, List.length_nil]; omega)
                                have e1 : decide ((8000 : Int) < wrap64 ((O2.size : Int) + (Z.size : Int))) = false := by have h1 := HOZ.out; rw [w64 (by omega) (by omega)]; exact decide_eq_false (by omega)
                                have e2 : ((8000 : Int) < wrap64 ((O2.size : Int) + (Z.size : Int))) = False := by have h1 := HOZ.out; rw [w64 (by omega) (by omega)]; exact eq_false (by omega)
                                have HR3 := Aside0.mk (show ex true (anL L) k1 (out ++ [92, d]) (u) A = R by rw [HRX.out, exTail, if_neg h34, if_neg (by rw [show in3 d = false by unfold in3; rw [beq_eq_false_iff_ne.2 h110, beq_eq_false_iff_ne.2 h42, beq_eq_false_iff_ne.2 h36]; rfl, Bool.not_true, Bool.and_false]; decide), if_neg (by rw [beq_eq_false_iff_ne.2 h92, beq_eq_false_iff_ne.2 h46]; decide)])
                                have HF := Aside0.mk (show need A (u) < k1 ∧ (out ++ [92, d]).length + (u).length ≤ 8000 ∧ k1 ≤ n ∧ A.length ≤ 500 from ⟨HNK2 _ (by simp only [List.length_cons]; omega), by simp only [List.length_append, List.length_cons, List.length_nil]; have := HX.out; omega, by have := HQ.out; omega, by have := HQ.out; omega⟩)
                                have HM := Aside0.mk (show k1 * 8002 + (u).length + 1 < (k1 + 1) * 8002 + (92 :: d :: u).length + 1 by have := HX.out; simp only [List.length_cons]; omega)
                                rw [hS, hO]
                                clear hS hO H1 hsz hc0 hq hS3 hC hCd hCe hK2 hcut hes HNK2 hlen hz h9 hZ hC1 h34 h92 h46 h110 h42 h36
                                as_aux_lemma =>
                                  go_wp2_with (first | (go_at_call 34; refine (frisketref04_WidthAt.calls K2 _ _ _ _ HV.out).mono ?_; rintro e w3 ⟨rfl, hd3⟩; have E3 := Aside0.mk (HS.out.below hd3.below); clear hd3))
                                  go_wp2_with (first | (go_at_call 35; refine (HASK.out _).mono ?_; rintro e w4 ⟨v0, v1, v2, v3, rfl, hb4⟩; have E4 := Aside0.mk ((E3.out.below hb4).below (below_alloc (Below.refl _ _) (.cells #[.int .u8 v0, .string v1, .int .i64 v2, .int .i64 v3] 80))); clear hb4))
                                  go_roundg (k1 * 8002 + (u).length + 1)
                                  case measure => exact HM.out
                                  case rel => exact ⟨k1, out ++ [92, d], u, A, ⟨rfl, HR3.out, HF.out⟩, by rw [HZV.out], by rw [HOV.out], E4⟩
      · have f0 : ((c0 == 92) : Bool) = false := beq_eq_false_iff_ne.2 (by intro e; rw [← hc0] at e; exact h92 (UInt8.toNat_inj.1 (by show c.toNat = 92; omega)))
        have f0b : (c0 != 92) = true := bne_iff_ne.2 (by intro e; rw [← hc0] at e; exact h92 (UInt8.toNat_inj.1 (by show c.toNat = 92; omega)))
        obtain ⟨Z, hZ⟩ : ∃ Z, mkB t = Z := ⟨_, rfl⟩
        have HZV := Aside0.mk hZ
        have g3 : S.extract 1 S.size = Z := by rw [← hS, ← hZ, extract_mkB, size_mkB, List.take_length]; rfl
        obtain ⟨C1, hC1⟩ : ∃ Z, mkB [c] = Z := ⟨_, rfl⟩
        have g4 : S.extract 0 1 = C1 := by rw [← hS, ← hC1, extract_mkB]; rfl
        obtain ⟨O2, hO2⟩ : ∃ O2, O ++ C1 = O2 := ⟨_, rfl⟩
        have HOV := Aside0.mk (show O2 = mkB (out ++ [c]) by rw [← hO2, ← hO, ← hC1, append_mkB])
        have k18 : ((9223372036854775807 : Nat) < O.size + C1.size) = False := eq_false (by rw [← hC1, size_mkB]; have := HOS.out; have := HQ.out; simp only [List.length_cons, List.length_nil]; omega)
        have HR3 := Aside0.mk (show ex cp (anL L) (k1 + 1) (out ++ [c]) t A = R by rw [← H1.out.1, ex_skip h92])
        have HF := Aside0.mk (show need A t < k1 + 1 ∧ (out ++ [c]).length + t.length ≤ 8000 ∧ k1 + 1 ≤ n ∧ A.length ≤ 500 from ⟨Nat.lt_succ_of_lt (HNK.out _ (by simp)), by simp only [List.length_append, List.length_cons, List.length_nil]; have := HX0.out; omega, by have := HQ.out; omega, by have := HQ.out; omega⟩)
        have HM := Aside0.mk (show (k1 + 1) * 8002 + t.length + 1 < (k1 + 1) * 8002 + (c :: t).length + 1 by simp only [List.length_cons]; omega)
        rw [hS, hO]
        clear hS hO H1 hZ hC1 hsz hc0 h92
        as_aux_lemma =>
          go_wp2
          go_roundg ((k1 + 1) * 8002 + (t).length + 1)
          case measure => exact HM.out
          case rel => exact ⟨k1 + 1, out ++ [c], t, A, ⟨rfl, HR3.out, HF.out⟩, by rw [HZV.out], by rw [HOV.out], HS⟩
end Go.Proofs.Ytpflnhbhgcediaa.Ex4
